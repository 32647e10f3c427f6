/- Functions of the program and what each answers: the kit's print, shortened (wip/press2.py). -/
import Derived.Test.YtgjljbaadglpnaaDoorPFnHeadGetx0
import Derived.Test.YtgjljbaadglpnaaDoorPFnHeadGetx8
namespace Go.Proofs.YtgjljbaadglpnaaDoor.PFnHeadGet
open Go.Proofs.YtgjljbaadglpnaaDoor.Sq Go.RowKit Go.Proofs.YtgjljbaadglpnaaDoorW.PrintWords Go.Proofs.YtgjljbaadglpnaaDoorW.PrintLast Go.Proofs.YtgjljbaadglpnaaDoorW.PrintMore
attribute [local go_sem] max2_int min2_int max_two min_two max_three min_three max_four min_four   -- for this text's walks alone
set_option linter.unusedVariables false
set_option linter.unusedSimpArgs false
set_option maxHeartbeats 64000000
set_option maxRecDepth 100000
mutual
def spec_l1Words.l0 : Nat → List Int → List Int → Int → Option (List Int)
 | 0, _, _, _ => none
 | k + 1, x0, x3, x4 => if x4 < 16 then (if 0 ≤ (wrap64 (4 * x4)) then (if (wrap64 (4 * x4)) < (x0.length : Int) then (if 0 ≤ (wrap64 ((wrap64 (4 * x4)) + 1)) then (if (wrap64 ((wrap64 (4 * x4)) + 1)) < (x0.length : Int) then (if 0 ≤ (wrap64 ((wrap64 (4 * x4)) + 2)) then (if (wrap64 ((wrap64 (4 * x4)) + 2)) < (x0.length : Int) then (if 0 ≤ (wrap64 ((wrap64 (4 * x4)) + 3)) then (if (wrap64 ((wrap64 (4 * x4)) + 3)) < (x0.length : Int) then (if 0 ≤ x4 then (if x4 < (x3.length : Int) then (spec_l1Words.l0 k x0 (x3.set (x4 : Int).toNat (Go.bits .or .i64 (Go.bits .or .i64 (Go.bits .or .i64 (wrap64 ((rd x0 (wrap64 (4 * x4))) * 16777216)) (wrap64 ((rd x0 (wrap64 ((wrap64 (4 * x4)) + 1))) * 65536))) (wrap64 ((rd x0 (wrap64 ((wrap64 (4 * x4)) + 2))) * 256))) (rd x0 (wrap64 ((wrap64 (4 * x4)) + 3))))) (wrap64 (x4 + 1))) else (none)) else (none)) else (none)) else (none)) else (none)) else (none)) else (none)) else (none)) else (none)) else (none)) else (spec_l1Words.l1 k x3 16)
def spec_l1Words.l1 : Nat → List Int → Int → Option (List Int)
 | 0, _, _ => none
 | k + 1, x3, x5 => if x5 < 64 then (if 0 ≤ (wrap64 (x5 - 15)) then (if (wrap64 (x5 - 15)) < (x3.length : Int) then (if 0 ≤ (wrap64 (x5 - 2)) then (if (wrap64 (x5 - 2)) < (x3.length : Int) then ((spec_l1Turn.f (rd x3 (wrap64 (x5 - 15))) 7).bind fun t236 => ((spec_l1Turn.f (rd x3 (wrap64 (x5 - 15))) 18).bind fun t237 => ((spec_l1Turn.f (rd x3 (wrap64 (x5 - 2))) 17).bind fun t238 => ((spec_l1Turn.f (rd x3 (wrap64 (x5 - 2))) 19).bind fun t239 => (if 0 ≤ (wrap64 (x5 - 16)) then (if (wrap64 (x5 - 16)) < (x3.length : Int) then (if 0 ≤ (wrap64 (x5 - 7)) then (if (wrap64 (x5 - 7)) < (x3.length : Int) then (if 0 ≤ x5 then (if x5 < (x3.length : Int) then (spec_l1Words.l1 k (x3.set (x5 : Int).toNat (Go.bits .and .i64 (wrap64 ((wrap64 ((wrap64 ((rd x3 (wrap64 (x5 - 16))) + (Go.bits .xor .i64 (Go.bits .xor .i64 t236 t237) ((rd x3 (wrap64 (x5 - 15))) / 8)))) + (rd x3 (wrap64 (x5 - 7))))) + (Go.bits .xor .i64 (Go.bits .xor .i64 t238 t239) ((rd x3 (wrap64 (x5 - 2))) / 1024)))) 4294967295)) (wrap64 (x5 + 1))) else (none)) else (none)) else (none)) else (none)) else (none)) else (none)))))) else (none)) else (none)) else (none)) else (none)) else (some x3)
end
def spec_l1Words.f (k : Nat) (l0 : List Int) : Option (List Int) := if 64 ≤ 35184372088832 then (spec_l1Words.l0 k l0 (List.replicate 64 0) 0) else (none)
theorem spec_l1Words.mono_l : ∀ k, (∀ y0 y1 y2, LeO (spec_l1Words.l0 k y0 y1 y2) (spec_l1Words.l0 (k + 1) y0 y1 y2)) ∧ (∀ y0 y1, LeO (spec_l1Words.l1 k y0 y1) (spec_l1Words.l1 (k + 1) y0 y1))
 | 0 => ⟨fun _ _ _ r h => by simp [spec_l1Words.l0] at h, fun _ _ r h => by simp [spec_l1Words.l1] at h⟩
 | k + 1 => by
  obtain ⟨ih0, ih1⟩ := spec_l1Words.mono_l k
  refine ⟨?_, ?_⟩
  ·intro y0 y1 y2
   unfold spec_l1Words.l0
   exact mo2 ih0 ih1
  ·intro y0 y1
   unfold spec_l1Words.l1
   exact mo2 ih0 ih1
theorem spec_l1Words.mono : ∀ a0 k, LeO (spec_l1Words.f k a0) (spec_l1Words.f (k + 1) a0) := by
 intro a0 k
 obtain ⟨ih0, ih1⟩ := spec_l1Words.mono_l k
 unfold spec_l1Words.f
 exact mo2 ih0 ih1
def spec_l1Words.T5 : Bool × List (List Nat × List Nat) := (true, [([], []), ([], []), ([], []), ([], []), ([3], [3]), ([2, 4], [2, 4]), ([5], [5]), ([6], [6]), ([], []), ([], []), ([9], [9]), ([10], [10]), ([8, 11], [8, 11]), ([12], [12]), ([13], [13]), ([7, 14], [7, 14]), ([], []), ([], []), ([17], [17]), ([18], [18]), ([16, 19], [16, 19]), ([20], [20]), ([21], [21]), ([15, 22], [15, 22]), ([], []), ([], []), ([25], [25]), ([26], [26]), ([24, 27], [24, 27]), ([28], [28]), ([23, 29], [23, 29]), ([0, 1, 0, 1, 2, 3, 4, 5, 6, 7, 8, 9, 10, 11, 12, 13, 14, 15, 16, 17, 18, 19, 20, 21, 22, 23, 24, 25, 26, 27, 28, 29, 30], [0, 1]), ([31, 30, 0, 1, 2, 3, 4, 5, 6, 7, 8, 9, 10, 11, 12, 13, 14, 15, 16, 17, 18, 19, 20, 21, 22, 23, 24, 25, 26, 27, 28, 29, 30], [30, 31])])
def spec_l1Words.B5 : List Nat := [0, 0, 0, 0, 8, 28, 60, 124, 0, 0, 512, 1536, 3840, 7936, 16128, 32764, 0, 0, 131072, 393216, 983040, 2031616, 4128768, 8388604, 0, 0, 33554432, 100663296, 251658240, 520093696, 1073741820, 2147483647, 4294967295]
theorem spec_l1Words.tab5 : rtab .any (opsOf Tryd.f126 5) = spec_l1Words.T5 := by kernel_rfl
theorem spec_l1Words.bits5 : waitsOk spec_l1Words.T5.2 spec_l1Words.B5 = true := by kernel_rfl
def spec_l1Words.T13 : Bool × List (List Nat × List Nat) := (true, [([], []), ([], []), ([], []), ([], []), ([3], [3]), ([2, 4], [2, 4]), ([5], [5]), ([], []), ([6, 7], [6, 7]), ([], []), ([], []), ([10], [10]), ([9, 11], [9, 11]), ([12], [12]), ([8, 13], [8, 13]), ([], []), ([14, 15], [14, 15]), ([16], [16]), ([0, 1, 0, 1, 2, 3, 4, 5, 6, 7, 8, 9, 10, 11, 12, 13, 14, 15, 16, 17], [0, 1]), ([18, 17, 0, 1, 2, 3, 4, 5, 6, 7, 8, 9, 10, 11, 12, 13, 14, 15, 16, 17], [17, 18])])
def spec_l1Words.B13 : List Nat := [0, 0, 0, 0, 8, 28, 60, 0, 252, 0, 0, 1024, 3584, 7680, 16380, 0, 65532, 131068, 262143, 524287]
theorem spec_l1Words.tab13 : rtab .any (opsOf Tryd.f126 13) = spec_l1Words.T13 := by kernel_rfl
theorem spec_l1Words.bits13 : waitsOk spec_l1Words.T13.2 spec_l1Words.B13 = true := by kernel_rfl
theorem spec_l1Words.calls (k : Nat) (A0 : Option Addr) (c0 : Nat) (l0 : List Int) (r : List Int) (w : World) (hr0 : Kd.C (Kd.int .i64) w A0 l0.length l0) (hc0 : l0.length ≤ c0) (h : spec_l1Words.f k l0 = some r) :
  Calls Tryd.prog 126 #[.slice A0 l0.length c0] w fun e w' => ∃ v0_ : Value, e = .returned (v0_) ∧ Kd.R (Kd.int .i64) 3 w' w.heap.size (fun _ => True) v0_ r ∧ Below w.heap.size w w' := by
 have HR0 := Aside0.mk hr0
 have HC0 := Aside0.mk hc0
 clear hr0 hc0
 have HB := Aside0.mk (Below.refl w.heap.size w)
 have H : (if 64 ≤ 35184372088832 then (spec_l1Words.l0 k l0 (List.replicate 64 0) 0) else (none)) = some r := h
 clear h
 replace H := ip H
 obtain ⟨c2, H⟩ := H
 have c2b0 := eq_true c2
 have c2b1 := decide_eq_true c2
 clear c2
 obtain ⟨y226, Ny226⟩ := yA (List.replicate 64 0 : List Int)
 rw [← Ny226.out] at H
 have H' := Aside0.mk H
 clear H
 go_enter Tryd.func126, Tryd.ntmps126
 go_wp2_with ((with_reducible refine gate_dst (N := 10) rfl ?_); refine Kd.R_make (Kd.int .i64) _ 3 rfl (N := 10) rfl 114 _ _ rfl 64 rfl rfl Tryd.underlying114 (.int .i64 0) 8 info3 rfl (by decide) (by omega) 0 (ok := fun _ => True) (okp := fun _ => True) rfl (fun _ hk => hk) trivial (by omega) (by omega) (Below.refl _ _) (Nat.le_refl _) ?_; intro v227 w3 ho4 hb hg_ hnew_; clear hg_ hnew_; (first | rw [← Ny226.out] at ho4 | (simp only [Int.reduceToNat] at ho4; rw [← Ny226.out] at ho4)); have HO228 := am (Kd.R_lower ho4 (below_size (bl HB))); replace HB := kH HB hb; clear hb ho4)
 go_loopg [4] k (fun kq v4 w' => ∃ (x3_1 : List Int) (x4_1 : Int), v4 = .int .i64 x4_1 ∧ Aside0 (spec_l1Words.l0 kq l0 x3_1 x4_1 = some r) ∧ Aside0 (kq ≤ k) ∧ Aside0 (Kd.R (Kd.int .i64) 3 w' w.heap.size (fun _ => True) v227 x3_1) ∧ Aside0 (Below w.heap.size w w'))
 case atStart => exact ⟨(y226), (0), xR, H', ⟨Nat.le_refl _⟩, ⟨ra HO228⟩, ⟨bl HB⟩⟩
 case round =>
  clear H'
  try clear c1
  try clear c2
  try clear c2b0
  try clear c2b1
  try clear p2
  obtain ⟨x3_1, x4_1, rfl, HA, HK1, HO_3, HB⟩ := hrel
  cases gk with
  | zero => exact absurd HA.out (by simp [spec_l1Words.l0])
  | succ k1 =>
   have H := HA.out
   clear HA
   simp only [spec_l1Words.l0] at H
   by_cases c5 : x4_1 < 16
   ·rw [if_pos c5] at H
    have c5b0 := decide_eq_true c5
    clear c5
    obtain ⟨ji6, hji6⟩ := je (wrap64 (4 * x4_1))
    first | rw [hji6] at H | simp only [hji6] at H
    have hji6w : (IntKind.i64.wrap (4 * x4_1)) = ji6 := (i64_w _).trans hji6
    replace H := ipd H
    obtain ⟨c7b0, H⟩ := H
    replace H := ipd H
    obtain ⟨c8b0, H⟩ := H
    obtain ⟨ji9, hji9⟩ := je (wrap64 ((ji6) + 1))
    first | rw [hji9] at H | simp only [hji9] at H
    have hji9w : (IntKind.i64.wrap ((ji6) + 1)) = ji9 := (i64_w _).trans hji9
    replace H := ipd H
    obtain ⟨c10b0, H⟩ := H
    replace H := ipd H
    obtain ⟨c11b0, H⟩ := H
    obtain ⟨ji12, hji12⟩ := je (wrap64 ((ji6) + 2))
    first | rw [hji12] at H | simp only [hji12] at H
    have hji12w : (IntKind.i64.wrap ((ji6) + 2)) = ji12 := (i64_w _).trans hji12
    replace H := ipd H
    obtain ⟨c13b0, H⟩ := H
    replace H := ipd H
    obtain ⟨c14b0, H⟩ := H
    obtain ⟨ji15, hji15⟩ := je (wrap64 ((ji6) + 3))
    first | rw [hji15] at H | simp only [hji15] at H
    have hji15w : (IntKind.i64.wrap ((ji6) + 3)) = ji15 := (i64_w _).trans hji15
    replace H := ipd H
    obtain ⟨c16b0, H⟩ := H
    replace H := ipd H
    obtain ⟨c17b0, H⟩ := H
    replace H := ipd H
    obtain ⟨c18b0, H⟩ := H
    replace H := ipd H
    obtain ⟨c19b0, H⟩ := H
    obtain ⟨y233, Ny233⟩ := yA (x3_1.set (x4_1 : Int).toNat (Go.bits .or .i64 (Go.bits .or .i64 (Go.bits .or .i64 (wrap64 ((rd l0 (ji6)) * 16777216)) (wrap64 ((rd l0 (ji9)) * 65536))) (wrap64 ((rd l0 (ji12)) * 256))) (rd l0 (ji15))) : List Int)
    first | rw [← Ny233.out] at H | (replace H := bh H; rw [← Ny233.out] at H)
    have H' := Aside0.mk H
    clear H
    try go_wp2
    replace HO_3 := am (Kd.R_drew HO_3.out)
    replace HB := am (below_drew1 HB.out)
    have p229 : 0 ≤ ((ji6) : Int) := of_decide_eq_true xA
    have q229 : (ji6) < (l0.length : Int) := of_decide_eq_true xA
    obtain ⟨ad229, e229, hx229_0⟩ := Kd.at_int HR0.out (ji6) p229 q229
    have hw229_0 := hx229_0
    cases e229
    replace hx229_0 := hc HB hx229_0
    replace p229 := eq_true p229
    replace q229 := eq_true q229
    have p230 : 0 ≤ ((ji9) : Int) := of_decide_eq_true xA
    have q230 : (ji9) < (l0.length : Int) := of_decide_eq_true xA
    obtain ⟨ad230, e230, hx230_0⟩ := Kd.at_int HR0.out (ji9) p230 q230
    have hw230_0 := hx230_0
    obtain rfl : ad229 = ad230 := (by injection e230)
    replace hx230_0 := hc HB hx230_0
    replace p230 := eq_true p230
    replace q230 := eq_true q230
    have p231 : 0 ≤ ((ji12) : Int) := of_decide_eq_true xA
    have q231 : (ji12) < (l0.length : Int) := of_decide_eq_true xA
    obtain ⟨ad231, e231, hx231_0⟩ := Kd.at_int HR0.out (ji12) p231 q231
    have hw231_0 := hx231_0
    obtain rfl : ad229 = ad231 := (by injection e231)
    replace hx231_0 := hc HB hx231_0
    replace p231 := eq_true p231
    replace q231 := eq_true q231
    have p232 : 0 ≤ ((ji15) : Int) := of_decide_eq_true xA
    have q232 : (ji15) < (l0.length : Int) := of_decide_eq_true xA
    obtain ⟨ad232, e232, hx232_0⟩ := Kd.at_int HR0.out (ji15) p232 q232
    have hw232_0 := hx232_0
    obtain rfl : ad229 = ad232 := (by injection e232)
    replace hx232_0 := hc HB hx232_0
    replace p232 := eq_true p232
    replace q232 := eq_true q232
    have p20 : 0 ≤ (x4_1 : Int) := of_decide_eq_true xA
    have q20 : (x4_1 : Int) < ((x3_1.length : Int) : Int) := of_decide_eq_true xA
    obtain ⟨go20, co20, eo20, gb20, gl20, cl20, HG20⟩ := Kd.R_form HO_3.out (by omega)
    (first | cases eo20 | (injection eo20 with ea_ en_ ec_; (first | subst ea_ | (injection ea_ with ea_; subst ea_)); subst ec_; clear en_))
    have GB20 := Aside0.mk gb20
    have GG20 := Aside0.mk HG20
    clear gb20 gl20 HG20
    obtain ⟨hx20_0, hf20_0⟩ := Kd.R_celln 0 HO_3.out (x4_1 : Int) p20 q20
    replace p20 := eq_true p20
    replace q20 := eq_true q20
    have HP22 := Kd.R_putn HO_3.out (x4_1 : Int) (Go.bits .or .i64 (Go.bits .or .i64 (Go.bits .or .i64 (wrap64 ((rd l0 (ji6)) * 16777216)) (wrap64 ((rd l0 (ji9)) * 65536))) (wrap64 ((rd l0 (ji12)) * 256))) (rd l0 (ji15)))
    rw [← Ny233.out] at HP22
    have HQ22 := Aside0.mk HP22
    clear HP22
    refine start_ (n := 33) (S := fun w' => w'.cell? (ad229.add ((ji6)).toNat) = some (.int .i64 (rd l0 (ji6))) ∧ w'.cell? (ad229.add ((ji9)).toNat) = some (.int .i64 (rd l0 (ji9))) ∧ w'.cell? (ad229.add ((ji12)).toNat) = some (.int .i64 (rd l0 (ji12))) ∧ w'.cell? (ad229.add ((ji15)).toNat) = some (.int .i64 (rd l0 (ji15)))) (ds := [32]) (bm 33 0) (by kernel_rfl) rfl rfl ⟨(hd HB hw229_0), (hd HB hw230_0), (hd HB hw231_0), (hd HB hw232_0)⟩ (fun hHeld => ?_); refine with_tabW spec_l1Words.tab5 spec_l1Words.bits5 (fun HT_ HW_ => ?_)
    generalize wr.drew = w21 at HO_3 HB GG20 HQ22 hf20_0 hx20_0 hx229_0 hx230_0 hx231_0 hx232_0 hHeld ⊢
    refine pA 0 15 (bm 33 1) HT_ ?_
    refine pA 1 16 (bm 33 3) HT_ ?_
    refine pA 2 17 (bm 33 7) HT_ ?_
    refine pA 3 18 (bm 33 15) HT_ ?_
    refine pA 4 19 (bm 33 31) HT_ ?_
    refine pA 5 20 (bm 33 63) HT_ ?_
    refine pA 8 23 (bm 33 319) HT_ ?_
    refine pA 9 24 (bm 33 831) HT_ ?_
    refine pA 10 25 (bm 33 1855) HT_ ?_
    refine pA 11 26 (bm 33 3903) HT_ ?_
    refine pA 12 27 (bm 33 7999) HT_ ?_
    refine pA 16 31 (bm 33 73535) HT_ ?_
    refine pA 17 32 (bm 33 204607) HT_ ?_
    refine pA 18 33 (bm 33 466751) HT_ ?_
    refine pA 19 34 (bm 33 991039) HT_ ?_
    refine pA 20 35 (bm 33 2039615) HT_ ?_
    refine pA 24 39 (bm 33 18816831) HT_ ?_
    refine pA 25 40 (bm 33 52371263) HT_ ?_
    refine pA 26 41 (bm 33 119480127) HT_ ?_
    refine pA 27 42 (bm 33 253697855) HT_ ?_
    refine pA 28 43 (bm 33 522133311) HT_ ?_
    refine tA 6 21 (bm 33 522133375) HT_ HW_ hHeld ?_
    refine pA 7 22 (bm 33 522133503) HT_ ?_
    refine tA 13 28 (bm 33 522141695) HT_ HW_ hHeld ?_
    refine pA 14 29 (bm 33 522158079) HT_ ?_
    refine pA 15 30 (bm 33 522190847) HT_ ?_
    refine tA 21 36 (bm 33 524287999) HT_ HW_ hHeld ?_
    refine pA 22 37 (bm 33 528482303) HT_ ?_
    refine pA 23 38 (bm 33 536870911) HT_ ?_
    refine tA 29 44 (bm 33 1073741823) HT_ HW_ hHeld ?_
    refine pA 30 45 (bm 33 2147483647) HT_ ?_
    refine pA 31 46 (bm 33 4294967295) HT_ ?_
    refine last_ (i := 32) (N := none) (bm 33 8589934591) rfl rfl (one_of HT_.out (by kernel_rfl)) (by decide) (fun K hK => ?_)
    refine skip_ (w1 := ?_) (by rfl) rfl ?_ ?_
    rotate_left
    ·go_simp
     rfl
    refine hK.out _ _ ?_
    clear hK K
    refine done_ (done_of HT_.out (by kernel_rfl)) ?_
    try go_wp2
    go_roundg k1
    case measure => have := HK1.out; omega
    case rel => exact ⟨(y233), (wrap64 (x4_1 + 1)), xR, H', ⟨xL HK1⟩, ⟨by (with_reducible repeat (first | apply Kd.R_alloc | apply Kd.R_drewN | apply Kd.R_drew)); exact HQ22.out⟩, ⟨xB HB⟩⟩
   rw [if_neg c5] at H
   have c5b0 := decide_eq_false c5
   clear c5
   have H' := Aside0.mk H
   clear H
   go_wp2
   go_loopg [5] k1 (fun kq v5 w' => ∃ (x3_2 : List Int) (x5_2 : Int), v5 = .int .i64 x5_2 ∧ Aside0 (spec_l1Words.l1 kq x3_2 x5_2 = some r) ∧ Aside0 (kq ≤ k1) ∧ Aside0 (Kd.R (Kd.int .i64) 3 w' w.heap.size (fun _ => True) v227 x3_2) ∧ Aside0 (Below w.heap.size w w'))
   case atStart => exact ⟨(x3_1), (16), xR, H', ⟨Nat.le_refl _⟩, ⟨ra HO_3⟩, ⟨bl HB⟩⟩
   case round =>
    clear H'
    try clear c1
    try clear c2
    try clear c2b0
    try clear c2b1
    try clear p2
    try clear q2
    try clear hx2
    try clear hf2
    try clear c5
    try clear c5b0
    try clear p6
    try clear c7
    try clear c7b0
    try clear c8
    try clear c8b0
    try clear c10
    try clear c10b0
    try clear c11
    try clear c11b0
    try clear c12
    try clear c13
    try clear c13b0
    try clear c14
    try clear c14b0
    try clear c16
    try clear c16b0
    try clear c17
    try clear c17b0
    try clear c18
    try clear c18b0
    try clear c19
    try clear c19b0
    try clear p20
    try clear q20
    try clear hx20
    try clear hf20
    try clear p22
    try clear q22
    try clear hx22
    try clear hx20_0
    try clear hx229_0
    try clear hx230_0
    try clear hx231_0
    try clear hx232_0
    try clear p2
    try clear p20
    try clear p229
    try clear p230
    try clear p231
    try clear p232
    try clear q20
    try clear q229
    try clear q230
    try clear q231
    try clear q232
    obtain ⟨x3_2, x5_2, rfl, HA, HK2, HO_3, HB⟩ := hrel
    cases gk with
    | zero => exact absurd HA.out (by simp [spec_l1Words.l1])
    | succ k2 =>
     have H := HA.out
     clear HA
     simp only [spec_l1Words.l1] at H
     by_cases c23 : x5_2 < 64
     rotate_left
     ·rw [if_neg c23] at H
      have c23b0 := decide_eq_false c23
      clear c23
      obtain rfl := Option.some.inj H
      go_wp2
      go_ret
      exact ⟨_, xE, ra HO_3, bl HB⟩
     rw [if_pos c23] at H
     have c23b0 := decide_eq_true c23
     clear c23
     obtain ⟨ji24, hji24⟩ := je (wrap64 (x5_2 - 15))
     first | rw [hji24] at H | simp only [hji24] at H
     have hji24w : (IntKind.i64.wrap (x5_2 - 15)) = ji24 := (i64_w _).trans hji24
     replace H := ipd H
     obtain ⟨c25b0, H⟩ := H
     replace H := ipd H
     obtain ⟨c26b0, H⟩ := H
     obtain ⟨ji27, hji27⟩ := je (wrap64 (x5_2 - 2))
     first | rw [hji27] at H | simp only [hji27] at H
     have hji27w : (IntKind.i64.wrap (x5_2 - 2)) = ji27 := (i64_w _).trans hji27
     replace H := ipd H
     obtain ⟨c28b0, H⟩ := H
     replace H := ipd H
     obtain ⟨c29b0, H⟩ := H
     replace H := oa H
     obtain ⟨t236, A30, H⟩ := H
     replace H := oa H
     obtain ⟨t237, A31, H⟩ := H
     replace H := oa H
     obtain ⟨t238, A32, H⟩ := H
     replace H := oa H
     obtain ⟨t239, A33, H⟩ := H
     obtain ⟨ji34, hji34⟩ := je (wrap64 (x5_2 - 16))
     first | rw [hji34] at H | simp only [hji34] at H
     (try rw [hji34] at A30)
     (try rw [hji34] at A31)
     (try rw [hji34] at A32)
     (try rw [hji34] at A33)
     have hji34w : (IntKind.i64.wrap (x5_2 - 16)) = ji34 := (i64_w _).trans hji34
     replace H := ipd H
     obtain ⟨c35b0, H⟩ := H
     replace H := ipd H
     obtain ⟨c36b0, H⟩ := H
     obtain ⟨ji37, hji37⟩ := je (wrap64 (x5_2 - 7))
     first | rw [hji37] at H | simp only [hji37] at H
     (try rw [hji37] at A30)
     (try rw [hji37] at A31)
     (try rw [hji37] at A32)
     (try rw [hji37] at A33)
     have hji37w : (IntKind.i64.wrap (x5_2 - 7)) = ji37 := (i64_w _).trans hji37
     replace H := ipd H
     obtain ⟨c38b0, H⟩ := H
     replace H := ipd H
     obtain ⟨c39b0, H⟩ := H
     replace H := ipd H
     obtain ⟨c40b0, H⟩ := H
     replace H := ipd H
     obtain ⟨c41b0, H⟩ := H
     obtain ⟨y242, Ny242⟩ := yA (x3_2.set (x5_2 : Int).toNat (Go.bits .and .i64 (wrap64 ((wrap64 ((wrap64 ((rd x3_2 (ji34)) + (Go.bits .xor .i64 (Go.bits .xor .i64 t236 t237) ((rd x3_2 (ji24)) / 8)))) + (rd x3_2 (ji37)))) + (Go.bits .xor .i64 (Go.bits .xor .i64 t238 t239) ((rd x3_2 (ji27)) / 1024)))) 4294967295) : List Int)
     first | rw [← Ny242.out] at H | (replace H := bh H; rw [← Ny242.out] at H)
     have H' := Aside0.mk H
     clear H
     obtain ⟨Ao43, co43, eo43⟩ := Kd.R_slice HO_3.out
     subst eo43
     have p234 : 0 ≤ ((ji24) : Int) := of_decide_eq_true xA
     have q234 : (ji24) < (x3_2.length : Int) := of_decide_eq_true xA
     obtain ⟨ad234, e234, hx234_0⟩ := Kd.at_int (Kd.R_reads' HO_3.out).2.2 (ji24) p234 q234
     cases e234
     replace p234 := eq_true p234
     replace q234 := eq_true q234
     have p235 : 0 ≤ ((ji27) : Int) := of_decide_eq_true xA
     have q235 : (ji27) < (x3_2.length : Int) := of_decide_eq_true xA
     obtain ⟨ad235, e235, hx235_0⟩ := Kd.at_int (Kd.R_reads' HO_3.out).2.2 (ji27) p235 q235
     obtain rfl : ad234 = ad235 := (by injection e235)
     replace p235 := eq_true p235
     replace q235 := eq_true q235
     try go_wp2_with (first | ((with_reducible refine gate_callee (f := 130) rfl ?_); refine goesL_ (some 62) rfl rfl Tryd.func130 (by kernel_rfl) rfl #[.int .i64 (rd x3_2 (ji24)), .int .i64 7] rfl (by (try simp only [List.map_toArray, List.map_cons, List.map_nil]); first | done | (simp only [hji24]; rfl) | rfl | (simp only [List.length_drop, List.length_take]; rfl)) ?_; (with_reducible refine (spec_l1Turn.calls (rd x3_2 (ji24)) 7 t236 _ A30.out).mono ?_); rintro e w' ⟨rfl, ⟨nd, rfl⟩⟩; refine ⟨_, rfl, ?_⟩; (try (rw [drewN_self wr]; generalize hq_ : World.drewN wr _ = wr; have n0_ := dR hq_ HO_3; have n1_ := dB hq_ HB; clear HO_3 HB hq_; have HO_3 := n0_; have HB := n1_; clear n0_ n1_))) | ((with_reducible refine gate_callee (f := 130) rfl ?_); refine goesL_ (some 64) rfl rfl Tryd.func130 (by kernel_rfl) rfl #[.int .i64 (rd x3_2 (ji24)), .int .i64 18] rfl (by (try simp only [List.map_toArray, List.map_cons, List.map_nil]); first | done | (simp only [hji24]; rfl) | rfl | (simp only [List.length_drop, List.length_take]; rfl)) ?_; (with_reducible refine (spec_l1Turn.calls (rd x3_2 (ji24)) 18 t237 _ A31.out).mono ?_); rintro e w' ⟨rfl, ⟨nd, rfl⟩⟩; refine ⟨_, rfl, ?_⟩; (try (rw [drewN_self wr]; generalize hq_ : World.drewN wr _ = wr; have n0_ := dR hq_ HO_3; have n1_ := dB hq_ HB; clear HO_3 HB hq_; have HO_3 := n0_; have HB := n1_; clear n0_ n1_))) | ((with_reducible refine gate_callee (f := 130) rfl ?_); refine goesL_ (some 70) rfl rfl Tryd.func130 (by kernel_rfl) rfl #[.int .i64 (rd x3_2 (ji27)), .int .i64 17] rfl (by (try simp only [List.map_toArray, List.map_cons, List.map_nil]); first | done | (simp only [hji27]; rfl) | rfl | (simp only [List.length_drop, List.length_take]; rfl)) ?_; (with_reducible refine (spec_l1Turn.calls (rd x3_2 (ji27)) 17 t238 _ A32.out).mono ?_); rintro e w' ⟨rfl, ⟨nd, rfl⟩⟩; refine ⟨_, rfl, ?_⟩; (try (rw [drewN_self wr]; generalize hq_ : World.drewN wr _ = wr; have n0_ := dR hq_ HO_3; have n1_ := dB hq_ HB; clear HO_3 HB hq_; have HO_3 := n0_; have HB := n1_; clear n0_ n1_))) | ((with_reducible refine gate_callee (f := 130) rfl ?_); refine goesL_ (some 72) rfl rfl Tryd.func130 (by kernel_rfl) rfl #[.int .i64 (rd x3_2 (ji27)), .int .i64 19] rfl (by (try simp only [List.map_toArray, List.map_cons, List.map_nil]); first | done | (simp only [hji27]; rfl) | rfl | (simp only [List.length_drop, List.length_take]; rfl)) ?_; (with_reducible refine (spec_l1Turn.calls (rd x3_2 (ji27)) 19 t239 _ A33.out).mono ?_); rintro e w' ⟨rfl, ⟨nd, rfl⟩⟩; refine ⟨_, rfl, ?_⟩; (try (rw [drewN_self wr]; generalize hq_ : World.drewN wr _ = wr; have n0_ := dR hq_ HO_3; have n1_ := dB hq_ HB; clear HO_3 HB hq_; have HO_3 := n0_; have HB := n1_; clear n0_ n1_))))
     replace HO_3 := am (Kd.R_drew HO_3.out)
     replace HB := am (below_drew1 HB.out)
     have p240 : 0 ≤ ((ji34) : Int) := of_decide_eq_true xA
     have q240 : (ji34) < (x3_2.length : Int) := of_decide_eq_true xA
     obtain ⟨ad240, e240, hx240_0⟩ := Kd.at_int (Kd.R_reads' HO_3.out).2.2 (ji34) p240 q240
     obtain rfl : ad234 = ad240 := (by injection e240)
     replace p240 := eq_true p240
     replace q240 := eq_true q240
     have p241 : 0 ≤ ((ji37) : Int) := of_decide_eq_true xA
     have q241 : (ji37) < (x3_2.length : Int) := of_decide_eq_true xA
     obtain ⟨ad241, e241, hx241_0⟩ := Kd.at_int (Kd.R_reads' HO_3.out).2.2 (ji37) p241 q241
     obtain rfl : ad234 = ad241 := (by injection e241)
     replace p241 := eq_true p241
     replace q241 := eq_true q241
     have p42 : 0 ≤ (x5_2 : Int) := of_decide_eq_true xA
     have q42 : (x5_2 : Int) < ((x3_2.length : Int) : Int) := of_decide_eq_true xA
     obtain ⟨go42, co42, eo42, gb42, gl42, cl42, HG42⟩ := Kd.R_form HO_3.out (by omega)
     (first | cases eo42 | (injection eo42 with ea_ en_ ec_; (first | subst ea_ | (injection ea_ with ea_; subst ea_)); subst ec_; clear en_))
     have GB42 := Aside0.mk gb42
     have GG42 := Aside0.mk HG42
     clear gb42 gl42 HG42
     (first | simp only [add_plain] at hx234_0 | skip)
     (first | simp only [add_plain] at hx235_0 | skip)
     (first | simp only [add_plain] at hx240_0 | skip)
     (first | simp only [add_plain] at hx241_0 | skip)
     obtain ⟨hx42_0, hf42_0⟩ := Kd.R_celln 0 HO_3.out (x5_2 : Int) p42 q42
     replace p42 := eq_true p42
     replace q42 := eq_true q42
     have HP45 := Kd.R_putn HO_3.out (x5_2 : Int) (Go.bits .and .i64 (wrap64 ((wrap64 ((wrap64 ((rd x3_2 (ji34)) + (Go.bits .xor .i64 (Go.bits .xor .i64 t236 t237) ((rd x3_2 (ji24)) / 8)))) + (rd x3_2 (ji37)))) + (Go.bits .xor .i64 (Go.bits .xor .i64 t238 t239) ((rd x3_2 (ji27)) / 1024)))) 4294967295)
     rw [← Ny242.out] at HP45
     have HQ45 := Aside0.mk HP45
     clear HP45
     refine start_ (n := 20) (S := fun w' => w'.cell? ⟨go42, ((ji34)).toNat, none⟩ = some (.int .i64 (rd x3_2 (ji34))) ∧ w'.cell? ⟨go42, ((ji37)).toNat, none⟩ = some (.int .i64 (rd x3_2 (ji37)))) (ds := [19]) (bm 20 0) (by kernel_rfl) rfl rfl ⟨hx240_0, hx241_0⟩ (fun hHeld => ?_); refine with_tabW spec_l1Words.tab13 spec_l1Words.bits13 (fun HT_ HW_ => ?_)
     generalize wr.drew = w44 at HO_3 HB GG42 HQ45 hf42_0 hx234_0 hx235_0 hx240_0 hx241_0 hx42_0 hHeld ⊢
     refine pA 0 77 (bm 20 1) HT_ ?_
     refine pA 1 78 (bm 20 3) HT_ ?_
     refine pA 2 79 (bm 20 7) HT_ ?_
     refine pA 3 80 (bm 20 15) HT_ ?_
     refine pA 4 81 (bm 20 31) HT_ ?_
     refine pA 5 82 (bm 20 63) HT_ ?_
     refine pA 7 84 (bm 20 191) HT_ ?_
     refine pA 9 86 (bm 20 703) HT_ ?_
     refine pA 10 87 (bm 20 1727) HT_ ?_
     refine pA 11 88 (bm 20 3775) HT_ ?_
     refine pA 12 89 (bm 20 7871) HT_ ?_
     refine pA 15 92 (bm 20 40639) HT_ ?_
     refine tA 6 83 (bm 20 40703) HT_ HW_ hHeld ?_
     refine pA 8 85 (bm 20 40959) HT_ ?_
     refine tA 13 90 (bm 20 49151) HT_ HW_ hHeld ?_
     refine pA 14 91 (bm 20 65535) HT_ ?_
     refine pA 16 93 (bm 20 131071) HT_ ?_
     refine pA 17 94 (bm 20 262143) HT_ ?_
     refine pA 18 95 (bm 20 524287) HT_ ?_
     refine last_ (i := 19) (N := none) (bm 20 1048575) rfl rfl (one_of HT_.out (by kernel_rfl)) (by decide) (fun K hK => ?_)
     refine skip_ (w1 := ?_) (by rfl) rfl ?_ ?_
     rotate_left
     ·go_simp
      rfl
     refine hK.out _ _ ?_
     clear hK K
     refine done_ (done_of HT_.out (by kernel_rfl)) ?_
     try go_wp2
     go_roundg k2
     case measure => have := HK1.out; have := HK2.out; omega
     case rel => exact ⟨(y242), (wrap64 (x5_2 + 1)), xR, H', ⟨by have := HK1.out; have := HK2.out; omega⟩, ⟨by (with_reducible repeat (first | apply Kd.R_alloc | apply Kd.R_drewN | apply Kd.R_drew)); exact HQ45.out⟩, ⟨xB HB⟩⟩
end Go.Proofs.YtgjljbaadglpnaaDoor.PFnHeadGet
