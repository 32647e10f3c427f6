/- Functions of the program and what each answers: the kit's print, shortened (wip/press2.py). -/
import Derived.Test.YtgjljbaadglpnaaDoorPFnHeadGetx0
import Derived.Test.YtgjljbaadglpnaaDoorPFnHeadGetx8
namespace Go.Proofs.YtgjljbaadglpnaaDoor.PFnHeadGet
open Go.Proofs.YtgjljbaadglpnaaDoor.Sq Go.RowKit Go.Proofs.YtgjljbaadglpnaaDoorW.PrintWords Go.Proofs.YtgjljbaadglpnaaDoorW.PrintLast Go.Proofs.YtgjljbaadglpnaaDoorW.PrintMore
attribute [local go_sem] max2_int min2_int max_two min_two max_three min_three max_four min_four   -- for this text's walks alone
set_option linter.unusedVariables false
set_option linter.unusedSimpArgs false
set_option maxHeartbeats 64000000
set_option maxRecDepth 100000
mutual
def spec_l1Mix.l0 : Nat → List Int → List Int → List Int → Int → Int → Int → Int → Int → Int → Int → Int → Int → Option (List Int)
 | 0, _, _, _, _, _, _, _, _, _, _, _, _ => none
 | k + 1, x0, x1, x2, x7, x8, x9, x10, x11, x12, x13, x14, x15 => if x15 < 64 then ((spec_l1Turn.f x11 6).bind fun t209 => ((spec_l1Turn.f x11 11).bind fun t210 => ((spec_l1Turn.f x11 25).bind fun t211 => (if 0 ≤ x15 then (if x15 < (x2.length : Int) then (if x15 < (x1.length : Int) then ((spec_l1Turn.f x7 2).bind fun t214 => ((spec_l1Turn.f x7 13).bind fun t215 => ((spec_l1Turn.f x7 22).bind fun t216 => (spec_l1Mix.l0 k x0 x1 x2 (Go.bits .and .i64 (wrap64 ((wrap64 ((wrap64 ((wrap64 ((wrap64 (x14 + (Go.bits .xor .i64 (Go.bits .xor .i64 t209 t210) t211))) + (Go.bits .xor .i64 (Go.bits .and .i64 x11 x12) (Go.bits .and .i64 (Go.bits .xor .i64 4294967295 x11) x13)))) + (rd x2 x15))) + (rd x1 x15))) + (wrap64 ((Go.bits .xor .i64 (Go.bits .xor .i64 t214 t215) t216) + (Go.bits .xor .i64 (Go.bits .xor .i64 (Go.bits .and .i64 x7 x8) (Go.bits .and .i64 x7 x9)) (Go.bits .and .i64 x8 x9)))))) 4294967295) x7 x8 x9 (Go.bits .and .i64 (wrap64 (x10 + (wrap64 ((wrap64 ((wrap64 ((wrap64 (x14 + (Go.bits .xor .i64 (Go.bits .xor .i64 t209 t210) t211))) + (Go.bits .xor .i64 (Go.bits .and .i64 x11 x12) (Go.bits .and .i64 (Go.bits .xor .i64 4294967295 x11) x13)))) + (rd x2 x15))) + (rd x1 x15))))) 4294967295) x11 x12 x13 (wrap64 (x15 + 1)))))) else (none)) else (none)) else (none))))) else (if 8 ≤ 35184372088832 then (spec_l1Mix.l1 k x0 (([x7, x8, x9, x10, x11, x12, x13, x14] : List Int)) (List.replicate 8 0) 0) else (none))
def spec_l1Mix.l1 : Nat → List Int → List Int → List Int → Int → Option (List Int)
 | 0, _, _, _, _ => none
 | k + 1, x0, x18, x19, x20 => if x20 < 8 then (if 0 ≤ x20 then (if x20 < (x0.length : Int) then (if x20 < (x18.length : Int) then (if x20 < (x19.length : Int) then (spec_l1Mix.l1 k x0 x18 (x19.set (x20 : Int).toNat (Go.bits .and .i64 (wrap64 ((rd x0 x20) + (rd x18 x20))) 4294967295)) (wrap64 (x20 + 1))) else (none)) else (none)) else (none)) else (none)) else (some x19)
end
def spec_l1Mix.f (k : Nat) (l0 : List Int) (l1 : List Int) (l2 : List Int) : Option (List Int) := if 0 < (l0.length : Int) then (if 1 < (l0.length : Int) then (if 2 < (l0.length : Int) then (if 3 < (l0.length : Int) then (if 4 < (l0.length : Int) then (if 5 < (l0.length : Int) then (if 6 < (l0.length : Int) then (if 7 < (l0.length : Int) then (spec_l1Mix.l0 k l0 l1 l2 (rd l0 0) (rd l0 1) (rd l0 2) (rd l0 3) (rd l0 4) (rd l0 5) (rd l0 6) (rd l0 7) 0) else (none)) else (none)) else (none)) else (none)) else (none)) else (none)) else (none)) else (none)
theorem spec_l1Mix.mono_l : ∀ k, (∀ y0 y1 y2 y3 y4 y5 y6 y7 y8 y9 y10 y11, LeO (spec_l1Mix.l0 k y0 y1 y2 y3 y4 y5 y6 y7 y8 y9 y10 y11) (spec_l1Mix.l0 (k + 1) y0 y1 y2 y3 y4 y5 y6 y7 y8 y9 y10 y11)) ∧ (∀ y0 y1 y2 y3, LeO (spec_l1Mix.l1 k y0 y1 y2 y3) (spec_l1Mix.l1 (k + 1) y0 y1 y2 y3))
 | 0 => ⟨fun _ _ _ _ _ _ _ _ _ _ _ _ r h => by simp [spec_l1Mix.l0] at h, fun _ _ _ _ r h => by simp [spec_l1Mix.l1] at h⟩
 | k + 1 => by
  obtain ⟨ih0, ih1⟩ := spec_l1Mix.mono_l k
  refine ⟨?_, ?_⟩
  ·intro y0 y1 y2 y3 y4 y5 y6 y7 y8 y9 y10 y11
   unfold spec_l1Mix.l0
   exact mo2 ih0 ih1
  ·intro y0 y1 y2 y3
   unfold spec_l1Mix.l1
   exact mo2 ih0 ih1
theorem spec_l1Mix.mono : ∀ a0 a1 a2 k, LeO (spec_l1Mix.f k a0 a1 a2) (spec_l1Mix.f (k + 1) a0 a1 a2) := by
 intro a0 a1 a2 k
 obtain ⟨ih0, ih1⟩ := spec_l1Mix.mono_l k
 unfold spec_l1Mix.f
 exact mo2 ih0 ih1
def spec_l1Mix.T12 : Bool × List (List Nat × List Nat) := (true, [([], []), ([], []), ([1], [1]), ([], []), ([3, 2], [3]), ([2, 4], [2, 4]), ([], []), ([6, 4], [6]), ([5, 7], [5, 7]), ([0, 8], [0, 8]), ([], []), ([], []), ([10, 11], [10, 11]), ([], []), ([13], [13]), ([], []), ([14, 15], [14, 15]), ([12, 16], [12, 16]), ([9, 17], [9, 17]), ([], []), ([], []), ([19, 20], [19, 20]), ([21], [21]), ([18, 22], [18, 22]), ([], []), ([], []), ([24, 25], [24, 25]), ([26], [26]), ([23, 27], [23, 27]), ([28, 7, 0, 1, 2, 3, 4, 5, 6, 7, 8, 9, 10, 11, 12, 13, 14, 15, 16, 17, 18, 19, 20, 21, 22, 23, 24, 25, 26, 27, 28], [28])])
def spec_l1Mix.B12 : List Nat := [0, 0, 2, 0, 14, 30, 0, 94, 254, 511, 0, 0, 3072, 0, 8192, 0, 57344, 130048, 262143, 0, 0, 1572864, 3670016, 8388607, 0, 0, 50331648, 117440512, 268435455, 536870911]
theorem spec_l1Mix.tab12 : rtab .any (opsOf Tryd.f125 12) = spec_l1Mix.T12 := by kernel_rfl
theorem spec_l1Mix.bits12 : waitsOk spec_l1Mix.T12.2 spec_l1Mix.B12 = true := by kernel_rfl
def spec_l1Mix.T27 : Bool × List (List Nat × List Nat) := (true, [([], []), ([], []), ([], []), ([], []), ([2, 3], [2, 3]), ([4], [4]), ([], []), ([], []), ([6, 7], [6, 7]), ([8], [8]), ([5, 9], [5, 9]), ([10], [10]), ([0, 1, 0, 1, 2, 3, 4, 5, 6, 7, 8, 9, 10, 11], [0, 1]), ([12, 11, 0, 1, 2, 3, 4, 5, 6, 7, 8, 9, 10, 11], [11, 12])])
def spec_l1Mix.B27 : List Nat := [0, 0, 0, 0, 12, 28, 0, 0, 192, 448, 1020, 2044, 4095, 8191]
theorem spec_l1Mix.tab27 : rtab .any (opsOf Tryd.f125 27) = spec_l1Mix.T27 := by kernel_rfl
theorem spec_l1Mix.bits27 : waitsOk spec_l1Mix.T27.2 spec_l1Mix.B27 = true := by kernel_rfl
theorem spec_l1Mix.calls (k : Nat) (A0 : Option Addr) (c0 : Nat) (l0 : List Int) (A1 : Option Addr) (c1 : Nat) (l1 : List Int) (A2 : Option Addr) (c2 : Nat) (l2 : List Int) (r : List Int) (w : World) (hr0 : Kd.C (Kd.int .i64) w A0 l0.length l0) (hc0 : l0.length ≤ c0) (hr1 : Kd.C (Kd.int .i64) w A1 l1.length l1) (hc1 : l1.length ≤ c1) (hr2 : Kd.C (Kd.int .i64) w A2 l2.length l2) (hc2 : l2.length ≤ c2) (h : spec_l1Mix.f k l0 l1 l2 = some r) :
  Calls Tryd.prog 125 #[.slice A0 l0.length c0, .slice A1 l1.length c1, .slice A2 l2.length c2] w fun e w' => ∃ v0_ : Value, e = .returned (v0_) ∧ Kd.R (Kd.int .i64) 3 w' w.heap.size (fun _ => True) v0_ r ∧ Below w.heap.size w w' := by
 have HR0 := Aside0.mk hr0
 have HC0 := Aside0.mk hc0
 clear hr0 hc0
 have HR1 := Aside0.mk hr1
 have HC1 := Aside0.mk hc1
 clear hr1 hc1
 have HR2 := Aside0.mk hr2
 have HC2 := Aside0.mk hc2
 clear hr2 hc2
 have HB := Aside0.mk (Below.refl w.heap.size w)
 have H : (if 0 < (l0.length : Int) then (if 1 < (l0.length : Int) then (if 2 < (l0.length : Int) then (if 3 < (l0.length : Int) then (if 4 < (l0.length : Int) then (if 5 < (l0.length : Int) then (if 6 < (l0.length : Int) then (if 7 < (l0.length : Int) then (spec_l1Mix.l0 k l0 l1 l2 (rd l0 0) (rd l0 1) (rd l0 2) (rd l0 3) (rd l0 4) (rd l0 5) (rd l0 6) (rd l0 7) 0) else (none)) else (none)) else (none)) else (none)) else (none)) else (none)) else (none)) else (none)) = some r := h
 clear h
 replace H := ip H
 obtain ⟨c4, H⟩ := H
 have c4b0 := decide_eq_true c4
 have c4b1 : decide (0 < l0.length) = true := decide_eq_true (by omega)
 clear c4
 replace H := ip H
 obtain ⟨c5, H⟩ := H
 have c5b0 := decide_eq_true c5
 have c5b1 : decide (1 < l0.length) = true := decide_eq_true (by omega)
 clear c5
 replace H := ip H
 obtain ⟨c6, H⟩ := H
 have c6b0 := decide_eq_true c6
 have c6b1 : decide (2 < l0.length) = true := decide_eq_true (by omega)
 clear c6
 replace H := ip H
 obtain ⟨c7, H⟩ := H
 have c7b0 := decide_eq_true c7
 have c7b1 : decide (3 < l0.length) = true := decide_eq_true (by omega)
 clear c7
 replace H := ip H
 obtain ⟨c8, H⟩ := H
 have c8b0 := decide_eq_true c8
 have c8b1 : decide (4 < l0.length) = true := decide_eq_true (by omega)
 clear c8
 replace H := ip H
 obtain ⟨c9, H⟩ := H
 have c9b0 := decide_eq_true c9
 have c9b1 : decide (5 < l0.length) = true := decide_eq_true (by omega)
 clear c9
 replace H := ip H
 obtain ⟨c10, H⟩ := H
 have c10b0 := decide_eq_true c10
 have c10b1 : decide (6 < l0.length) = true := decide_eq_true (by omega)
 clear c10
 replace H := ip H
 obtain ⟨c11, H⟩ := H
 have c11b0 := decide_eq_true c11
 have c11b1 : decide (7 < l0.length) = true := decide_eq_true (by omega)
 clear c11
 have H' := Aside0.mk H
 clear H
 have p201 : 0 ≤ (0 : Int) := (by omega)
 have q201 : 0 < (l0.length : Int) := of_decide_eq_true xA
 obtain ⟨ad201, e201, hx201_0⟩ := Kd.at_int HR0.out 0 p201 q201
 cases e201
 have qi201 : (0 < l0.length) = True := eq_true (by omega)
 (try rw [show ((0 : Int)).toNat = 0 from rfl] at hx201_0)
 (try rw [Addr.add_zero'] at hx201_0)
 replace p201 := eq_true p201
 replace q201 := eq_true q201
 have p202 : 0 ≤ (1 : Int) := (by omega)
 have q202 : 1 < (l0.length : Int) := of_decide_eq_true xA
 obtain ⟨ad202, e202, hx202_0⟩ := Kd.at_int HR0.out 1 p202 q202
 obtain rfl : ad201 = ad202 := (by injection e202)
 (try simp only [show (1 : Int).toNat = 1 from rfl, Nat.reduceMul, Nat.reduceEqDiff, Go.Addr.add, ↓reduceIte] at hx202_0)
 have qi202 : (1 < l0.length) = True := eq_true (by omega)
 (try rw [show ((1 : Int)).toNat = 1 from rfl] at hx202_0)
 replace p202 := eq_true p202
 replace q202 := eq_true q202
 have p203 : 0 ≤ (2 : Int) := (by omega)
 have q203 : 2 < (l0.length : Int) := of_decide_eq_true xA
 obtain ⟨ad203, e203, hx203_0⟩ := Kd.at_int HR0.out 2 p203 q203
 obtain rfl : ad201 = ad203 := (by injection e203)
 (try simp only [show (2 : Int).toNat = 2 from rfl, Nat.reduceMul, Nat.reduceEqDiff, Go.Addr.add, ↓reduceIte] at hx203_0)
 have qi203 : (2 < l0.length) = True := eq_true (by omega)
 (try rw [show ((2 : Int)).toNat = 2 from rfl] at hx203_0)
 replace p203 := eq_true p203
 replace q203 := eq_true q203
 have p204 : 0 ≤ (3 : Int) := (by omega)
 have q204 : 3 < (l0.length : Int) := of_decide_eq_true xA
 obtain ⟨ad204, e204, hx204_0⟩ := Kd.at_int HR0.out 3 p204 q204
 obtain rfl : ad201 = ad204 := (by injection e204)
 (try simp only [show (3 : Int).toNat = 3 from rfl, Nat.reduceMul, Nat.reduceEqDiff, Go.Addr.add, ↓reduceIte] at hx204_0)
 have qi204 : (3 < l0.length) = True := eq_true (by omega)
 (try rw [show ((3 : Int)).toNat = 3 from rfl] at hx204_0)
 replace p204 := eq_true p204
 replace q204 := eq_true q204
 have p205 : 0 ≤ (4 : Int) := (by omega)
 have q205 : 4 < (l0.length : Int) := of_decide_eq_true xA
 obtain ⟨ad205, e205, hx205_0⟩ := Kd.at_int HR0.out 4 p205 q205
 obtain rfl : ad201 = ad205 := (by injection e205)
 (try simp only [show (4 : Int).toNat = 4 from rfl, Nat.reduceMul, Nat.reduceEqDiff, Go.Addr.add, ↓reduceIte] at hx205_0)
 have qi205 : (4 < l0.length) = True := eq_true (by omega)
 (try rw [show ((4 : Int)).toNat = 4 from rfl] at hx205_0)
 replace p205 := eq_true p205
 replace q205 := eq_true q205
 have p206 : 0 ≤ (5 : Int) := (by omega)
 have q206 : 5 < (l0.length : Int) := of_decide_eq_true xA
 obtain ⟨ad206, e206, hx206_0⟩ := Kd.at_int HR0.out 5 p206 q206
 obtain rfl : ad201 = ad206 := (by injection e206)
 (try simp only [show (5 : Int).toNat = 5 from rfl, Nat.reduceMul, Nat.reduceEqDiff, Go.Addr.add, ↓reduceIte] at hx206_0)
 have qi206 : (5 < l0.length) = True := eq_true (by omega)
 (try rw [show ((5 : Int)).toNat = 5 from rfl] at hx206_0)
 replace p206 := eq_true p206
 replace q206 := eq_true q206
 have p207 : 0 ≤ (6 : Int) := (by omega)
 have q207 : 6 < (l0.length : Int) := of_decide_eq_true xA
 obtain ⟨ad207, e207, hx207_0⟩ := Kd.at_int HR0.out 6 p207 q207
 obtain rfl : ad201 = ad207 := (by injection e207)
 (try simp only [show (6 : Int).toNat = 6 from rfl, Nat.reduceMul, Nat.reduceEqDiff, Go.Addr.add, ↓reduceIte] at hx207_0)
 have qi207 : (6 < l0.length) = True := eq_true (by omega)
 (try rw [show ((6 : Int)).toNat = 6 from rfl] at hx207_0)
 replace p207 := eq_true p207
 replace q207 := eq_true q207
 have p208 : 0 ≤ (7 : Int) := (by omega)
 have q208 : 7 < (l0.length : Int) := of_decide_eq_true xA
 obtain ⟨ad208, e208, hx208_0⟩ := Kd.at_int HR0.out 7 p208 q208
 obtain rfl : ad201 = ad208 := (by injection e208)
 (try simp only [show (7 : Int).toNat = 7 from rfl, Nat.reduceMul, Nat.reduceEqDiff, Go.Addr.add, ↓reduceIte] at hx208_0)
 have qi208 : (7 < l0.length) = True := eq_true (by omega)
 (try rw [show ((7 : Int)).toNat = 7 from rfl] at hx208_0)
 replace p208 := eq_true p208
 replace q208 := eq_true q208
 go_enter Tryd.func125, Tryd.ntmps125
 go_wp2
 go_loopg [7, 8, 9, 10, 11, 12, 13, 14, 15] k (fun kq v7 v8 v9 v10 v11 v12 v13 v14 v15 w' => ∃ (x7_1 : Int) (x8_1 : Int) (x9_1 : Int) (x10_1 : Int) (x11_1 : Int) (x12_1 : Int) (x13_1 : Int) (x14_1 : Int) (x15_1 : Int), v7 = .int .i64 x7_1 ∧ v8 = .int .i64 x8_1 ∧ v9 = .int .i64 x9_1 ∧ v10 = .int .i64 x10_1 ∧ v11 = .int .i64 x11_1 ∧ v12 = .int .i64 x12_1 ∧ v13 = .int .i64 x13_1 ∧ v14 = .int .i64 x14_1 ∧ v15 = .int .i64 x15_1 ∧ Aside0 (spec_l1Mix.l0 kq l0 l1 l2 x7_1 x8_1 x9_1 x10_1 x11_1 x12_1 x13_1 x14_1 x15_1 = some r) ∧ Aside0 (kq ≤ k) ∧ Aside0 (Below w.heap.size w w'))
 case atStart => exact ⟨(rd l0 0), (rd l0 1), (rd l0 2), (rd l0 3), (rd l0 4), (rd l0 5), (rd l0 6), (rd l0 7), (0), xR, xR, xR, xR, xR, xR, xR, xR, xR, H', ⟨Nat.le_refl _⟩, ⟨bl HB⟩⟩
 case round =>
  clear H'
  try clear c1
  try clear c2
  try clear p2
  try clear q2
  try clear hx2
  try clear qi2
  try clear c4
  try clear c4b0
  try clear c4b1
  try clear c5
  try clear c5b0
  try clear c5b1
  try clear c6
  try clear c6b0
  try clear c6b1
  try clear c7
  try clear c7b0
  try clear c7b1
  try clear c8
  try clear c8b0
  try clear c8b1
  try clear c9
  try clear c9b0
  try clear c9b1
  try clear c10
  try clear c10b0
  try clear c10b1
  try clear c11
  try clear c11b0
  try clear c11b1
  try clear hx201_0
  try clear hx202_0
  try clear hx203_0
  try clear hx204_0
  try clear hx205_0
  try clear hx206_0
  try clear hx207_0
  try clear hx208_0
  try clear p201
  try clear p202
  try clear p203
  try clear p204
  try clear p205
  try clear p206
  try clear p207
  try clear p208
  try clear q201
  try clear q202
  try clear q203
  try clear q204
  try clear q205
  try clear q206
  try clear q207
  try clear q208
  obtain ⟨x7_1, x8_1, x9_1, x10_1, x11_1, x12_1, x13_1, x14_1, x15_1, rfl, rfl, rfl, rfl, rfl, rfl, rfl, rfl, rfl, HA, HK1, HB⟩ := hrel
  cases gk with
  | zero => exact absurd HA.out (by simp [spec_l1Mix.l0])
  | succ k1 =>
   have H := HA.out
   clear HA
   simp only [spec_l1Mix.l0] at H
   by_cases c12 : x15_1 < 64
   ·rw [if_pos c12] at H
    have c12b0 := decide_eq_true c12
    clear c12
    replace H := oa H
    obtain ⟨t209, A13, H⟩ := H
    replace H := oa H
    obtain ⟨t210, A14, H⟩ := H
    replace H := oa H
    obtain ⟨t211, A15, H⟩ := H
    replace H := ipd H
    obtain ⟨c16b0, H⟩ := H
    replace H := ipd H
    obtain ⟨c17b0, H⟩ := H
    replace H := ipd H
    obtain ⟨c18b0, H⟩ := H
    replace H := oa H
    obtain ⟨t214, A19, H⟩ := H
    replace H := oa H
    obtain ⟨t215, A20, H⟩ := H
    replace H := oa H
    obtain ⟨t216, A21, H⟩ := H
    have H' := Aside0.mk H
    clear H
    try go_wp2
    replace HB := am (below_drew1 HB.out)
    have p212 : 0 ≤ (x15_1 : Int) := of_decide_eq_true xA
    have q212 : x15_1 < (l2.length : Int) := of_decide_eq_true xA
    obtain ⟨ad212, e212, hx212_0⟩ := Kd.at_int HR2.out x15_1 p212 q212
    have hw212_0 := hx212_0
    cases e212
    replace hx212_0 := hc HB hx212_0
    replace p212 := eq_true p212
    replace q212 := eq_true q212
    have p213 : 0 ≤ (x15_1 : Int) := of_decide_eq_true xA
    have q213 : x15_1 < (l1.length : Int) := of_decide_eq_true xA
    obtain ⟨ad213, e213, hx213_0⟩ := Kd.at_int HR1.out x15_1 p213 q213
    have hw213_0 := hx213_0
    cases e213
    replace hx213_0 := hc HB hx213_0
    replace p213 := eq_true p213
    replace q213 := eq_true q213
    refine start_ (n := 30) (S := fun w' => w'.cell? (ad212.add (x15_1).toNat) = some (.int .i64 (rd l2 x15_1)) ∧ w'.cell? (ad213.add (x15_1).toNat) = some (.int .i64 (rd l1 x15_1))) (ds := []) (bm 30 0) (by kernel_rfl) rfl rfl ⟨(hd HB hw212_0), (hd HB hw213_0)⟩ (fun hHeld => ?_); refine with_tabW spec_l1Mix.tab12 spec_l1Mix.bits12 (fun HT_ HW_ => ?_)
    generalize wr.drew = w22 at HB hx212_0 hx213_0 hHeld ⊢
    refine pA 0 49 (bm 30 1) HT_ ?_
    refine pA 1 50 (bm 30 3) HT_ ?_
    refine pA 3 52 (bm 30 11) HT_ ?_
    refine pA 6 55 (bm 30 75) HT_ ?_
    refine pA 10 59 (bm 30 1099) HT_ ?_
    refine pA 11 60 (bm 30 3147) HT_ ?_
    refine pA 12 61 (bm 30 7243) HT_ ?_
    refine pA 13 62 (bm 30 15435) HT_ ?_
    refine pA 14 63 (bm 30 31819) HT_ ?_
    refine pA 15 64 (bm 30 64587) HT_ ?_
    refine pA 16 65 (bm 30 130123) HT_ ?_
    refine pA 17 66 (bm 30 261195) HT_ ?_
    refine pA 19 68 (bm 30 785483) HT_ ?_
    refine pA 20 69 (bm 30 1834059) HT_ ?_
    refine pA 21 70 (bm 30 3931211) HT_ ?_
    refine pA 24 73 (bm 30 20708427) HT_ ?_
    refine pA 25 74 (bm 30 54262859) HT_ ?_
    refine pA 26 75 (bm 30 121371723) HT_ ?_
    refine tA 22 71 (bm 30 125566027) HT_ HW_ hHeld ?_
    refine tA 27 76 (bm 30 259783755) HT_ HW_ hHeld ?_
    refine oA 2 (some 51) (bm 30 259783759) HT_ fun K hK => ?_
    refine gA Tryd.func130 #[.int .i64 x11_1, .int .i64 6] ?_
    with_reducible refine (spec_l1Turn.calls x11_1 6 t209 _ A13.out).mono ?_
    rintro e w' ⟨rfl, ⟨nd, rfl⟩⟩
    refine ⟨_, rfl, ?_⟩
    refine hK.out _ _ ⟨(hd HB hw212_0), (hd HB hw213_0)⟩ (fun hHeld => ?_)
    clear hK K
    refine nA (some 51) ?_
    refine oA 4 (some 53) (bm 30 259783775) HT_ fun K hK => ?_
    refine gA Tryd.func130 #[.int .i64 x11_1, .int .i64 11] ?_
    with_reducible refine (spec_l1Turn.calls x11_1 11 t210 _ A14.out).mono ?_
    rintro e w' ⟨rfl, ⟨nd, rfl⟩⟩
    refine ⟨_, rfl, ?_⟩
    refine hK.out _ _ ⟨(hd HB hw212_0), (hd HB hw213_0)⟩ (fun hHeld => ?_)
    clear hK K
    refine nA (some 53) ?_
    refine pA 5 54 (bm 30 259783807) HT_ ?_
    refine oA 7 (some 56) (bm 30 259783935) HT_ fun K hK => ?_
    refine gA Tryd.func130 #[.int .i64 x11_1, .int .i64 25] ?_
    with_reducible refine (spec_l1Turn.calls x11_1 25 t211 _ A15.out).mono ?_
    rintro e w' ⟨rfl, ⟨nd, rfl⟩⟩
    refine ⟨_, rfl, ?_⟩
    refine hK.out _ _ ⟨(hd HB hw212_0), (hd HB hw213_0)⟩ (fun hHeld => ?_)
    clear hK K
    refine nA (some 56) ?_
    refine pA 8 57 (bm 30 259784191) HT_ ?_
    refine pA 9 58 (bm 30 259784703) HT_ ?_
    refine pA 18 67 (bm 30 260046847) HT_ ?_
    refine pA 23 72 (bm 30 268435455) HT_ ?_
    refine pA 28 77 (bm 30 536870911) HT_ ?_
    refine pA 29 16 (bm 30 1073741823) HT_ ?_
    refine done_ (done_of HT_.out (by kernel_rfl)) ?_
    try go_wp2_with ((with_reducible refine gg ?_); first | (refine gL 79 Tryd.func130 #[.int .i64 x7_1, .int .i64 2] ?_; (with_reducible refine (spec_l1Turn.calls x7_1 2 t214 _ A19.out).mono ?_); rintro e w' ⟨rfl, ⟨nd, rfl⟩⟩; refine ⟨_, rfl, ?_⟩) | (refine gL 81 Tryd.func130 #[.int .i64 x7_1, .int .i64 13] ?_; (with_reducible refine (spec_l1Turn.calls x7_1 13 t215 _ A20.out).mono ?_); rintro e w' ⟨rfl, ⟨nd, rfl⟩⟩; refine ⟨_, rfl, ?_⟩) | (refine gL 84 Tryd.func130 #[.int .i64 x7_1, .int .i64 22] ?_; (with_reducible refine (spec_l1Turn.calls x7_1 22 t216 _ A21.out).mono ?_); rintro e w' ⟨rfl, ⟨nd, rfl⟩⟩; refine ⟨_, rfl, ?_⟩))
    go_roundg k1
    case measure => have := HK1.out; omega
    case rel => exact ⟨(Go.bits .and .i64 (wrap64 ((wrap64 ((wrap64 ((wrap64 ((wrap64 (x14_1 + (Go.bits .xor .i64 (Go.bits .xor .i64 t209 t210) t211))) + (Go.bits .xor .i64 (Go.bits .and .i64 x11_1 x12_1) (Go.bits .and .i64 (Go.bits .xor .i64 4294967295 x11_1) x13_1)))) + (rd l2 x15_1))) + (rd l1 x15_1))) + (wrap64 ((Go.bits .xor .i64 (Go.bits .xor .i64 t214 t215) t216) + (Go.bits .xor .i64 (Go.bits .xor .i64 (Go.bits .and .i64 x7_1 x8_1) (Go.bits .and .i64 x7_1 x9_1)) (Go.bits .and .i64 x8_1 x9_1)))))) 4294967295), (x7_1), (x8_1), (x9_1), (Go.bits .and .i64 (wrap64 (x10_1 + (wrap64 ((wrap64 ((wrap64 ((wrap64 (x14_1 + (Go.bits .xor .i64 (Go.bits .xor .i64 t209 t210) t211))) + (Go.bits .xor .i64 (Go.bits .and .i64 x11_1 x12_1) (Go.bits .and .i64 (Go.bits .xor .i64 4294967295 x11_1) x13_1)))) + (rd l2 x15_1))) + (rd l1 x15_1))))) 4294967295), (x11_1), (x12_1), (x13_1), (wrap64 (x15_1 + 1)), xR, xR, xR, xR, xR, xR, xR, xR, xR, H', ⟨xL HK1⟩, ⟨bl HB⟩⟩
   rw [if_neg c12] at H
   have c12b0 := decide_eq_false c12
   clear c12
   obtain ⟨y217, Ny217⟩ := yA (([x7_1, x8_1, x9_1, x10_1, x11_1, x12_1, x13_1, x14_1] : List Int) : List Int)
   rw [← Ny217.out] at H
   replace H := ip H
   obtain ⟨c23, H⟩ := H
   have c23b0 := eq_true c23
   have c23b1 := decide_eq_true c23
   clear c23
   obtain ⟨y220, Ny220⟩ := yA (List.replicate 8 0 : List Int)
   rw [← Ny220.out] at H
   have H' := Aside0.mk H
   clear H
   go_wp2_with (first | ((with_reducible refine gate_dst (N := 120) rfl ?_); refine Kd.R_lit (Kd.int .i64) _ 3 ?hg (N := 120) ?hd (xs := ([x7_1, x8_1, x9_1, x10_1, x11_1, x12_1, x13_1, x14_1] : List Int)) (inner := [.int .i64 x7_1, .int .i64 x8_1, .int .i64 x9_1, .int .i64 x10_1, .int .i64 x11_1, .int .i64 x12_1, .int .i64 x13_1, .int .i64 x14_1]) (ok := fun _ => True) (okp := fun _ => True) ?hr ?hp (fun _ hk => hk) trivial (Below.refl _ _) (Nat.le_refl _) (by simp) ?_; (case hd => rfl); (case hg => rfl); (case hr => first | (go_simp; done) | (go_simp; rfl)); (case hp => exact xP); intro v218 w24 ho25 hb hg_ hnew_; clear hg_ hnew_; (first | rw [← Ny217.out] at ho25 | (simp only [Int.reduceToNat] at ho25; rw [← Ny217.out] at ho25)); have HO219 := am (Kd.R_lower ho25 (below_size (bl HB))); replace HB := kH HB hb; clear hb ho25) | ((with_reducible refine gate_dst (N := 121) rfl ?_); refine Kd.R_make (Kd.int .i64) _ 3 rfl (N := 121) rfl 114 _ _ rfl 8 rfl rfl Tryd.underlying114 (.int .i64 0) 8 info3 rfl (by decide) (by omega) 0 (ok := fun _ => True) (okp := fun _ => True) rfl (fun _ hk => hk) trivial (by omega) (by omega) (Below.refl _ _) (Nat.le_refl _) ?_; intro v221 w26 ho27 hb hg_ hnew_; clear hg_ hnew_; (first | rw [← Ny220.out] at ho27 | (simp only [Int.reduceToNat] at ho27; rw [← Ny220.out] at ho27)); have HO222 := am (Kd.R_lower (Kd.R_new' ho27 (Kd.R_lt (ra HO219))) (below_size (bl HB))); replace HO219 := am (Kd.R_elder' (ra HO219) (Kd.R_base ho27) hb); replace HB := kH HB hb; clear hb ho27))
   go_loopg [20] k1 (fun kq v20 w' => ∃ (x19_2 : List Int) (x20_2 : Int), v20 = .int .i64 x20_2 ∧ Aside0 (spec_l1Mix.l1 kq l0 y217 x19_2 x20_2 = some r) ∧ Aside0 (kq ≤ k1) ∧ Aside0 (Kd.R (Kd.int .i64) 3 w' w.heap.size (fun k_ => some k_ ≠ (v221 : Value).ownBlock) v218 y217) ∧ Aside0 (Kd.R (Kd.int .i64) 3 w' w.heap.size (fun k_ => some k_ ≠ (v218 : Value).ownBlock) v221 x19_2) ∧ Aside0 (Below w.heap.size w w'))
   case atStart => exact ⟨(y220), (0), xR, H', ⟨Nat.le_refl _⟩, ⟨rM HO219 (fun _ hk => hk.2)⟩, ⟨rM HO222 (fun _ hk => hk.2)⟩, ⟨bl HB⟩⟩
   case round =>
    clear H'
    try clear c1
    try clear c2
    try clear p2
    try clear q2
    try clear hx2
    try clear qi2
    try clear c4
    try clear c4b0
    try clear c4b1
    try clear c5
    try clear c5b0
    try clear c5b1
    try clear c6
    try clear c6b0
    try clear c6b1
    try clear p6
    try clear c7
    try clear c7b0
    try clear c7b1
    try clear c8
    try clear c8b0
    try clear c8b1
    try clear c9
    try clear c9b0
    try clear c9b1
    try clear c10
    try clear c10b0
    try clear c10b1
    try clear c11
    try clear c11b0
    try clear c11b1
    try clear c12
    try clear c12b0
    try clear c13
    try clear c16
    try clear c16b0
    try clear c17
    try clear c17b0
    try clear c18
    try clear c18b0
    try clear p20
    try clear q20
    try clear hx20
    try clear qi20
    try clear p21
    try clear q21
    try clear hx21
    try clear c23
    try clear c23b0
    try clear c23b1
    try clear hx201_0
    try clear hx202_0
    try clear hx203_0
    try clear hx204_0
    try clear hx205_0
    try clear hx206_0
    try clear hx207_0
    try clear hx208_0
    try clear hx212_0
    try clear hx213_0
    try clear p2
    try clear p201
    try clear p202
    try clear p203
    try clear p204
    try clear p205
    try clear p206
    try clear p207
    try clear p208
    try clear p212
    try clear p213
    try clear q2
    try clear q201
    try clear q202
    try clear q203
    try clear q204
    try clear q205
    try clear q206
    try clear q207
    try clear q208
    try clear q212
    try clear q213
    obtain ⟨x19_2, x20_2, rfl, HA, HK2, HO_18, HO_19, HB⟩ := hrel
    cases gk with
    | zero => exact absurd HA.out (by simp [spec_l1Mix.l1])
    | succ k2 =>
     have H := HA.out
     clear HA
     simp only [spec_l1Mix.l1] at H
     by_cases c28 : x20_2 < 8
     rotate_left
     ·rw [if_neg c28] at H
      have c28b0 := decide_eq_false c28
      clear c28
      obtain rfl := Option.some.inj H
      go_wp2
      go_ret
      exact ⟨_, xE, rM HO_19 (fun _ hk => trivial), bl HB⟩
     rw [if_pos c28] at H
     have c28b0 := decide_eq_true c28
     clear c28
     replace H := ipd H
     obtain ⟨c29b0, H⟩ := H
     replace H := ipd H
     obtain ⟨c30b0, H⟩ := H
     replace H := ipd H
     obtain ⟨c31b0, H⟩ := H
     replace H := ipd H
     obtain ⟨c32b0, H⟩ := H
     obtain ⟨y225, Ny225⟩ := yA (x19_2.set (x20_2 : Int).toNat (Go.bits .and .i64 (wrap64 ((rd l0 x20_2) + (rd y217 x20_2))) 4294967295) : List Int)
     first | rw [← Ny225.out] at H | (replace H := bh H; rw [← Ny225.out] at H)
     have H' := Aside0.mk H
     clear H
     try go_wp2
     replace HO_18 := am (Kd.R_drew HO_18.out)
     replace HO_19 := am (Kd.R_drew HO_19.out)
     replace HB := am (below_drew1 HB.out)
     have p223 : 0 ≤ (x20_2 : Int) := of_decide_eq_true xA
     have q223 : x20_2 < (l0.length : Int) := of_decide_eq_true xA
     obtain ⟨ad223, e223, hx223_0⟩ := Kd.at_int HR0.out x20_2 p223 q223
     have hw223_0 := hx223_0
     obtain rfl : ad201 = ad223 := (by injection e223)
     replace hx223_0 := hc HB hx223_0
     replace p223 := eq_true p223
     replace q223 := eq_true q223
     obtain ⟨Ao35, co35, eo35⟩ := Kd.R_slice HO_18.out
     (first | subst eo35 | (injection eo35 with f1_ f2_ f3_; have f4_ := f1_.symm; have f5_ := f3_.symm; clear f1_ f2_ f3_; subst f4_; subst f5_))
     have p224 : 0 ≤ (x20_2 : Int) := of_decide_eq_true xA
     have q224 : x20_2 < (y217.length : Int) := of_decide_eq_true xA
     obtain ⟨ad224, e224, hx224_0⟩ := Kd.at_int (Kd.R_reads' HO_18.out).2.2 x20_2 p224 q224
     cases e224
     replace p224 := eq_true p224
     replace q224 := eq_true q224
     have p33 : 0 ≤ (x20_2 : Int) := of_decide_eq_true xA
     have q33 : (x20_2 : Int) < ((x19_2.length : Int) : Int) := of_decide_eq_true xA
     obtain ⟨go33, co33, eo33, gb33, gl33, cl33, HG33⟩ := Kd.R_form HO_19.out (by omega)
     (first | cases eo33 | (injection eo33 with ea_ en_ ec_; (first | subst ea_ | (injection ea_ with ea_; subst ea_)); subst ec_; clear en_))
     have GB33 := Aside0.mk gb33
     have GG33 := Aside0.mk HG33
     clear gb33 gl33 HG33
     obtain ⟨hx33_0, hf33_0⟩ := Kd.R_celln 0 HO_19.out (x20_2 : Int) p33 q33
     replace p33 := eq_true p33
     replace q33 := eq_true q33
     have HP36 := Kd.R_putn HO_19.out (x20_2 : Int) (Go.bits .and .i64 (wrap64 ((rd l0 x20_2) + (rd y217 x20_2))) 4294967295)
     rw [← Ny225.out] at HP36
     have HQ36 := Aside0.mk HP36
     clear HP36
     refine start_ (n := 14) (S := fun w' => w'.cell? (ad201.add (x20_2).toNat) = some (.int .i64 (rd l0 x20_2)) ∧ w'.cell? (ad224.add (x20_2).toNat) = some (.int .i64 (rd y217 x20_2))) (ds := [13]) (bm 14 0) (by kernel_rfl) rfl rfl ⟨(hd HB hw223_0), hx224_0⟩ (fun hHeld => ?_); refine with_tabW spec_l1Mix.tab27 spec_l1Mix.bits27 (fun HT_ HW_ => ?_)
     generalize wr.drew = w34 at HO_18 HO_19 HB GG33 HQ36 hf33_0 hx223_0 hx224_0 hx33_0 hHeld ⊢
     refine pA 0 126 (bm 14 1) HT_ ?_
     refine pA 1 127 (bm 14 3) HT_ ?_
     refine pA 2 128 (bm 14 7) HT_ ?_
     refine pA 3 129 (bm 14 15) HT_ ?_
     refine pA 4 130 (bm 14 31) HT_ ?_
     refine pA 6 132 (bm 14 95) HT_ ?_
     refine pA 7 133 (bm 14 223) HT_ ?_
     refine pA 8 134 (bm 14 479) HT_ ?_
     refine tA 5 131 (bm 14 511) HT_ HW_ hHeld ?_
     refine tA 9 135 (bm 14 1023) HT_ HW_ hHeld ?_
     refine pA 10 136 (bm 14 2047) HT_ ?_
     refine pA 11 137 (bm 14 4095) HT_ ?_
     refine pA 12 138 (bm 14 8191) HT_ ?_
     refine last_ (i := 13) (N := none) (bm 14 16383) rfl rfl (one_of HT_.out (by kernel_rfl)) (by decide) (fun K hK => ?_)
     refine skip_ (w1 := ?_) (by rfl) rfl ?_ ?_
     rotate_left
     ·go_simp
      rfl
     refine hK.out _ _ ?_
     clear hK K
     refine done_ (done_of HT_.out (by kernel_rfl)) ?_
     try go_wp2
     go_roundg k2
     case measure => have := HK1.out; have := HK2.out; omega
     case rel => exact ⟨(y225), (wrap64 (x20_2 + 1)), xR, H', ⟨by have := HK1.out; have := HK2.out; omega⟩, ⟨by (with_reducible repeat (first | apply Kd.R_alloc | apply Kd.R_drewN | apply Kd.R_drew)); exact Kd.R_mono (Kd.R_far (p := ⟨go33, (x20_2 : Int).toNat, none⟩) (Kd.R_mono HO_18.out (fun k_ hk => (⟨hk, fun e_ => hk (by rw [e_]; rfl)⟩ : _ ∧ k_ ≠ go33))) (fun _ hk => hk.2) (.int .i64 (Go.bits .and .i64 (wrap64 ((rd l0 x20_2) + (rd y217 x20_2))) 4294967295))) (fun _ hk => hk.1)⟩, ⟨by (with_reducible repeat (first | apply Kd.R_alloc | apply Kd.R_drewN | apply Kd.R_drew)); exact HQ36.out⟩, ⟨xB HB⟩⟩
end Go.Proofs.YtgjljbaadglpnaaDoor.PFnHeadGet
