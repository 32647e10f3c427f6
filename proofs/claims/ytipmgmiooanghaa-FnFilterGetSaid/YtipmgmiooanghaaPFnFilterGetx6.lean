/- Functions of the program, what each answers, and that the program does so: made by a program of this session (wip/drive.py) out of the print, with contracts proved by hand put in. Conditions: those that each theorem tells. -/
import Derived.Test.YtipmgmiooanghaaPFnFilterGetx0
import Derived.Test.YtipmgmiooanghaaPFnFilterGetx5
namespace Go.Proofs.Ytipmgmiooanghaa.PFnFilterGet
open Go.RowKit Go.Proofs.YtipmgmiooanghaaW.PrintWords Go.Proofs.YtipmgmiooanghaaW.PrintLast Go.Proofs.YtipmgmiooanghaaW.PrintMore
attribute [local go_sem] max2_int min2_int max_two min_two max_three min_three max_four min_four   -- for this text's walks alone
set_option linter.unusedVariables false
set_option linter.unusedSimpArgs false

/-! ### spec_l1Mix: function 65 -/
mutual
def spec_l1Mix.l0 : Nat → List Int → List Int → List Int → Int → Int → Int → Int → Int → Int → Int → Int → Int → Option (List Int)
 | 0, _, _, _, _, _, _, _, _, _, _, _, _ => none
 | k + 1, x0, x1, x2, x7, x8, x9, x10, x11, x12, x13, x14, x15 => if x15 < 64 then ((spec_l1Turn.f x11 6).bind fun t195 => ((spec_l1Turn.f x11 11).bind fun t196 => ((spec_l1Turn.f x11 25).bind fun t197 => (if 0 ≤ x15 then (if x15 < (x2.length : Int) then (if x15 < (x1.length : Int) then ((spec_l1Turn.f x7 2).bind fun t200 => ((spec_l1Turn.f x7 13).bind fun t201 => ((spec_l1Turn.f x7 22).bind fun t202 => (spec_l1Mix.l0 k x0 x1 x2 (Go.bits .and .i64 (wrap64 ((wrap64 ((wrap64 ((wrap64 ((wrap64 (x14 + (Go.bits .xor .i64 (Go.bits .xor .i64 t195 t196) t197))) + (Go.bits .xor .i64 (Go.bits .and .i64 x11 x12) (Go.bits .and .i64 (Go.bits .xor .i64 4294967295 x11) x13)))) + (rd x2 x15))) + (rd x1 x15))) + (wrap64 ((Go.bits .xor .i64 (Go.bits .xor .i64 t200 t201) t202) + (Go.bits .xor .i64 (Go.bits .xor .i64 (Go.bits .and .i64 x7 x8) (Go.bits .and .i64 x7 x9)) (Go.bits .and .i64 x8 x9)))))) 4294967295) x7 x8 x9 (Go.bits .and .i64 (wrap64 (x10 + (wrap64 ((wrap64 ((wrap64 ((wrap64 (x14 + (Go.bits .xor .i64 (Go.bits .xor .i64 t195 t196) t197))) + (Go.bits .xor .i64 (Go.bits .and .i64 x11 x12) (Go.bits .and .i64 (Go.bits .xor .i64 4294967295 x11) x13)))) + (rd x2 x15))) + (rd x1 x15))))) 4294967295) x11 x12 x13 (wrap64 (x15 + 1)))))) else (none)) else (none)) else (none))))) else (if 8 ≤ 35184372088832 then (spec_l1Mix.l1 k x0 (([x7, x8, x9, x10, x11, x12, x13, x14] : List Int)) (List.replicate 8 0) 0) else (none))
def spec_l1Mix.l1 : Nat → List Int → List Int → List Int → Int → Option (List Int)
 | 0, _, _, _, _ => none
 | k + 1, x0, x18, x19, x20 => if x20 < 8 then (if 0 ≤ x20 then (if x20 < (x0.length : Int) then (if x20 < (x18.length : Int) then (if x20 < (x19.length : Int) then (spec_l1Mix.l1 k x0 x18 (x19.set (x20 : Int).toNat (Go.bits .and .i64 (wrap64 ((rd x0 x20) + (rd x18 x20))) 4294967295)) (wrap64 (x20 + 1))) else (none)) else (none)) else (none)) else (none)) else (some x19)
end
def spec_l1Mix.f (k : Nat) (l0 : List Int) (l1 : List Int) (l2 : List Int) : Option (List Int) := if 0 < (l0.length : Int) then (if 1 < (l0.length : Int) then (if 2 < (l0.length : Int) then (if 3 < (l0.length : Int) then (if 4 < (l0.length : Int) then (if 5 < (l0.length : Int) then (if 6 < (l0.length : Int) then (if 7 < (l0.length : Int) then (spec_l1Mix.l0 k l0 l1 l2 (rd l0 0) (rd l0 1) (rd l0 2) (rd l0 3) (rd l0 4) (rd l0 5) (rd l0 6) (rd l0 7) 0) else (none)) else (none)) else (none)) else (none)) else (none)) else (none)) else (none)) else (none)
theorem spec_l1Mix.mono_l : ∀ k, (∀ y0 y1 y2 y3 y4 y5 y6 y7 y8 y9 y10 y11, LeO (spec_l1Mix.l0 k y0 y1 y2 y3 y4 y5 y6 y7 y8 y9 y10 y11) (spec_l1Mix.l0 (k + 1) y0 y1 y2 y3 y4 y5 y6 y7 y8 y9 y10 y11)) ∧ (∀ y0 y1 y2 y3, LeO (spec_l1Mix.l1 k y0 y1 y2 y3) (spec_l1Mix.l1 (k + 1) y0 y1 y2 y3))
 | 0 => ⟨fun _ _ _ _ _ _ _ _ _ _ _ _ r h => by simp [spec_l1Mix.l0] at h, fun _ _ _ _ r h => by simp [spec_l1Mix.l1] at h⟩
 | k + 1 => by
  obtain ⟨ih0, ih1⟩ := spec_l1Mix.mono_l k
  refine ⟨?_, ?_⟩
  ·intro y0 y1 y2 y3 y4 y5 y6 y7 y8 y9 y10 y11
   unfold spec_l1Mix.l0
   repeat' first
   | (with_reducible exact ih0 _ _ _ _ _ _ _ _ _ _ _ _)
   | (with_reducible exact ih1 _ _ _ _)
   | (with_reducible exact LeO.refl _)
   | (with_reducible exact LeO.none _)
   | (with_reducible refine LeO.ite ?_ ?_)
   | (with_reducible refine LeO.bind ?_ (fun _ => ?_))
   | exact ih0 _ _ _ _ _ _ _ _ _ _ _ _
   | exact ih1 _ _ _ _
   | exact LeO.none _
   | refine LeO.ite ?_ ?_
   | refine LeO.bind ?_ (fun _ => ?_)
  ·intro y0 y1 y2 y3
   unfold spec_l1Mix.l1
   repeat' first
   | (with_reducible exact ih0 _ _ _ _ _ _ _ _ _ _ _ _)
   | (with_reducible exact ih1 _ _ _ _)
   | (with_reducible exact LeO.refl _)
   | (with_reducible exact LeO.none _)
   | (with_reducible refine LeO.ite ?_ ?_)
   | (with_reducible refine LeO.bind ?_ (fun _ => ?_))
   | exact ih0 _ _ _ _ _ _ _ _ _ _ _ _
   | exact ih1 _ _ _ _
   | exact LeO.none _
   | refine LeO.ite ?_ ?_
   | refine LeO.bind ?_ (fun _ => ?_)
theorem spec_l1Mix.mono : ∀ a0 a1 a2 k, LeO (spec_l1Mix.f k a0 a1 a2) (spec_l1Mix.f (k + 1) a0 a1 a2) := by
 intro a0 a1 a2 k
 obtain ⟨ih0, ih1⟩ := spec_l1Mix.mono_l k
 unfold spec_l1Mix.f
 repeat' first
   | (with_reducible exact ih0 _ _ _ _ _ _ _ _ _ _ _ _)
   | (with_reducible exact ih1 _ _ _ _)
   | (with_reducible exact LeO.refl _)
   | (with_reducible exact LeO.none _)
   | (with_reducible refine LeO.ite ?_ ?_)
   | (with_reducible refine LeO.bind ?_ (fun _ => ?_))
   | exact ih0 _ _ _ _ _ _ _ _ _ _ _ _
   | exact ih1 _ _ _ _
   | exact LeO.none _
   | refine LeO.ite ?_ ?_
   | refine LeO.bind ?_ (fun _ => ?_)
def spec_l1Mix.T12 : Bool × List (List Nat × List Nat) := (true, [([], []), ([], []), ([1], [1]), ([], []), ([3, 2], [3]), ([2, 4], [2, 4]), ([], []), ([6, 4], [6]), ([5, 7], [5, 7]), ([0, 8], [0, 8]), ([], []), ([], []), ([10, 11], [10, 11]), ([], []), ([13], [13]), ([], []), ([14, 15], [14, 15]), ([12, 16], [12, 16]), ([9, 17], [9, 17]), ([], []), ([], []), ([19, 20], [19, 20]), ([21], [21]), ([18, 22], [18, 22]), ([], []), ([], []), ([24, 25], [24, 25]), ([26], [26]), ([23, 27], [23, 27]), ([28, 7, 0, 1, 2, 3, 4, 5, 6, 7, 8, 9, 10, 11, 12, 13, 14, 15, 16, 17, 18, 19, 20, 21, 22, 23, 24, 25, 26, 27, 28], [28])])
def spec_l1Mix.B12 : List Nat := [0, 0, 2, 0, 14, 30, 0, 94, 254, 511, 0, 0, 3072, 0, 8192, 0, 57344, 130048, 262143, 0, 0, 1572864, 3670016, 8388607, 0, 0, 50331648, 117440512, 268435455, 536870911]
theorem spec_l1Mix.tab12 : rtab .any (opsOf Try.f65 12) = spec_l1Mix.T12 := by kernel_rfl
theorem spec_l1Mix.bits12 : waitsOk spec_l1Mix.T12.2 spec_l1Mix.B12 = true := by kernel_rfl
def spec_l1Mix.T27 : Bool × List (List Nat × List Nat) := (true, [([], []), ([], []), ([], []), ([], []), ([2, 3], [2, 3]), ([4], [4]), ([], []), ([], []), ([6, 7], [6, 7]), ([8], [8]), ([5, 9], [5, 9]), ([10], [10]), ([0, 1, 0, 1, 2, 3, 4, 5, 6, 7, 8, 9, 10, 11], [0, 1]), ([12, 11, 0, 1, 2, 3, 4, 5, 6, 7, 8, 9, 10, 11], [11, 12])])
def spec_l1Mix.B27 : List Nat := [0, 0, 0, 0, 12, 28, 0, 0, 192, 448, 1020, 2044, 4095, 8191]
theorem spec_l1Mix.tab27 : rtab .any (opsOf Try.f65 27) = spec_l1Mix.T27 := by kernel_rfl
theorem spec_l1Mix.bits27 : waitsOk spec_l1Mix.T27.2 spec_l1Mix.B27 = true := by kernel_rfl
set_option maxHeartbeats 8000000 in
set_option maxRecDepth 100000 in
theorem spec_l1Mix.calls (k : Nat) (A0 : Option Addr) (c0 : Nat) (l0 : List Int) (A1 : Option Addr) (c1 : Nat) (l1 : List Int) (A2 : Option Addr) (c2 : Nat) (l2 : List Int) (r : List Int) (w : World) (hr0 : Kd.C (Kd.int .i64) w A0 l0.length l0) (hc0 : l0.length ≤ c0) (hr1 : Kd.C (Kd.int .i64) w A1 l1.length l1) (hc1 : l1.length ≤ c1) (hr2 : Kd.C (Kd.int .i64) w A2 l2.length l2) (hc2 : l2.length ≤ c2) (h : spec_l1Mix.f k l0 l1 l2 = some r) :
  Calls Try.prog 65 #[.slice A0 l0.length c0, .slice A1 l1.length c1, .slice A2 l2.length c2] w fun e w' => ∃ v0_ : Value, e = .returned (v0_) ∧ Kd.R (Kd.int .i64) 3 w' w.heap.size (fun _ => True) v0_ r ∧ Below w.heap.size w w' := by
 have HR0 := Aside0.mk hr0
 have HC0 := Aside0.mk hc0
 clear hr0 hc0
 have HR1 := Aside0.mk hr1
 have HC1 := Aside0.mk hc1
 clear hr1 hc1
 have HR2 := Aside0.mk hr2
 have HC2 := Aside0.mk hc2
 clear hr2 hc2
 have HB := Aside0.mk (Below.refl w.heap.size w)
 have H : (if 0 < (l0.length : Int) then (if 1 < (l0.length : Int) then (if 2 < (l0.length : Int) then (if 3 < (l0.length : Int) then (if 4 < (l0.length : Int) then (if 5 < (l0.length : Int) then (if 6 < (l0.length : Int) then (if 7 < (l0.length : Int) then (spec_l1Mix.l0 k l0 l1 l2 (rd l0 0) (rd l0 1) (rd l0 2) (rd l0 3) (rd l0 4) (rd l0 5) (rd l0 6) (rd l0 7) 0) else (none)) else (none)) else (none)) else (none)) else (none)) else (none)) else (none)) else (none)) = some r := h
 clear h
 by_cases c4 : 0 < (l0.length : Int)
 ·rw [if_pos c4] at H
  have c4b0 : decide (0 < (l0.length : Int)) = true := decide_eq_true c4
  have c4b1 : decide (0 < l0.length) = true := decide_eq_true (by omega)
  clear c4
  by_cases c5 : 1 < (l0.length : Int)
  ·rw [if_pos c5] at H
   have c5b0 : decide (1 < (l0.length : Int)) = true := decide_eq_true c5
   have c5b1 : decide (1 < l0.length) = true := decide_eq_true (by omega)
   clear c5
   by_cases c6 : 2 < (l0.length : Int)
   ·rw [if_pos c6] at H
    have c6b0 : decide (2 < (l0.length : Int)) = true := decide_eq_true c6
    have c6b1 : decide (2 < l0.length) = true := decide_eq_true (by omega)
    clear c6
    by_cases c7 : 3 < (l0.length : Int)
    ·rw [if_pos c7] at H
     have c7b0 : decide (3 < (l0.length : Int)) = true := decide_eq_true c7
     have c7b1 : decide (3 < l0.length) = true := decide_eq_true (by omega)
     clear c7
     by_cases c8 : 4 < (l0.length : Int)
     ·rw [if_pos c8] at H
      have c8b0 : decide (4 < (l0.length : Int)) = true := decide_eq_true c8
      have c8b1 : decide (4 < l0.length) = true := decide_eq_true (by omega)
      clear c8
      by_cases c9 : 5 < (l0.length : Int)
      ·rw [if_pos c9] at H
       have c9b0 : decide (5 < (l0.length : Int)) = true := decide_eq_true c9
       have c9b1 : decide (5 < l0.length) = true := decide_eq_true (by omega)
       clear c9
       by_cases c10 : 6 < (l0.length : Int)
       ·rw [if_pos c10] at H
        have c10b0 : decide (6 < (l0.length : Int)) = true := decide_eq_true c10
        have c10b1 : decide (6 < l0.length) = true := decide_eq_true (by omega)
        clear c10
        by_cases c11 : 7 < (l0.length : Int)
        ·rw [if_pos c11] at H
         have c11b0 : decide (7 < (l0.length : Int)) = true := decide_eq_true c11
         have c11b1 : decide (7 < l0.length) = true := decide_eq_true (by omega)
         clear c11
         have H' := Aside0.mk H
         clear H
         have p187 : 0 ≤ (0 : Int) := (by omega)
         have q187 : 0 < (l0.length : Int) := of_decide_eq_true (by first | (with_reducible assumption) | assumption)
         obtain ⟨ad187, e187, hx187_0⟩ := Kd.at_int HR0.out 0 p187 q187
         cases e187
         have qi187 : (0 < l0.length) = True := eq_true (by omega)
         (try rw [show ((0 : Int)).toNat = 0 from rfl] at hx187_0)
         (try rw [Addr.add_zero'] at hx187_0)
         replace p187 := eq_true p187
         replace q187 := eq_true q187
         have p188 : 0 ≤ (1 : Int) := (by omega)
         have q188 : 1 < (l0.length : Int) := of_decide_eq_true (by first | (with_reducible assumption) | assumption)
         obtain ⟨ad188, e188, hx188_0⟩ := Kd.at_int HR0.out 1 p188 q188
         obtain rfl : ad187 = ad188 := (by injection e188)
         (try simp only [show (1 : Int).toNat = 1 from rfl, Nat.reduceMul, Nat.reduceEqDiff, Go.Addr.add, ↓reduceIte] at hx188_0)
         have qi188 : (1 < l0.length) = True := eq_true (by omega)
         (try rw [show ((1 : Int)).toNat = 1 from rfl] at hx188_0)
         replace p188 := eq_true p188
         replace q188 := eq_true q188
         have p189 : 0 ≤ (2 : Int) := (by omega)
         have q189 : 2 < (l0.length : Int) := of_decide_eq_true (by first | (with_reducible assumption) | assumption)
         obtain ⟨ad189, e189, hx189_0⟩ := Kd.at_int HR0.out 2 p189 q189
         obtain rfl : ad187 = ad189 := (by injection e189)
         (try simp only [show (2 : Int).toNat = 2 from rfl, Nat.reduceMul, Nat.reduceEqDiff, Go.Addr.add, ↓reduceIte] at hx189_0)
         have qi189 : (2 < l0.length) = True := eq_true (by omega)
         (try rw [show ((2 : Int)).toNat = 2 from rfl] at hx189_0)
         replace p189 := eq_true p189
         replace q189 := eq_true q189
         have p190 : 0 ≤ (3 : Int) := (by omega)
         have q190 : 3 < (l0.length : Int) := of_decide_eq_true (by first | (with_reducible assumption) | assumption)
         obtain ⟨ad190, e190, hx190_0⟩ := Kd.at_int HR0.out 3 p190 q190
         obtain rfl : ad187 = ad190 := (by injection e190)
         (try simp only [show (3 : Int).toNat = 3 from rfl, Nat.reduceMul, Nat.reduceEqDiff, Go.Addr.add, ↓reduceIte] at hx190_0)
         have qi190 : (3 < l0.length) = True := eq_true (by omega)
         (try rw [show ((3 : Int)).toNat = 3 from rfl] at hx190_0)
         replace p190 := eq_true p190
         replace q190 := eq_true q190
         have p191 : 0 ≤ (4 : Int) := (by omega)
         have q191 : 4 < (l0.length : Int) := of_decide_eq_true (by first | (with_reducible assumption) | assumption)
         obtain ⟨ad191, e191, hx191_0⟩ := Kd.at_int HR0.out 4 p191 q191
         obtain rfl : ad187 = ad191 := (by injection e191)
         (try simp only [show (4 : Int).toNat = 4 from rfl, Nat.reduceMul, Nat.reduceEqDiff, Go.Addr.add, ↓reduceIte] at hx191_0)
         have qi191 : (4 < l0.length) = True := eq_true (by omega)
         (try rw [show ((4 : Int)).toNat = 4 from rfl] at hx191_0)
         replace p191 := eq_true p191
         replace q191 := eq_true q191
         have p192 : 0 ≤ (5 : Int) := (by omega)
         have q192 : 5 < (l0.length : Int) := of_decide_eq_true (by first | (with_reducible assumption) | assumption)
         obtain ⟨ad192, e192, hx192_0⟩ := Kd.at_int HR0.out 5 p192 q192
         obtain rfl : ad187 = ad192 := (by injection e192)
         (try simp only [show (5 : Int).toNat = 5 from rfl, Nat.reduceMul, Nat.reduceEqDiff, Go.Addr.add, ↓reduceIte] at hx192_0)
         have qi192 : (5 < l0.length) = True := eq_true (by omega)
         (try rw [show ((5 : Int)).toNat = 5 from rfl] at hx192_0)
         replace p192 := eq_true p192
         replace q192 := eq_true q192
         have p193 : 0 ≤ (6 : Int) := (by omega)
         have q193 : 6 < (l0.length : Int) := of_decide_eq_true (by first | (with_reducible assumption) | assumption)
         obtain ⟨ad193, e193, hx193_0⟩ := Kd.at_int HR0.out 6 p193 q193
         obtain rfl : ad187 = ad193 := (by injection e193)
         (try simp only [show (6 : Int).toNat = 6 from rfl, Nat.reduceMul, Nat.reduceEqDiff, Go.Addr.add, ↓reduceIte] at hx193_0)
         have qi193 : (6 < l0.length) = True := eq_true (by omega)
         (try rw [show ((6 : Int)).toNat = 6 from rfl] at hx193_0)
         replace p193 := eq_true p193
         replace q193 := eq_true q193
         have p194 : 0 ≤ (7 : Int) := (by omega)
         have q194 : 7 < (l0.length : Int) := of_decide_eq_true (by first | (with_reducible assumption) | assumption)
         obtain ⟨ad194, e194, hx194_0⟩ := Kd.at_int HR0.out 7 p194 q194
         obtain rfl : ad187 = ad194 := (by injection e194)
         (try simp only [show (7 : Int).toNat = 7 from rfl, Nat.reduceMul, Nat.reduceEqDiff, Go.Addr.add, ↓reduceIte] at hx194_0)
         have qi194 : (7 < l0.length) = True := eq_true (by omega)
         (try rw [show ((7 : Int)).toNat = 7 from rfl] at hx194_0)
         replace p194 := eq_true p194
         replace q194 := eq_true q194
         go_enter Try.func65, Try.ntmps65
         go_wp2
         go_loopg [7, 8, 9, 10, 11, 12, 13, 14, 15] k (fun kq v7 v8 v9 v10 v11 v12 v13 v14 v15 w' => ∃ (x7_1 : Int) (x8_1 : Int) (x9_1 : Int) (x10_1 : Int) (x11_1 : Int) (x12_1 : Int) (x13_1 : Int) (x14_1 : Int) (x15_1 : Int), v7 = .int .i64 x7_1 ∧ v8 = .int .i64 x8_1 ∧ v9 = .int .i64 x9_1 ∧ v10 = .int .i64 x10_1 ∧ v11 = .int .i64 x11_1 ∧ v12 = .int .i64 x12_1 ∧ v13 = .int .i64 x13_1 ∧ v14 = .int .i64 x14_1 ∧ v15 = .int .i64 x15_1 ∧ Aside0 (spec_l1Mix.l0 kq l0 l1 l2 x7_1 x8_1 x9_1 x10_1 x11_1 x12_1 x13_1 x14_1 x15_1 = some r) ∧ Aside0 (kq ≤ k) ∧ Aside0 (Below w.heap.size w w'))
         case atStart => exact ⟨(rd l0 0), (rd l0 1), (rd l0 2), (rd l0 3), (rd l0 4), (rd l0 5), (rd l0 6), (rd l0 7), (0), (by first | rfl | (simp; done) | (simp [*]; done)), (by first | rfl | (simp; done) | (simp [*]; done)), (by first | rfl | (simp; done) | (simp [*]; done)), (by first | rfl | (simp; done) | (simp [*]; done)), (by first | rfl | (simp; done) | (simp [*]; done)), (by first | rfl | (simp; done) | (simp [*]; done)), (by first | rfl | (simp; done) | (simp [*]; done)), (by first | rfl | (simp; done) | (simp [*]; done)), (by first | rfl | (simp; done) | (simp [*]; done)), H', ⟨Nat.le_refl _⟩, ⟨by repeat (first | (with_reducible first | exact HB.out | apply below_alloc | apply pw_below_drewN | apply below_drew1) | exact HB.out)⟩⟩
         case round =>
          clear H'
          try clear c1
          try clear p1
          try clear q1
          try clear hx1
          try clear qi1
          try clear c2
          try clear p2
          try clear c4
          try clear c4b0
          try clear c4b1
          try clear c5
          try clear c5b0
          try clear c5b1
          try clear c6
          try clear c6b0
          try clear c6b1
          try clear c7
          try clear c7b0
          try clear c7b1
          try clear c8
          try clear c8b0
          try clear c8b1
          try clear c9
          try clear c9b0
          try clear c9b1
          try clear c10
          try clear c10b0
          try clear c10b1
          try clear c11
          try clear c11b0
          try clear c11b1
          try clear hx187_0
          try clear hx188_0
          try clear hx189_0
          try clear hx190_0
          try clear hx191_0
          try clear hx192_0
          try clear hx193_0
          try clear hx194_0
          try clear p187
          try clear p188
          try clear p189
          try clear p190
          try clear p191
          try clear p192
          try clear p193
          try clear p194
          try clear q187
          try clear q188
          try clear q189
          try clear q190
          try clear q191
          try clear q192
          try clear q193
          try clear q194
          obtain ⟨x7_1, x8_1, x9_1, x10_1, x11_1, x12_1, x13_1, x14_1, x15_1, rfl, rfl, rfl, rfl, rfl, rfl, rfl, rfl, rfl, HA, HK1, HB⟩ := hrel
          cases gk with
          | zero => exact absurd HA.out (by simp [spec_l1Mix.l0])
          | succ k1 =>
           have H := HA.out
           clear HA
           simp only [spec_l1Mix.l0] at H
           by_cases c12 : x15_1 < 64
           ·rw [if_pos c12] at H
            have c12b0 : decide (x15_1 < 64) = true := decide_eq_true c12
            clear c12
            replace H := Option.bind_eq_some_iff.mp H
            obtain ⟨t195, A130, H⟩ := H
            replace H : ((spec_l1Turn.f x11_1 11).bind fun t196 => ((spec_l1Turn.f x11_1 25).bind fun t197 => (if 0 ≤ x15_1 then (if x15_1 < (l2.length : Int) then (if x15_1 < (l1.length : Int) then ((spec_l1Turn.f x7_1 2).bind fun t200 => ((spec_l1Turn.f x7_1 13).bind fun t201 => ((spec_l1Turn.f x7_1 22).bind fun t202 => (spec_l1Mix.l0 k1 l0 l1 l2 (Go.bits .and .i64 (wrap64 ((wrap64 ((wrap64 ((wrap64 ((wrap64 (x14_1 + (Go.bits .xor .i64 (Go.bits .xor .i64 t195 t196) t197))) + (Go.bits .xor .i64 (Go.bits .and .i64 x11_1 x12_1) (Go.bits .and .i64 (Go.bits .xor .i64 4294967295 x11_1) x13_1)))) + (rd l2 x15_1))) + (rd l1 x15_1))) + (wrap64 ((Go.bits .xor .i64 (Go.bits .xor .i64 t200 t201) t202) + (Go.bits .xor .i64 (Go.bits .xor .i64 (Go.bits .and .i64 x7_1 x8_1) (Go.bits .and .i64 x7_1 x9_1)) (Go.bits .and .i64 x8_1 x9_1)))))) 4294967295) x7_1 x8_1 x9_1 (Go.bits .and .i64 (wrap64 (x10_1 + (wrap64 ((wrap64 ((wrap64 ((wrap64 (x14_1 + (Go.bits .xor .i64 (Go.bits .xor .i64 t195 t196) t197))) + (Go.bits .xor .i64 (Go.bits .and .i64 x11_1 x12_1) (Go.bits .and .i64 (Go.bits .xor .i64 4294967295 x11_1) x13_1)))) + (rd l2 x15_1))) + (rd l1 x15_1))))) 4294967295) x11_1 x12_1 x13_1 (wrap64 (x15_1 + 1)))))) else (none)) else (none)) else (none)))) = some r := H
            have A13 := Aside0.mk A130
            clear A130
            replace H := Option.bind_eq_some_iff.mp H
            obtain ⟨t196, A140, H⟩ := H
            replace H : ((spec_l1Turn.f x11_1 25).bind fun t197 => (if 0 ≤ x15_1 then (if x15_1 < (l2.length : Int) then (if x15_1 < (l1.length : Int) then ((spec_l1Turn.f x7_1 2).bind fun t200 => ((spec_l1Turn.f x7_1 13).bind fun t201 => ((spec_l1Turn.f x7_1 22).bind fun t202 => (spec_l1Mix.l0 k1 l0 l1 l2 (Go.bits .and .i64 (wrap64 ((wrap64 ((wrap64 ((wrap64 ((wrap64 (x14_1 + (Go.bits .xor .i64 (Go.bits .xor .i64 t195 t196) t197))) + (Go.bits .xor .i64 (Go.bits .and .i64 x11_1 x12_1) (Go.bits .and .i64 (Go.bits .xor .i64 4294967295 x11_1) x13_1)))) + (rd l2 x15_1))) + (rd l1 x15_1))) + (wrap64 ((Go.bits .xor .i64 (Go.bits .xor .i64 t200 t201) t202) + (Go.bits .xor .i64 (Go.bits .xor .i64 (Go.bits .and .i64 x7_1 x8_1) (Go.bits .and .i64 x7_1 x9_1)) (Go.bits .and .i64 x8_1 x9_1)))))) 4294967295) x7_1 x8_1 x9_1 (Go.bits .and .i64 (wrap64 (x10_1 + (wrap64 ((wrap64 ((wrap64 ((wrap64 (x14_1 + (Go.bits .xor .i64 (Go.bits .xor .i64 t195 t196) t197))) + (Go.bits .xor .i64 (Go.bits .and .i64 x11_1 x12_1) (Go.bits .and .i64 (Go.bits .xor .i64 4294967295 x11_1) x13_1)))) + (rd l2 x15_1))) + (rd l1 x15_1))))) 4294967295) x11_1 x12_1 x13_1 (wrap64 (x15_1 + 1)))))) else (none)) else (none)) else (none))) = some r := H
            have A14 := Aside0.mk A140
            clear A140
            replace H := Option.bind_eq_some_iff.mp H
            obtain ⟨t197, A150, H⟩ := H
            replace H : (if 0 ≤ x15_1 then (if x15_1 < (l2.length : Int) then (if x15_1 < (l1.length : Int) then ((spec_l1Turn.f x7_1 2).bind fun t200 => ((spec_l1Turn.f x7_1 13).bind fun t201 => ((spec_l1Turn.f x7_1 22).bind fun t202 => (spec_l1Mix.l0 k1 l0 l1 l2 (Go.bits .and .i64 (wrap64 ((wrap64 ((wrap64 ((wrap64 ((wrap64 (x14_1 + (Go.bits .xor .i64 (Go.bits .xor .i64 t195 t196) t197))) + (Go.bits .xor .i64 (Go.bits .and .i64 x11_1 x12_1) (Go.bits .and .i64 (Go.bits .xor .i64 4294967295 x11_1) x13_1)))) + (rd l2 x15_1))) + (rd l1 x15_1))) + (wrap64 ((Go.bits .xor .i64 (Go.bits .xor .i64 t200 t201) t202) + (Go.bits .xor .i64 (Go.bits .xor .i64 (Go.bits .and .i64 x7_1 x8_1) (Go.bits .and .i64 x7_1 x9_1)) (Go.bits .and .i64 x8_1 x9_1)))))) 4294967295) x7_1 x8_1 x9_1 (Go.bits .and .i64 (wrap64 (x10_1 + (wrap64 ((wrap64 ((wrap64 ((wrap64 (x14_1 + (Go.bits .xor .i64 (Go.bits .xor .i64 t195 t196) t197))) + (Go.bits .xor .i64 (Go.bits .and .i64 x11_1 x12_1) (Go.bits .and .i64 (Go.bits .xor .i64 4294967295 x11_1) x13_1)))) + (rd l2 x15_1))) + (rd l1 x15_1))))) 4294967295) x11_1 x12_1 x13_1 (wrap64 (x15_1 + 1)))))) else (none)) else (none)) else (none)) = some r := H
            have A15 := Aside0.mk A150
            clear A150
            by_cases c16 : 0 ≤ x15_1
            ·rw [if_pos c16] at H
             have c16b0 : decide (0 ≤ x15_1) = true := decide_eq_true c16
             clear c16
             by_cases c17 : x15_1 < (l2.length : Int)
             ·rw [if_pos c17] at H
              have c17b0 : decide (x15_1 < (l2.length : Int)) = true := decide_eq_true c17
              clear c17
              by_cases c18 : x15_1 < (l1.length : Int)
              ·rw [if_pos c18] at H
               have c18b0 : decide (x15_1 < (l1.length : Int)) = true := decide_eq_true c18
               clear c18
               replace H := Option.bind_eq_some_iff.mp H
               obtain ⟨t200, A190, H⟩ := H
               replace H : ((spec_l1Turn.f x7_1 13).bind fun t201 => ((spec_l1Turn.f x7_1 22).bind fun t202 => (spec_l1Mix.l0 k1 l0 l1 l2 (Go.bits .and .i64 (wrap64 ((wrap64 ((wrap64 ((wrap64 ((wrap64 (x14_1 + (Go.bits .xor .i64 (Go.bits .xor .i64 t195 t196) t197))) + (Go.bits .xor .i64 (Go.bits .and .i64 x11_1 x12_1) (Go.bits .and .i64 (Go.bits .xor .i64 4294967295 x11_1) x13_1)))) + (rd l2 x15_1))) + (rd l1 x15_1))) + (wrap64 ((Go.bits .xor .i64 (Go.bits .xor .i64 t200 t201) t202) + (Go.bits .xor .i64 (Go.bits .xor .i64 (Go.bits .and .i64 x7_1 x8_1) (Go.bits .and .i64 x7_1 x9_1)) (Go.bits .and .i64 x8_1 x9_1)))))) 4294967295) x7_1 x8_1 x9_1 (Go.bits .and .i64 (wrap64 (x10_1 + (wrap64 ((wrap64 ((wrap64 ((wrap64 (x14_1 + (Go.bits .xor .i64 (Go.bits .xor .i64 t195 t196) t197))) + (Go.bits .xor .i64 (Go.bits .and .i64 x11_1 x12_1) (Go.bits .and .i64 (Go.bits .xor .i64 4294967295 x11_1) x13_1)))) + (rd l2 x15_1))) + (rd l1 x15_1))))) 4294967295) x11_1 x12_1 x13_1 (wrap64 (x15_1 + 1))))) = some r := H
               have A19 := Aside0.mk A190
               clear A190
               replace H := Option.bind_eq_some_iff.mp H
               obtain ⟨t201, A200, H⟩ := H
               replace H : ((spec_l1Turn.f x7_1 22).bind fun t202 => (spec_l1Mix.l0 k1 l0 l1 l2 (Go.bits .and .i64 (wrap64 ((wrap64 ((wrap64 ((wrap64 ((wrap64 (x14_1 + (Go.bits .xor .i64 (Go.bits .xor .i64 t195 t196) t197))) + (Go.bits .xor .i64 (Go.bits .and .i64 x11_1 x12_1) (Go.bits .and .i64 (Go.bits .xor .i64 4294967295 x11_1) x13_1)))) + (rd l2 x15_1))) + (rd l1 x15_1))) + (wrap64 ((Go.bits .xor .i64 (Go.bits .xor .i64 t200 t201) t202) + (Go.bits .xor .i64 (Go.bits .xor .i64 (Go.bits .and .i64 x7_1 x8_1) (Go.bits .and .i64 x7_1 x9_1)) (Go.bits .and .i64 x8_1 x9_1)))))) 4294967295) x7_1 x8_1 x9_1 (Go.bits .and .i64 (wrap64 (x10_1 + (wrap64 ((wrap64 ((wrap64 ((wrap64 (x14_1 + (Go.bits .xor .i64 (Go.bits .xor .i64 t195 t196) t197))) + (Go.bits .xor .i64 (Go.bits .and .i64 x11_1 x12_1) (Go.bits .and .i64 (Go.bits .xor .i64 4294967295 x11_1) x13_1)))) + (rd l2 x15_1))) + (rd l1 x15_1))))) 4294967295) x11_1 x12_1 x13_1 (wrap64 (x15_1 + 1)))) = some r := H
               have A20 := Aside0.mk A200
               clear A200
               replace H := Option.bind_eq_some_iff.mp H
               obtain ⟨t202, A210, H⟩ := H
               replace H : (spec_l1Mix.l0 k1 l0 l1 l2 (Go.bits .and .i64 (wrap64 ((wrap64 ((wrap64 ((wrap64 ((wrap64 (x14_1 + (Go.bits .xor .i64 (Go.bits .xor .i64 t195 t196) t197))) + (Go.bits .xor .i64 (Go.bits .and .i64 x11_1 x12_1) (Go.bits .and .i64 (Go.bits .xor .i64 4294967295 x11_1) x13_1)))) + (rd l2 x15_1))) + (rd l1 x15_1))) + (wrap64 ((Go.bits .xor .i64 (Go.bits .xor .i64 t200 t201) t202) + (Go.bits .xor .i64 (Go.bits .xor .i64 (Go.bits .and .i64 x7_1 x8_1) (Go.bits .and .i64 x7_1 x9_1)) (Go.bits .and .i64 x8_1 x9_1)))))) 4294967295) x7_1 x8_1 x9_1 (Go.bits .and .i64 (wrap64 (x10_1 + (wrap64 ((wrap64 ((wrap64 ((wrap64 (x14_1 + (Go.bits .xor .i64 (Go.bits .xor .i64 t195 t196) t197))) + (Go.bits .xor .i64 (Go.bits .and .i64 x11_1 x12_1) (Go.bits .and .i64 (Go.bits .xor .i64 4294967295 x11_1) x13_1)))) + (rd l2 x15_1))) + (rd l1 x15_1))))) 4294967295) x11_1 x12_1 x13_1 (wrap64 (x15_1 + 1))) = some r := H
               have A21 := Aside0.mk A210
               clear A210
               have H' := Aside0.mk H
               clear H
               try go_wp2
               have n0_ := Aside0.mk (below_drew1 HB.out)
               clear HB
               have HB := n0_
               clear n0_
               have p198 : 0 ≤ (x15_1 : Int) := of_decide_eq_true (by first | (with_reducible assumption) | assumption)
               have q198 : x15_1 < (l2.length : Int) := of_decide_eq_true (by first | (with_reducible assumption) | assumption)
               obtain ⟨ad198, e198, hx198_0⟩ := Kd.at_int HR2.out x15_1 p198 q198
               have hw198_0 := hx198_0
               cases e198
               replace hx198_0 := (HB.out.cell (World.block_lt_of_cell? w _ hx198_0)).trans hx198_0
               replace p198 := eq_true p198
               replace q198 := eq_true q198
               have p199 : 0 ≤ (x15_1 : Int) := of_decide_eq_true (by first | (with_reducible assumption) | assumption)
               have q199 : x15_1 < (l1.length : Int) := of_decide_eq_true (by first | (with_reducible assumption) | assumption)
               obtain ⟨ad199, e199, hx199_0⟩ := Kd.at_int HR1.out x15_1 p199 q199
               have hw199_0 := hx199_0
               cases e199
               replace hx199_0 := (HB.out.cell (World.block_lt_of_cell? w _ hx199_0)).trans hx199_0
               replace p199 := eq_true p199
               replace q199 := eq_true q199
               refine start_ (n := 30) (S := fun w' => w'.cell? (ad198.add (x15_1).toNat) = some (.int .i64 (rd l2 x15_1)) ∧ w'.cell? (ad199.add (x15_1).toNat) = some (.int .i64 (rd l1 x15_1))) (ds := []) #[false, false, false, false, false, false, false, false, false, false, false, false, false, false, false, false, false, false, false, false, false, false, false, false, false, false, false, false, false, false] (by kernel_rfl) rfl rfl ⟨((HB.out.cell (World.block_lt_of_cell? w _ hw198_0)).trans hw198_0), ((HB.out.cell (World.block_lt_of_cell? w _ hw199_0)).trans hw199_0)⟩ (fun hHeld => ?_); refine with_tabW spec_l1Mix.tab12 spec_l1Mix.bits12 (fun HT_ HW_ => ?_)
               generalize wr.drew = w22 at HB hx198_0 hx199_0 hHeld ⊢
               refine pure_ (i := 0) (N := some 49) (v := ?_) (a' := ?_) #[true, false, false, false, false, false, false, false, false, false, false, false, false, false, false, false, false, false, false, false, false, false, false, false, false, false, false, false, false, false] rfl rfl (any_of HT_.out (by kernel_rfl)) (fun _ _ _ h => h) (Or.inl ⟨by rfl, ?_⟩) ?_ ?_
               rotate_left
               ·intro w'
                go_simp
                with_reducible rfl
               rotate_left
               ·simp only [Act.put, List.setIfInBounds_toArray, List.set_cons_zero, List.set_cons_succ, i64_w, i32_w]
                rfl
               refine pure_ (i := 1) (N := some 50) (v := ?_) (a' := ?_) #[true, true, false, false, false, false, false, false, false, false, false, false, false, false, false, false, false, false, false, false, false, false, false, false, false, false, false, false, false, false] rfl rfl (any_of HT_.out (by kernel_rfl)) (fun _ _ _ h => h) (Or.inl ⟨by rfl, ?_⟩) ?_ ?_
               rotate_left
               ·intro w'
                go_simp
                with_reducible rfl
               rotate_left
               ·simp only [Act.put, List.setIfInBounds_toArray, List.set_cons_zero, List.set_cons_succ, i64_w, i32_w]
                rfl
               refine pure_ (i := 3) (N := some 52) (v := ?_) (a' := ?_) #[true, true, false, true, false, false, false, false, false, false, false, false, false, false, false, false, false, false, false, false, false, false, false, false, false, false, false, false, false, false] rfl rfl (any_of HT_.out (by kernel_rfl)) (fun _ _ _ h => h) (Or.inl ⟨by rfl, ?_⟩) ?_ ?_
               rotate_left
               ·intro w'
                go_simp
                with_reducible rfl
               rotate_left
               ·simp only [Act.put, List.setIfInBounds_toArray, List.set_cons_zero, List.set_cons_succ, i64_w, i32_w]
                rfl
               refine pure_ (i := 6) (N := some 55) (v := ?_) (a' := ?_) #[true, true, false, true, false, false, true, false, false, false, false, false, false, false, false, false, false, false, false, false, false, false, false, false, false, false, false, false, false, false] rfl rfl (any_of HT_.out (by kernel_rfl)) (fun _ _ _ h => h) (Or.inl ⟨by rfl, ?_⟩) ?_ ?_
               rotate_left
               ·intro w'
                go_simp
                with_reducible rfl
               rotate_left
               ·simp only [Act.put, List.setIfInBounds_toArray, List.set_cons_zero, List.set_cons_succ, i64_w, i32_w]
                rfl
               refine pure_ (i := 10) (N := some 59) (v := ?_) (a' := ?_) #[true, true, false, true, false, false, true, false, false, false, true, false, false, false, false, false, false, false, false, false, false, false, false, false, false, false, false, false, false, false] rfl rfl (any_of HT_.out (by kernel_rfl)) (fun _ _ _ h => h) (Or.inl ⟨by rfl, ?_⟩) ?_ ?_
               rotate_left
               ·intro w'
                go_simp
                with_reducible rfl
               rotate_left
               ·simp only [Act.put, List.setIfInBounds_toArray, List.set_cons_zero, List.set_cons_succ, i64_w, i32_w]
                rfl
               refine pure_ (i := 11) (N := some 60) (v := ?_) (a' := ?_) #[true, true, false, true, false, false, true, false, false, false, true, true, false, false, false, false, false, false, false, false, false, false, false, false, false, false, false, false, false, false] rfl rfl (any_of HT_.out (by kernel_rfl)) (fun _ _ _ h => h) (Or.inl ⟨by rfl, ?_⟩) ?_ ?_
               rotate_left
               ·intro w'
                go_simp
                with_reducible rfl
               rotate_left
               ·simp only [Act.put, List.setIfInBounds_toArray, List.set_cons_zero, List.set_cons_succ, i64_w, i32_w]
                rfl
               refine pure_ (i := 12) (N := some 61) (v := ?_) (a' := ?_) #[true, true, false, true, false, false, true, false, false, false, true, true, true, false, false, false, false, false, false, false, false, false, false, false, false, false, false, false, false, false] rfl rfl (any_of HT_.out (by kernel_rfl)) (fun _ _ _ h => h) (Or.inl ⟨by rfl, ?_⟩) ?_ ?_
               rotate_left
               ·intro w'
                go_simp
                with_reducible rfl
               rotate_left
               ·simp only [Act.put, List.setIfInBounds_toArray, List.set_cons_zero, List.set_cons_succ, i64_w, i32_w]
                rfl
               refine pure_ (i := 13) (N := some 62) (v := ?_) (a' := ?_) #[true, true, false, true, false, false, true, false, false, false, true, true, true, true, false, false, false, false, false, false, false, false, false, false, false, false, false, false, false, false] rfl rfl (any_of HT_.out (by kernel_rfl)) (fun _ _ _ h => h) (Or.inl ⟨by rfl, ?_⟩) ?_ ?_
               rotate_left
               ·intro w'
                go_simp
                with_reducible rfl
               rotate_left
               ·simp only [Act.put, List.setIfInBounds_toArray, List.set_cons_zero, List.set_cons_succ, i64_w, i32_w]
                rfl
               refine pure_ (i := 14) (N := some 63) (v := ?_) (a' := ?_) #[true, true, false, true, false, false, true, false, false, false, true, true, true, true, true, false, false, false, false, false, false, false, false, false, false, false, false, false, false, false] rfl rfl (any_of HT_.out (by kernel_rfl)) (fun _ _ _ h => h) (Or.inl ⟨by rfl, ?_⟩) ?_ ?_
               rotate_left
               ·intro w'
                go_simp
                with_reducible rfl
               rotate_left
               ·simp only [Act.put, List.setIfInBounds_toArray, List.set_cons_zero, List.set_cons_succ, i64_w, i32_w]
                rfl
               refine pure_ (i := 15) (N := some 64) (v := ?_) (a' := ?_) #[true, true, false, true, false, false, true, false, false, false, true, true, true, true, true, true, false, false, false, false, false, false, false, false, false, false, false, false, false, false] rfl rfl (any_of HT_.out (by kernel_rfl)) (fun _ _ _ h => h) (Or.inl ⟨by rfl, ?_⟩) ?_ ?_
               rotate_left
               ·intro w'
                go_simp
                with_reducible rfl
               rotate_left
               ·simp only [Act.put, List.setIfInBounds_toArray, List.set_cons_zero, List.set_cons_succ, i64_w, i32_w]
                rfl
               refine pure_ (i := 16) (N := some 65) (v := ?_) (a' := ?_) #[true, true, false, true, false, false, true, false, false, false, true, true, true, true, true, true, true, false, false, false, false, false, false, false, false, false, false, false, false, false] rfl rfl (any_of HT_.out (by kernel_rfl)) (fun _ _ _ h => h) (Or.inl ⟨by rfl, ?_⟩) ?_ ?_
               rotate_left
               ·intro w'
                go_simp
                with_reducible rfl
               rotate_left
               ·simp only [Act.put, List.setIfInBounds_toArray, List.set_cons_zero, List.set_cons_succ, i64_w, i32_w]
                rfl
               refine pure_ (i := 17) (N := some 66) (v := ?_) (a' := ?_) #[true, true, false, true, false, false, true, false, false, false, true, true, true, true, true, true, true, true, false, false, false, false, false, false, false, false, false, false, false, false] rfl rfl (any_of HT_.out (by kernel_rfl)) (fun _ _ _ h => h) (Or.inl ⟨by rfl, ?_⟩) ?_ ?_
               rotate_left
               ·intro w'
                go_simp
                with_reducible rfl
               rotate_left
               ·simp only [Act.put, List.setIfInBounds_toArray, List.set_cons_zero, List.set_cons_succ, i64_w, i32_w]
                rfl
               refine pure_ (i := 19) (N := some 68) (v := ?_) (a' := ?_) #[true, true, false, true, false, false, true, false, false, false, true, true, true, true, true, true, true, true, false, true, false, false, false, false, false, false, false, false, false, false] rfl rfl (any_of HT_.out (by kernel_rfl)) (fun _ _ _ h => h) (Or.inl ⟨by rfl, ?_⟩) ?_ ?_
               rotate_left
               ·intro w'
                go_simp
                with_reducible rfl
               rotate_left
               ·simp only [Act.put, List.setIfInBounds_toArray, List.set_cons_zero, List.set_cons_succ, i64_w, i32_w]
                rfl
               refine pure_ (i := 20) (N := some 69) (v := ?_) (a' := ?_) #[true, true, false, true, false, false, true, false, false, false, true, true, true, true, true, true, true, true, false, true, true, false, false, false, false, false, false, false, false, false] rfl rfl (any_of HT_.out (by kernel_rfl)) (fun _ _ _ h => h) (Or.inl ⟨by rfl, ?_⟩) ?_ ?_
               rotate_left
               ·intro w'
                go_simp
                with_reducible rfl
               rotate_left
               ·simp only [Act.put, List.setIfInBounds_toArray, List.set_cons_zero, List.set_cons_succ, i64_w, i32_w]
                rfl
               refine pure_ (i := 21) (N := some 70) (v := ?_) (a' := ?_) #[true, true, false, true, false, false, true, false, false, false, true, true, true, true, true, true, true, true, false, true, true, true, false, false, false, false, false, false, false, false] rfl rfl (any_of HT_.out (by kernel_rfl)) (fun _ _ _ h => h) (Or.inl ⟨by rfl, ?_⟩) ?_ ?_
               rotate_left
               ·intro w'
                go_simp
                with_reducible rfl
               rotate_left
               ·simp only [Act.put, List.setIfInBounds_toArray, List.set_cons_zero, List.set_cons_succ, i64_w, i32_w]
                rfl
               refine pure_ (i := 24) (N := some 73) (v := ?_) (a' := ?_) #[true, true, false, true, false, false, true, false, false, false, true, true, true, true, true, true, true, true, false, true, true, true, false, false, true, false, false, false, false, false] rfl rfl (any_of HT_.out (by kernel_rfl)) (fun _ _ _ h => h) (Or.inl ⟨by rfl, ?_⟩) ?_ ?_
               rotate_left
               ·intro w'
                go_simp
                with_reducible rfl
               rotate_left
               ·simp only [Act.put, List.setIfInBounds_toArray, List.set_cons_zero, List.set_cons_succ, i64_w, i32_w]
                rfl
               refine pure_ (i := 25) (N := some 74) (v := ?_) (a' := ?_) #[true, true, false, true, false, false, true, false, false, false, true, true, true, true, true, true, true, true, false, true, true, true, false, false, true, true, false, false, false, false] rfl rfl (any_of HT_.out (by kernel_rfl)) (fun _ _ _ h => h) (Or.inl ⟨by rfl, ?_⟩) ?_ ?_
               rotate_left
               ·intro w'
                go_simp
                with_reducible rfl
               rotate_left
               ·simp only [Act.put, List.setIfInBounds_toArray, List.set_cons_zero, List.set_cons_succ, i64_w, i32_w]
                rfl
               refine pure_ (i := 26) (N := some 75) (v := ?_) (a' := ?_) #[true, true, false, true, false, false, true, false, false, false, true, true, true, true, true, true, true, true, false, true, true, true, false, false, true, true, true, false, false, false] rfl rfl (any_of HT_.out (by kernel_rfl)) (fun _ _ _ h => h) (Or.inl ⟨by rfl, ?_⟩) ?_ ?_
               rotate_left
               ·intro w'
                go_simp
                with_reducible rfl
               rotate_left
               ·simp only [Act.put, List.setIfInBounds_toArray, List.set_cons_zero, List.set_cons_succ, i64_w, i32_w]
                rfl
               refine take_ (i := 22) (N := some 71) (v := ?_) (a' := ?_) #[true, true, false, true, false, false, true, false, false, false, true, true, true, true, true, true, true, true, false, true, true, true, true, false, true, true, true, false, false, false] rfl rfl (take_ofW HT_.out HW_.out (by kernel_rfl)) (fun _ _ _ h => h) (Or.inl ⟨by rfl, ?_⟩) hHeld ?_ ?_
               rotate_left
               ·rintro w' ⟨s0, s1⟩
                go_simp
                with_reducible rfl
               rotate_left
               ·simp only [Act.put, List.setIfInBounds_toArray, List.set_cons_zero, List.set_cons_succ, i64_w, i32_w]
                rfl
               refine take_ (i := 27) (N := some 76) (v := ?_) (a' := ?_) #[true, true, false, true, false, false, true, false, false, false, true, true, true, true, true, true, true, true, false, true, true, true, true, false, true, true, true, true, false, false] rfl rfl (take_ofW HT_.out HW_.out (by kernel_rfl)) (fun _ _ _ h => h) (Or.inl ⟨by rfl, ?_⟩) hHeld ?_ ?_
               rotate_left
               ·rintro w' ⟨s0, s1⟩
                go_simp
                with_reducible rfl
               rotate_left
               ·simp only [Act.put, List.setIfInBounds_toArray, List.set_cons_zero, List.set_cons_succ, i64_w, i32_w]
                rfl
               refine one_ (i := 2) (N := some 51) #[true, true, true, true, false, false, true, false, false, false, true, true, true, true, true, true, true, true, false, true, true, true, true, false, true, true, true, true, false, false] rfl rfl (one_of HT_.out (by kernel_rfl)) (by decide) (fun K hK => ?_)
               refine goes_ Try.func72 (by kernel_rfl) rfl #[.int .i64 x11_1, .int .i64 6] (by rfl) rfl rfl (by (try simp only [List.map_toArray, List.map_cons, List.map_nil]); first | done | rfl | (simp only [List.length_drop, List.length_take]; rfl)) ?_
               with_reducible refine (spec_l1Turn.calls x11_1 6 t195 _ A13.out).mono ?_
               rintro e w' ⟨rfl, ⟨nd, rfl⟩⟩
               refine ⟨_, rfl, ?_⟩
               refine hK.out _ _ ⟨((HB.out.cell (World.block_lt_of_cell? w _ hw198_0)).trans hw198_0), ((HB.out.cell (World.block_lt_of_cell? w _ hw199_0)).trans hw199_0)⟩ (fun hHeld => ?_)
               clear hK K
               refine norm_ (a' := ?_) ?_ ?_
               rotate_left
               ·show Act.put _ (some 51) _ = _
                simp only [Act.put, List.setIfInBounds_toArray, List.set_cons_zero, List.set_cons_succ, i64_w, i32_w]
                rfl
               refine one_ (i := 4) (N := some 53) #[true, true, true, true, true, false, true, false, false, false, true, true, true, true, true, true, true, true, false, true, true, true, true, false, true, true, true, true, false, false] rfl rfl (one_of HT_.out (by kernel_rfl)) (by decide) (fun K hK => ?_)
               refine goes_ Try.func72 (by kernel_rfl) rfl #[.int .i64 x11_1, .int .i64 11] (by rfl) rfl rfl (by (try simp only [List.map_toArray, List.map_cons, List.map_nil]); first | done | rfl | (simp only [List.length_drop, List.length_take]; rfl)) ?_
               with_reducible refine (spec_l1Turn.calls x11_1 11 t196 _ A14.out).mono ?_
               rintro e w' ⟨rfl, ⟨nd, rfl⟩⟩
               refine ⟨_, rfl, ?_⟩
               refine hK.out _ _ ⟨((HB.out.cell (World.block_lt_of_cell? w _ hw198_0)).trans hw198_0), ((HB.out.cell (World.block_lt_of_cell? w _ hw199_0)).trans hw199_0)⟩ (fun hHeld => ?_)
               clear hK K
               refine norm_ (a' := ?_) ?_ ?_
               rotate_left
               ·show Act.put _ (some 53) _ = _
                simp only [Act.put, List.setIfInBounds_toArray, List.set_cons_zero, List.set_cons_succ, i64_w, i32_w]
                rfl
               refine pure_ (i := 5) (N := some 54) (v := ?_) (a' := ?_) #[true, true, true, true, true, true, true, false, false, false, true, true, true, true, true, true, true, true, false, true, true, true, true, false, true, true, true, true, false, false] rfl rfl (any_of HT_.out (by kernel_rfl)) (fun _ _ _ h => h) (Or.inl ⟨by rfl, ?_⟩) ?_ ?_
               rotate_left
               ·intro w'
                go_simp
                with_reducible rfl
               rotate_left
               ·simp only [Act.put, List.setIfInBounds_toArray, List.set_cons_zero, List.set_cons_succ, i64_w, i32_w]
                rfl
               refine one_ (i := 7) (N := some 56) #[true, true, true, true, true, true, true, true, false, false, true, true, true, true, true, true, true, true, false, true, true, true, true, false, true, true, true, true, false, false] rfl rfl (one_of HT_.out (by kernel_rfl)) (by decide) (fun K hK => ?_)
               refine goes_ Try.func72 (by kernel_rfl) rfl #[.int .i64 x11_1, .int .i64 25] (by rfl) rfl rfl (by (try simp only [List.map_toArray, List.map_cons, List.map_nil]); first | done | rfl | (simp only [List.length_drop, List.length_take]; rfl)) ?_
               with_reducible refine (spec_l1Turn.calls x11_1 25 t197 _ A15.out).mono ?_
               rintro e w' ⟨rfl, ⟨nd, rfl⟩⟩
               refine ⟨_, rfl, ?_⟩
               refine hK.out _ _ ⟨((HB.out.cell (World.block_lt_of_cell? w _ hw198_0)).trans hw198_0), ((HB.out.cell (World.block_lt_of_cell? w _ hw199_0)).trans hw199_0)⟩ (fun hHeld => ?_)
               clear hK K
               refine norm_ (a' := ?_) ?_ ?_
               rotate_left
               ·show Act.put _ (some 56) _ = _
                simp only [Act.put, List.setIfInBounds_toArray, List.set_cons_zero, List.set_cons_succ, i64_w, i32_w]
                rfl
               refine pure_ (i := 8) (N := some 57) (v := ?_) (a' := ?_) #[true, true, true, true, true, true, true, true, true, false, true, true, true, true, true, true, true, true, false, true, true, true, true, false, true, true, true, true, false, false] rfl rfl (any_of HT_.out (by kernel_rfl)) (fun _ _ _ h => h) (Or.inl ⟨by rfl, ?_⟩) ?_ ?_
               rotate_left
               ·intro w'
                go_simp
                with_reducible rfl
               rotate_left
               ·simp only [Act.put, List.setIfInBounds_toArray, List.set_cons_zero, List.set_cons_succ, i64_w, i32_w]
                rfl
               refine pure_ (i := 9) (N := some 58) (v := ?_) (a' := ?_) #[true, true, true, true, true, true, true, true, true, true, true, true, true, true, true, true, true, true, false, true, true, true, true, false, true, true, true, true, false, false] rfl rfl (any_of HT_.out (by kernel_rfl)) (fun _ _ _ h => h) (Or.inl ⟨by rfl, ?_⟩) ?_ ?_
               rotate_left
               ·intro w'
                go_simp
                with_reducible rfl
               rotate_left
               ·simp only [Act.put, List.setIfInBounds_toArray, List.set_cons_zero, List.set_cons_succ, i64_w, i32_w]
                rfl
               refine pure_ (i := 18) (N := some 67) (v := ?_) (a' := ?_) #[true, true, true, true, true, true, true, true, true, true, true, true, true, true, true, true, true, true, true, true, true, true, true, false, true, true, true, true, false, false] rfl rfl (any_of HT_.out (by kernel_rfl)) (fun _ _ _ h => h) (Or.inl ⟨by rfl, ?_⟩) ?_ ?_
               rotate_left
               ·intro w'
                go_simp
                with_reducible rfl
               rotate_left
               ·simp only [Act.put, List.setIfInBounds_toArray, List.set_cons_zero, List.set_cons_succ, i64_w, i32_w]
                rfl
               refine pure_ (i := 23) (N := some 72) (v := ?_) (a' := ?_) #[true, true, true, true, true, true, true, true, true, true, true, true, true, true, true, true, true, true, true, true, true, true, true, true, true, true, true, true, false, false] rfl rfl (any_of HT_.out (by kernel_rfl)) (fun _ _ _ h => h) (Or.inl ⟨by rfl, ?_⟩) ?_ ?_
               rotate_left
               ·intro w'
                go_simp
                with_reducible rfl
               rotate_left
               ·simp only [Act.put, List.setIfInBounds_toArray, List.set_cons_zero, List.set_cons_succ, i64_w, i32_w]
                rfl
               refine pure_ (i := 28) (N := some 77) (v := ?_) (a' := ?_) #[true, true, true, true, true, true, true, true, true, true, true, true, true, true, true, true, true, true, true, true, true, true, true, true, true, true, true, true, true, false] rfl rfl (any_of HT_.out (by kernel_rfl)) (fun _ _ _ h => h) (Or.inl ⟨by rfl, ?_⟩) ?_ ?_
               rotate_left
               ·intro w'
                go_simp
                with_reducible rfl
               rotate_left
               ·simp only [Act.put, List.setIfInBounds_toArray, List.set_cons_zero, List.set_cons_succ, i64_w, i32_w]
                rfl
               refine pure_ (i := 29) (N := some 16) (v := ?_) (a' := ?_) #[true, true, true, true, true, true, true, true, true, true, true, true, true, true, true, true, true, true, true, true, true, true, true, true, true, true, true, true, true, true] rfl rfl (any_of HT_.out (by kernel_rfl)) (fun _ _ _ h => h) (Or.inl ⟨by rfl, ?_⟩) ?_ ?_
               rotate_left
               ·intro w'
                go_simp
                with_reducible rfl
               rotate_left
               ·simp only [Act.put, List.setIfInBounds_toArray, List.set_cons_zero, List.set_cons_succ, i64_w, i32_w]
                rfl
               refine done_ (done_of HT_.out (by kernel_rfl)) ?_
               try go_wp2_with (first | ((with_reducible refine gate_callee (f := 72) rfl ?_); refine goesL_ (some 79) rfl rfl Try.func72 (by kernel_rfl) rfl #[.int .i64 x7_1, .int .i64 2] rfl (by (try simp only [List.map_toArray, List.map_cons, List.map_nil]); first | done | rfl | (simp only [List.length_drop, List.length_take]; rfl)) ?_; (with_reducible refine (spec_l1Turn.calls x7_1 2 t200 _ A19.out).mono ?_); rintro e w' ⟨rfl, ⟨nd, rfl⟩⟩; refine ⟨_, rfl, ?_⟩) | ((with_reducible refine gate_callee (f := 72) rfl ?_); refine goesL_ (some 81) rfl rfl Try.func72 (by kernel_rfl) rfl #[.int .i64 x7_1, .int .i64 13] rfl (by (try simp only [List.map_toArray, List.map_cons, List.map_nil]); first | done | rfl | (simp only [List.length_drop, List.length_take]; rfl)) ?_; (with_reducible refine (spec_l1Turn.calls x7_1 13 t201 _ A20.out).mono ?_); rintro e w' ⟨rfl, ⟨nd, rfl⟩⟩; refine ⟨_, rfl, ?_⟩) | ((with_reducible refine gate_callee (f := 72) rfl ?_); refine goesL_ (some 84) rfl rfl Try.func72 (by kernel_rfl) rfl #[.int .i64 x7_1, .int .i64 22] rfl (by (try simp only [List.map_toArray, List.map_cons, List.map_nil]); first | done | rfl | (simp only [List.length_drop, List.length_take]; rfl)) ?_; (with_reducible refine (spec_l1Turn.calls x7_1 22 t202 _ A21.out).mono ?_); rintro e w' ⟨rfl, ⟨nd, rfl⟩⟩; refine ⟨_, rfl, ?_⟩))
               go_roundg k1
               case measure => have := HK1.out; omega
               case rel => exact ⟨(Go.bits .and .i64 (wrap64 ((wrap64 ((wrap64 ((wrap64 ((wrap64 (x14_1 + (Go.bits .xor .i64 (Go.bits .xor .i64 t195 t196) t197))) + (Go.bits .xor .i64 (Go.bits .and .i64 x11_1 x12_1) (Go.bits .and .i64 (Go.bits .xor .i64 4294967295 x11_1) x13_1)))) + (rd l2 x15_1))) + (rd l1 x15_1))) + (wrap64 ((Go.bits .xor .i64 (Go.bits .xor .i64 t200 t201) t202) + (Go.bits .xor .i64 (Go.bits .xor .i64 (Go.bits .and .i64 x7_1 x8_1) (Go.bits .and .i64 x7_1 x9_1)) (Go.bits .and .i64 x8_1 x9_1)))))) 4294967295), (x7_1), (x8_1), (x9_1), (Go.bits .and .i64 (wrap64 (x10_1 + (wrap64 ((wrap64 ((wrap64 ((wrap64 (x14_1 + (Go.bits .xor .i64 (Go.bits .xor .i64 t195 t196) t197))) + (Go.bits .xor .i64 (Go.bits .and .i64 x11_1 x12_1) (Go.bits .and .i64 (Go.bits .xor .i64 4294967295 x11_1) x13_1)))) + (rd l2 x15_1))) + (rd l1 x15_1))))) 4294967295), (x11_1), (x12_1), (x13_1), (wrap64 (x15_1 + 1)), (by first | rfl | (simp; done) | (simp [*]; done)), (by first | rfl | (simp; done) | (simp [*]; done)), (by first | rfl | (simp; done) | (simp [*]; done)), (by first | rfl | (simp; done) | (simp [*]; done)), (by first | rfl | (simp; done) | (simp [*]; done)), (by first | rfl | (simp; done) | (simp [*]; done)), (by first | rfl | (simp; done) | (simp [*]; done)), (by first | rfl | (simp; done) | (simp [*]; done)), (by first | rfl | (simp; done) | (simp [*]; done)), H', ⟨by have := HK1.out; omega⟩, ⟨by repeat (first | (with_reducible first | exact HB.out | apply below_alloc | apply pw_below_drewN | apply below_drew1) | exact HB.out)⟩⟩
              ·rw [if_neg c18] at H
               exact absurd H (by simp)
             ·rw [if_neg c17] at H
              exact absurd H (by simp)
            ·rw [if_neg c16] at H
             exact absurd H (by simp)
           ·rw [if_neg c12] at H
            have c12b0 : decide (x15_1 < 64) = false := decide_eq_false c12
            clear c12
            obtain ⟨y203, hy203⟩ : ∃ y_ : List Int, y_ = (([x7_1, x8_1, x9_1, x10_1, x11_1, x12_1, x13_1, x14_1] : List Int)) := ⟨_, rfl⟩
            replace H : (if 8 ≤ 35184372088832 then (spec_l1Mix.l1 k1 l0 y203 (List.replicate 8 0) 0) else (none)) = some r := by first | (rw [hy203]; with_reducible exact H) | (have H2_ := (Option.bind_some _ _).symm.trans H; rw [hy203]; with_reducible exact H2_) | (have H2_ := (Option.bind_some _ _).symm.trans H; with_reducible exact H2_) | with_reducible exact H | (rw [hy203]; exact H) | exact H
            have Ny203 := Aside0.mk hy203
            clear hy203
            by_cases c23 : 8 ≤ 35184372088832
            ·rw [if_pos c23] at H
             have c23b0 := eq_true c23
             have c23b1 : decide (8 ≤ 35184372088832) = true := decide_eq_true c23
             clear c23
             obtain ⟨y206, hy206⟩ : ∃ y_ : List Int, y_ = (List.replicate 8 0) := ⟨_, rfl⟩
             replace H : (spec_l1Mix.l1 k1 l0 y203 y206 0) = some r := by first | (rw [hy206]; with_reducible exact H) | (have H2_ := (Option.bind_some _ _).symm.trans H; rw [hy206]; with_reducible exact H2_) | (have H2_ := (Option.bind_some _ _).symm.trans H; with_reducible exact H2_) | with_reducible exact H | (rw [hy206]; exact H) | exact H
             have Ny206 := Aside0.mk hy206
             clear hy206
             have H' := Aside0.mk H
             clear H
             go_wp2_with (first | ((with_reducible refine gate_dst (N := 120) rfl ?_); refine Kd.R_lit (Kd.int .i64) _ 3 ?hg (N := 120) ?hd (xs := ([x7_1, x8_1, x9_1, x10_1, x11_1, x12_1, x13_1, x14_1] : List Int)) (inner := [.int .i64 x7_1, .int .i64 x8_1, .int .i64 x9_1, .int .i64 x10_1, .int .i64 x11_1, .int .i64 x12_1, .int .i64 x13_1, .int .i64 x14_1]) (ok := fun _ => True) (okp := fun _ => True) ?hr ?hp (fun _ hk => hk) trivial (Below.refl _ _) (Nat.le_refl _) (by simp) ?_; (case hd => rfl); (case hg => rfl); (case hr => first | (go_simp; done) | (go_simp; rfl)); (case hp => exact (Reps.one (show Kd.M (Kd.int .i64) _ _ _ x7_1 [.int .i64 x7_1] from rfl) (Reps.one (show Kd.M (Kd.int .i64) _ _ _ x8_1 [.int .i64 x8_1] from rfl) (Reps.one (show Kd.M (Kd.int .i64) _ _ _ x9_1 [.int .i64 x9_1] from rfl) (Reps.one (show Kd.M (Kd.int .i64) _ _ _ x10_1 [.int .i64 x10_1] from rfl) (Reps.one (show Kd.M (Kd.int .i64) _ _ _ x11_1 [.int .i64 x11_1] from rfl) (Reps.one (show Kd.M (Kd.int .i64) _ _ _ x12_1 [.int .i64 x12_1] from rfl) (Reps.one (show Kd.M (Kd.int .i64) _ _ _ x13_1 [.int .i64 x13_1] from rfl) (Reps.one (show Kd.M (Kd.int .i64) _ _ _ x14_1 [.int .i64 x14_1] from rfl) (Reps.none _ _)))))))))); intro v204 w24 ho25 hb hg_ hnew_; clear hg_ hnew_; (first | rw [← Ny203.out] at ho25 | (simp only [Int.reduceToNat] at ho25; rw [← Ny203.out] at ho25)); have n0_ := Aside0.mk (Kd.R_lower ho25 (below_size (by repeat (first | (with_reducible first | exact HB.out | apply below_alloc | apply pw_below_drewN | apply below_drew1) | exact HB.out)))); have n1_ := Aside0.mk (below_step (by repeat (first | (with_reducible first | exact HB.out | apply below_alloc | apply pw_below_drewN | apply below_drew1) | exact HB.out)) hb); clear HB; have HO205 := n0_; have HB := n1_; clear n0_ n1_; clear hb ho25) | ((with_reducible refine gate_dst (N := 121) rfl ?_); refine Kd.R_make (Kd.int .i64) _ 3 rfl (N := 121) rfl 22 _ _ rfl 8 rfl rfl Try.underlying22 (.int .i64 0) 8 info3 rfl (by decide) (by omega) 0 (ok := fun _ => True) (okp := fun _ => True) rfl (fun _ hk => hk) trivial (by omega) (by omega) (Below.refl _ _) (Nat.le_refl _) ?_; intro v207 w26 ho27 hb hg_ hnew_; clear hg_ hnew_; (first | rw [← Ny206.out] at ho27 | (simp only [Int.reduceToNat] at ho27; rw [← Ny206.out] at ho27)); have n0_ := Aside0.mk (Kd.R_elder' (by (with_reducible repeat (first | apply Kd.R_alloc | apply Kd.R_drewN | apply Kd.R_drew)); exact HO205.out) (Kd.R_base ho27) hb); have n1_ := Aside0.mk (Kd.R_lower (Kd.R_new' ho27 (Kd.R_lt (by (with_reducible repeat (first | apply Kd.R_alloc | apply Kd.R_drewN | apply Kd.R_drew)); exact HO205.out))) (below_size (by repeat (first | (with_reducible first | exact HB.out | apply below_alloc | apply pw_below_drewN | apply below_drew1) | exact HB.out)))); have n2_ := Aside0.mk (below_step (by repeat (first | (with_reducible first | exact HB.out | apply below_alloc | apply pw_below_drewN | apply below_drew1) | exact HB.out)) hb); clear HO205; clear HB; have HO205 := n0_; have HO208 := n1_; have HB := n2_; clear n0_ n1_ n2_; clear hb ho27))
             go_loopg [20] k1 (fun kq v20 w' => ∃ (x19_2 : List Int) (x20_2 : Int), v20 = .int .i64 x20_2 ∧ Aside0 (spec_l1Mix.l1 kq l0 y203 x19_2 x20_2 = some r) ∧ Aside0 (kq ≤ k1) ∧ Aside0 (Kd.R (Kd.int .i64) 3 w' w.heap.size (fun k_ => some k_ ≠ (v207 : Value).ownBlock) v204 y203) ∧ Aside0 (Kd.R (Kd.int .i64) 3 w' w.heap.size (fun k_ => some k_ ≠ (v204 : Value).ownBlock) v207 x19_2) ∧ Aside0 (Below w.heap.size w w'))
             case atStart => exact ⟨(y206), (0), (by first | rfl | (simp; done) | (simp [*]; done)), H', ⟨Nat.le_refl _⟩, ⟨by (with_reducible repeat (first | apply Kd.R_alloc | apply Kd.R_drewN | apply Kd.R_drew)); exact Kd.R_mono HO205.out (fun _ hk => hk.2)⟩, ⟨by (with_reducible repeat (first | apply Kd.R_alloc | apply Kd.R_drewN | apply Kd.R_drew)); exact Kd.R_mono HO208.out (fun _ hk => hk.2)⟩, ⟨by repeat (first | (with_reducible first | exact HB.out | apply below_alloc | apply pw_below_drewN | apply below_drew1) | exact HB.out)⟩⟩
             case round =>
              clear H'
              try clear c1
              try clear p1
              try clear q1
              try clear hx1
              try clear qi1
              try clear c2
              try clear p2
              try clear c4
              try clear c4b0
              try clear c4b1
              try clear c5
              try clear c5b0
              try clear c5b1
              try clear c6
              try clear c6b0
              try clear c6b1
              try clear p6
              try clear c7
              try clear c7b0
              try clear c7b1
              try clear c8
              try clear c8b0
              try clear c8b1
              try clear c9
              try clear c9b0
              try clear c9b1
              try clear c10
              try clear c10b0
              try clear c10b1
              try clear c11
              try clear c11b0
              try clear c11b1
              try clear c12
              try clear c12b0
              try clear c16
              try clear c16b0
              try clear c17
              try clear c17b0
              try clear c18
              try clear c18b0
              try clear p18
              try clear q18
              try clear hx18
              try clear qi18
              try clear p19
              try clear q19
              try clear hx19
              try clear qi19
              try clear c23
              try clear c23b0
              try clear c23b1
              try clear hx187_0
              try clear hx188_0
              try clear hx189_0
              try clear hx190_0
              try clear hx191_0
              try clear hx192_0
              try clear hx193_0
              try clear hx194_0
              try clear hx198_0
              try clear hx199_0
              try clear p1
              try clear p187
              try clear p188
              try clear p189
              try clear p190
              try clear p191
              try clear p192
              try clear p193
              try clear p194
              try clear p198
              try clear p199
              try clear p2
              try clear q1
              try clear q187
              try clear q188
              try clear q189
              try clear q190
              try clear q191
              try clear q192
              try clear q193
              try clear q194
              try clear q198
              try clear q199
              obtain ⟨x19_2, x20_2, rfl, HA, HK2, HO_18, HO_19, HB⟩ := hrel
              cases gk with
              | zero => exact absurd HA.out (by simp [spec_l1Mix.l1])
              | succ k2 =>
               have H := HA.out
               clear HA
               simp only [spec_l1Mix.l1] at H
               by_cases c28 : x20_2 < 8
               ·rw [if_pos c28] at H
                have c28b0 : decide (x20_2 < 8) = true := decide_eq_true c28
                clear c28
                by_cases c29 : 0 ≤ x20_2
                ·rw [if_pos c29] at H
                 have c29b0 : decide (0 ≤ x20_2) = true := decide_eq_true c29
                 clear c29
                 by_cases c30 : x20_2 < (l0.length : Int)
                 ·rw [if_pos c30] at H
                  have c30b0 : decide (x20_2 < (l0.length : Int)) = true := decide_eq_true c30
                  clear c30
                  by_cases c31 : x20_2 < (y203.length : Int)
                  ·rw [if_pos c31] at H
                   have c31b0 : decide (x20_2 < (y203.length : Int)) = true := decide_eq_true c31
                   clear c31
                   by_cases c32 : x20_2 < (x19_2.length : Int)
                   ·rw [if_pos c32] at H
                    have c32b0 : decide (x20_2 < (x19_2.length : Int)) = true := decide_eq_true c32
                    clear c32
                    obtain ⟨y211, hy211⟩ : ∃ y_ : List Int, y_ = (x19_2.set (x20_2 : Int).toNat (Go.bits .and .i64 (wrap64 ((rd l0 x20_2) + (rd y203 x20_2))) 4294967295)) := ⟨_, rfl⟩
                    replace H : (spec_l1Mix.l1 k2 l0 y203 y211 (wrap64 (x20_2 + 1))) = some r := by first | (rw [hy211]; with_reducible exact H) | (have H2_ := (Option.bind_some _ _).symm.trans H; rw [hy211]; with_reducible exact H2_) | (have H2_ := (Option.bind_some _ _).symm.trans H; with_reducible exact H2_) | with_reducible exact H | (rw [hy211]; exact H) | exact H
                    have Ny211 := Aside0.mk hy211
                    clear hy211
                    have H' := Aside0.mk H
                    clear H
                    try go_wp2
                    have n0_ := Aside0.mk (Kd.R_drew HO_18.out)
                    have n1_ := Aside0.mk (Kd.R_drew HO_19.out)
                    have n2_ := Aside0.mk (below_drew1 HB.out)
                    clear HO_18
                    clear HO_19
                    clear HB
                    have HO_18 := n0_
                    have HO_19 := n1_
                    have HB := n2_
                    clear n0_ n1_ n2_
                    have p209 : 0 ≤ (x20_2 : Int) := of_decide_eq_true (by first | (with_reducible assumption) | assumption)
                    have q209 : x20_2 < (l0.length : Int) := of_decide_eq_true (by first | (with_reducible assumption) | assumption)
                    obtain ⟨ad209, e209, hx209_0⟩ := Kd.at_int HR0.out x20_2 p209 q209
                    have hw209_0 := hx209_0
                    obtain rfl : ad187 = ad209 := (by injection e209)
                    replace hx209_0 := (HB.out.cell (World.block_lt_of_cell? w _ hx209_0)).trans hx209_0
                    replace p209 := eq_true p209
                    replace q209 := eq_true q209
                    obtain ⟨Ao35, co35, eo35⟩ := Kd.R_slice HO_18.out
                    (first | subst eo35 | (injection eo35 with f1_ f2_ f3_; have f4_ := f1_.symm; have f5_ := f3_.symm; clear f1_ f2_ f3_; subst f4_; subst f5_))
                    have p210 : 0 ≤ (x20_2 : Int) := of_decide_eq_true (by first | (with_reducible assumption) | assumption)
                    have q210 : x20_2 < (y203.length : Int) := of_decide_eq_true (by first | (with_reducible assumption) | assumption)
                    obtain ⟨ad210, e210, hx210_0⟩ := Kd.at_int (Kd.R_reads' HO_18.out).2.2 x20_2 p210 q210
                    cases e210
                    replace p210 := eq_true p210
                    replace q210 := eq_true q210
                    have p33 : 0 ≤ (x20_2 : Int) := of_decide_eq_true (by first | (with_reducible assumption) | assumption)
                    have q33 : (x20_2 : Int) < ((x19_2.length : Int) : Int) := of_decide_eq_true (by first | (with_reducible assumption) | assumption)
                    obtain ⟨go33, co33, eo33, gb33, gl33, cl33, HG33⟩ := Kd.R_form HO_19.out (by omega)
                    (first | cases eo33 | (injection eo33 with ea_ en_ ec_; (first | subst ea_ | (injection ea_ with ea_; subst ea_)); subst ec_; clear en_))
                    have GB33 := Aside0.mk gb33
                    have GG33 := Aside0.mk HG33
                    clear gb33 gl33 HG33
                    obtain ⟨hx33_0, hf33_0⟩ := Kd.R_celln 0 HO_19.out (x20_2 : Int) p33 q33
                    replace p33 := eq_true p33
                    replace q33 := eq_true q33
                    have HP36 := Kd.R_putn HO_19.out (x20_2 : Int) (Go.bits .and .i64 (wrap64 ((rd l0 x20_2) + (rd y203 x20_2))) 4294967295)
                    rw [← Ny211.out] at HP36
                    have HQ36 := Aside0.mk HP36
                    clear HP36
                    refine start_ (n := 14) (S := fun w' => w'.cell? (ad187.add (x20_2).toNat) = some (.int .i64 (rd l0 x20_2)) ∧ w'.cell? (ad210.add (x20_2).toNat) = some (.int .i64 (rd y203 x20_2))) (ds := [13]) #[false, false, false, false, false, false, false, false, false, false, false, false, false, false] (by kernel_rfl) rfl rfl ⟨((HB.out.cell (World.block_lt_of_cell? w _ hw209_0)).trans hw209_0), hx210_0⟩ (fun hHeld => ?_); refine with_tabW spec_l1Mix.tab27 spec_l1Mix.bits27 (fun HT_ HW_ => ?_)
                    generalize wr.drew = w34 at HO_18 HO_19 HB GG33 HQ36 hf33_0 hx209_0 hx210_0 hx33_0 hHeld ⊢
                    refine pure_ (i := 0) (N := some 126) (v := ?_) (a' := ?_) #[true, false, false, false, false, false, false, false, false, false, false, false, false, false] rfl rfl (any_of HT_.out (by kernel_rfl)) (fun _ _ _ h => h) (Or.inl ⟨by rfl, ?_⟩) ?_ ?_
                    rotate_left
                    ·intro w'
                     go_simp
                     with_reducible rfl
                    rotate_left
                    ·simp only [Act.put, List.setIfInBounds_toArray, List.set_cons_zero, List.set_cons_succ, i64_w, i32_w]
                     rfl
                    refine pure_ (i := 1) (N := some 127) (v := ?_) (a' := ?_) #[true, true, false, false, false, false, false, false, false, false, false, false, false, false] rfl rfl (any_of HT_.out (by kernel_rfl)) (fun _ _ _ h => h) (Or.inl ⟨by rfl, ?_⟩) ?_ ?_
                    rotate_left
                    ·intro w'
                     go_simp
                     with_reducible rfl
                    rotate_left
                    ·simp only [Act.put, List.setIfInBounds_toArray, List.set_cons_zero, List.set_cons_succ, i64_w, i32_w]
                     rfl
                    refine pure_ (i := 2) (N := some 128) (v := ?_) (a' := ?_) #[true, true, true, false, false, false, false, false, false, false, false, false, false, false] rfl rfl (any_of HT_.out (by kernel_rfl)) (fun _ _ _ h => h) (Or.inl ⟨by rfl, ?_⟩) ?_ ?_
                    rotate_left
                    ·intro w'
                     go_simp
                     with_reducible rfl
                    rotate_left
                    ·simp only [Act.put, List.setIfInBounds_toArray, List.set_cons_zero, List.set_cons_succ, i64_w, i32_w]
                     rfl
                    refine pure_ (i := 3) (N := some 129) (v := ?_) (a' := ?_) #[true, true, true, true, false, false, false, false, false, false, false, false, false, false] rfl rfl (any_of HT_.out (by kernel_rfl)) (fun _ _ _ h => h) (Or.inl ⟨by rfl, ?_⟩) ?_ ?_
                    rotate_left
                    ·intro w'
                     go_simp
                     with_reducible rfl
                    rotate_left
                    ·simp only [Act.put, List.setIfInBounds_toArray, List.set_cons_zero, List.set_cons_succ, i64_w, i32_w]
                     rfl
                    refine pure_ (i := 4) (N := some 130) (v := ?_) (a' := ?_) #[true, true, true, true, true, false, false, false, false, false, false, false, false, false] rfl rfl (any_of HT_.out (by kernel_rfl)) (fun _ _ _ h => h) (Or.inl ⟨by rfl, ?_⟩) ?_ ?_
                    rotate_left
                    ·intro w'
                     go_simp
                     with_reducible rfl
                    rotate_left
                    ·simp only [Act.put, List.setIfInBounds_toArray, List.set_cons_zero, List.set_cons_succ, i64_w, i32_w]
                     rfl
                    refine pure_ (i := 6) (N := some 132) (v := ?_) (a' := ?_) #[true, true, true, true, true, false, true, false, false, false, false, false, false, false] rfl rfl (any_of HT_.out (by kernel_rfl)) (fun _ _ _ h => h) (Or.inl ⟨by rfl, ?_⟩) ?_ ?_
                    rotate_left
                    ·intro w'
                     go_simp
                     with_reducible rfl
                    rotate_left
                    ·simp only [Act.put, List.setIfInBounds_toArray, List.set_cons_zero, List.set_cons_succ, i64_w, i32_w]
                     rfl
                    refine pure_ (i := 7) (N := some 133) (v := ?_) (a' := ?_) #[true, true, true, true, true, false, true, true, false, false, false, false, false, false] rfl rfl (any_of HT_.out (by kernel_rfl)) (fun _ _ _ h => h) (Or.inl ⟨by rfl, ?_⟩) ?_ ?_
                    rotate_left
                    ·intro w'
                     go_simp
                     with_reducible rfl
                    rotate_left
                    ·simp only [Act.put, List.setIfInBounds_toArray, List.set_cons_zero, List.set_cons_succ, i64_w, i32_w]
                     rfl
                    refine pure_ (i := 8) (N := some 134) (v := ?_) (a' := ?_) #[true, true, true, true, true, false, true, true, true, false, false, false, false, false] rfl rfl (any_of HT_.out (by kernel_rfl)) (fun _ _ _ h => h) (Or.inl ⟨by rfl, ?_⟩) ?_ ?_
                    rotate_left
                    ·intro w'
                     go_simp
                     with_reducible rfl
                    rotate_left
                    ·simp only [Act.put, List.setIfInBounds_toArray, List.set_cons_zero, List.set_cons_succ, i64_w, i32_w]
                     rfl
                    refine take_ (i := 5) (N := some 131) (v := ?_) (a' := ?_) #[true, true, true, true, true, true, true, true, true, false, false, false, false, false] rfl rfl (take_ofW HT_.out HW_.out (by kernel_rfl)) (fun _ _ _ h => h) (Or.inl ⟨by rfl, ?_⟩) hHeld ?_ ?_
                    rotate_left
                    ·rintro w' ⟨s0, s1⟩
                     go_simp
                     with_reducible rfl
                    rotate_left
                    ·simp only [Act.put, List.setIfInBounds_toArray, List.set_cons_zero, List.set_cons_succ, i64_w, i32_w]
                     rfl
                    refine take_ (i := 9) (N := some 135) (v := ?_) (a' := ?_) #[true, true, true, true, true, true, true, true, true, true, false, false, false, false] rfl rfl (take_ofW HT_.out HW_.out (by kernel_rfl)) (fun _ _ _ h => h) (Or.inl ⟨by rfl, ?_⟩) hHeld ?_ ?_
                    rotate_left
                    ·rintro w' ⟨s0, s1⟩
                     go_simp
                     with_reducible rfl
                    rotate_left
                    ·simp only [Act.put, List.setIfInBounds_toArray, List.set_cons_zero, List.set_cons_succ, i64_w, i32_w]
                     rfl
                    refine pure_ (i := 10) (N := some 136) (v := ?_) (a' := ?_) #[true, true, true, true, true, true, true, true, true, true, true, false, false, false] rfl rfl (any_of HT_.out (by kernel_rfl)) (fun _ _ _ h => h) (Or.inl ⟨by rfl, ?_⟩) ?_ ?_
                    rotate_left
                    ·intro w'
                     go_simp
                     with_reducible rfl
                    rotate_left
                    ·simp only [Act.put, List.setIfInBounds_toArray, List.set_cons_zero, List.set_cons_succ, i64_w, i32_w]
                     rfl
                    refine pure_ (i := 11) (N := some 137) (v := ?_) (a' := ?_) #[true, true, true, true, true, true, true, true, true, true, true, true, false, false] rfl rfl (any_of HT_.out (by kernel_rfl)) (fun _ _ _ h => h) (Or.inl ⟨by rfl, ?_⟩) ?_ ?_
                    rotate_left
                    ·intro w'
                     go_simp
                     with_reducible rfl
                    rotate_left
                    ·simp only [Act.put, List.setIfInBounds_toArray, List.set_cons_zero, List.set_cons_succ, i64_w, i32_w]
                     rfl
                    refine pure_ (i := 12) (N := some 138) (v := ?_) (a' := ?_) #[true, true, true, true, true, true, true, true, true, true, true, true, true, false] rfl rfl (any_of HT_.out (by kernel_rfl)) (fun _ _ _ h => h) (Or.inl ⟨by rfl, ?_⟩) ?_ ?_
                    rotate_left
                    ·intro w'
                     go_simp
                     with_reducible rfl
                    rotate_left
                    ·simp only [Act.put, List.setIfInBounds_toArray, List.set_cons_zero, List.set_cons_succ, i64_w, i32_w]
                     rfl
                    refine last_ (i := 13) (N := none) #[true, true, true, true, true, true, true, true, true, true, true, true, true, true] rfl rfl (one_of HT_.out (by kernel_rfl)) (by decide) (fun K hK => ?_)
                    refine skip_ (w1 := ?_) (by rfl) rfl ?_ ?_
                    rotate_left
                    ·go_simp
                     rfl
                    refine hK.out _ _ ?_
                    clear hK K
                    refine done_ (done_of HT_.out (by kernel_rfl)) ?_
                    try go_wp2
                    go_roundg k2
                    case measure => have := HK1.out; have := HK2.out; omega
                    case rel => exact ⟨(y211), (wrap64 (x20_2 + 1)), (by first | rfl | (simp; done) | (simp [*]; done)), H', ⟨by have := HK1.out; have := HK2.out; omega⟩, ⟨by (with_reducible repeat (first | apply Kd.R_alloc | apply Kd.R_drewN | apply Kd.R_drew)); exact Kd.R_mono (Kd.R_far (p := ⟨go33, (x20_2 : Int).toNat, none⟩) (Kd.R_mono HO_18.out (fun k_ hk => (⟨hk, fun e_ => hk (by rw [e_]; rfl)⟩ : _ ∧ k_ ≠ go33))) (fun _ hk => hk.2) (.int .i64 (Go.bits .and .i64 (wrap64 ((rd l0 x20_2) + (rd y203 x20_2))) 4294967295))) (fun _ hk => hk.1)⟩, ⟨by (with_reducible repeat (first | apply Kd.R_alloc | apply Kd.R_drewN | apply Kd.R_drew)); exact HQ36.out⟩, ⟨by repeat (first | (with_reducible first | exact HB.out | apply below_alloc | apply pw_below_drewN | apply below_drew1 | refine below_set ?_ GB33.out) | exact HB.out)⟩⟩
                   ·rw [if_neg c32] at H
                    exact absurd H (by simp)
                  ·rw [if_neg c31] at H
                   exact absurd H (by simp)
                 ·rw [if_neg c30] at H
                  exact absurd H (by simp)
                ·rw [if_neg c29] at H
                 exact absurd H (by simp)
               ·rw [if_neg c28] at H
                have c28b0 : decide (x20_2 < 8) = false := decide_eq_false c28
                clear c28
                obtain rfl := Option.some.inj H
                go_wp2
                go_ret
                exact ⟨_, by first | rfl | (simp [errW_none, errW_some] <;> rfl) | (simp [*, errW_none, errW_some] <;> rfl), by (with_reducible repeat (first | apply Kd.R_alloc | apply Kd.R_drewN | apply Kd.R_drew)); exact Kd.R_mono HO_19.out (fun _ hk => trivial), by repeat (first | (with_reducible first | exact HB.out | apply below_alloc | apply pw_below_drewN | apply below_drew1) | exact HB.out)⟩
            ·rw [if_neg c23] at H
             exact absurd H (by simp)
        ·rw [if_neg c11] at H
         exact absurd H (by simp)
       ·rw [if_neg c10] at H
        exact absurd H (by simp)
      ·rw [if_neg c9] at H
       exact absurd H (by simp)
     ·rw [if_neg c8] at H
      exact absurd H (by simp)
    ·rw [if_neg c7] at H
     exact absurd H (by simp)
   ·rw [if_neg c6] at H
    exact absurd H (by simp)
  ·rw [if_neg c5] at H
   exact absurd H (by simp)
 ·rw [if_neg c4] at H
  exact absurd H (by simp)

end Go.Proofs.Ytipmgmiooanghaa.PFnFilterGet
