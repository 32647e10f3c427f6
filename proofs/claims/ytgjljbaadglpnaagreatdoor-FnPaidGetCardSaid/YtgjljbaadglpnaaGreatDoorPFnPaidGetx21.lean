/- Functions of the program and what each answers: the kit's print, shortened (wip/press2.py). -/
import Derived.Test.YtgjljbaadglpnaaGreatDoorPFnPaidGetx0
import Derived.Test.YtgjljbaadglpnaaGreatDoorPFnPaidGetx18
namespace Go.Proofs.YtgjljbaadglpnaaGreatDoor.PFnPaidGet
open Go.Proofs.YtgjljbaadglpnaaGreatDoor.Sq Go.RowKit Go.Proofs.YtgjljbaadglpnaaGreatDoorW.PrintWords Go.Proofs.YtgjljbaadglpnaaGreatDoorW.PrintLast Go.Proofs.YtgjljbaadglpnaaGreatDoorW.PrintMore
open Kd
set_option linter.unusedVariables false
set_option linter.unusedSimpArgs false
set_option maxHeartbeats 64000000
set_option maxRecDepth 100000
mutual
def spec_l1Mix.l0 : Nat → List Int → List Int → List Int → Int → Int → Int → Int → Int → Int → Int → Int → Int → Option (List Int)
 | 0, _, _, _, _, _, _, _, _, _, _, _, _ => none
 | k + 1, x0, x1, x2, x7, x8, x9, x10, x11, x12, x13, x14, x15 => if x15 < 64 then ((spec_l1Turn.f x11 6).bind fun t345 => ((spec_l1Turn.f x11 11).bind fun t346 => ((spec_l1Turn.f x11 25).bind fun t347 => (if 0 ≤ x15 then (if x15 < (x2.length : Int) then (if x15 < (x1.length : Int) then ((spec_l1Turn.f x7 2).bind fun t350 => ((spec_l1Turn.f x7 13).bind fun t351 => ((spec_l1Turn.f x7 22).bind fun t352 => (spec_l1Mix.l0 k x0 x1 x2 (Go.bits .and .i64 (wrap64 ((wrap64 ((wrap64 ((wrap64 ((wrap64 (x14 + (Go.bits .xor .i64 (Go.bits .xor .i64 t345 t346) t347))) + (Go.bits .xor .i64 (Go.bits .and .i64 x11 x12) (Go.bits .and .i64 (Go.bits .xor .i64 4294967295 x11) x13)))) + (rd x2 x15))) + (rd x1 x15))) + (wrap64 ((Go.bits .xor .i64 (Go.bits .xor .i64 t350 t351) t352) + (Go.bits .xor .i64 (Go.bits .xor .i64 (Go.bits .and .i64 x7 x8) (Go.bits .and .i64 x7 x9)) (Go.bits .and .i64 x8 x9)))))) 4294967295) x7 x8 x9 (Go.bits .and .i64 (wrap64 (x10 + (wrap64 ((wrap64 ((wrap64 ((wrap64 (x14 + (Go.bits .xor .i64 (Go.bits .xor .i64 t345 t346) t347))) + (Go.bits .xor .i64 (Go.bits .and .i64 x11 x12) (Go.bits .and .i64 (Go.bits .xor .i64 4294967295 x11) x13)))) + (rd x2 x15))) + (rd x1 x15))))) 4294967295) x11 x12 x13 (wrap64 (x15 + 1)))))) else (none)) else (none)) else (none))))) else (if 8 ≤ 35184372088832 then (spec_l1Mix.l1 k x0 (([x7, x8, x9, x10, x11, x12, x13, x14] : List Int)) (List.replicate 8 0) 0) else (none))
def spec_l1Mix.l1 : Nat → List Int → List Int → List Int → Int → Option (List Int)
 | 0, _, _, _, _ => none
 | k + 1, x0, x18, x19, x20 => if x20 < 8 then (if 0 ≤ x20 then (if x20 < (x0.length : Int) then (if x20 < (x18.length : Int) then (if x20 < (x19.length : Int) then (spec_l1Mix.l1 k x0 x18 (x19.set (x20 : Int).toNat (Go.bits .and .i64 (wrap64 ((rd x0 x20) + (rd x18 x20))) 4294967295)) (wrap64 (x20 + 1))) else (none)) else (none)) else (none)) else (none)) else (some x19)
end
def spec_l1Mix.f (k : Nat) (l0 : List Int) (l1 : List Int) (l2 : List Int) : Option (List Int) := if 0 < (l0.length : Int) then (if 1 < (l0.length : Int) then (if 2 < (l0.length : Int) then (if 3 < (l0.length : Int) then (if 4 < (l0.length : Int) then (if 5 < (l0.length : Int) then (if 6 < (l0.length : Int) then (if 7 < (l0.length : Int) then (spec_l1Mix.l0 k l0 l1 l2 (rd l0 0) (rd l0 1) (rd l0 2) (rd l0 3) (rd l0 4) (rd l0 5) (rd l0 6) (rd l0 7) 0) else (none)) else (none)) else (none)) else (none)) else (none)) else (none)) else (none)) else (none)
def spec_l1Mix.T12 : Bool × List (List Nat × List Nat) := (true, [([], []), ([], []), ([1], [1]), ([], []), ([3, 2], [3]), ([2, 4], [2, 4]), ([], []), ([6, 4], [6]), ([5, 7], [5, 7]), ([0, 8], [0, 8]), ([], []), ([], []), ([10, 11], [10, 11]), ([], []), ([13], [13]), ([], []), ([14, 15], [14, 15]), ([12, 16], [12, 16]), ([9, 17], [9, 17]), ([], []), ([], []), ([19, 20], [19, 20]), ([21], [21]), ([18, 22], [18, 22]), ([], []), ([], []), ([24, 25], [24, 25]), ([26], [26]), ([23, 27], [23, 27]), ([28, 7, 0, 1, 2, 3, 4, 5, 6, 7, 8, 9, 10, 11, 12, 13, 14, 15, 16, 17, 18, 19, 20, 21, 22, 23, 24, 25, 26, 27, 28], [28])])
def spec_l1Mix.B12 : List Nat := [0, 0, 2, 0, 14, 30, 0, 94, 254, 511, 0, 0, 3072, 0, 8192, 0, 57344, 130048, 262143, 0, 0, 1572864, 3670016, 8388607, 0, 0, 50331648, 117440512, 268435455, 536870911]
theorem spec_l1Mix.tab12 : rtab .any (opsOf Tryz.f97 12) = spec_l1Mix.T12 := by kernel_rfl
theorem spec_l1Mix.bits12 : waitsOk spec_l1Mix.T12.2 spec_l1Mix.B12 = true := by kernel_rfl
def spec_l1Mix.T27 : Bool × List (List Nat × List Nat) := (true, [([], []), ([], []), ([], []), ([], []), ([2, 3], [2, 3]), ([4], [4]), ([], []), ([], []), ([6, 7], [6, 7]), ([8], [8]), ([5, 9], [5, 9]), ([10], [10]), ([0, 1, 0, 1, 2, 3, 4, 5, 6, 7, 8, 9, 10, 11], [0, 1]), ([12, 11, 0, 1, 2, 3, 4, 5, 6, 7, 8, 9, 10, 11], [11, 12])])
def spec_l1Mix.B27 : List Nat := [0, 0, 0, 0, 12, 28, 0, 0, 192, 448, 1020, 2044, 4095, 8191]
theorem spec_l1Mix.tab27 : rtab .any (opsOf Tryz.f97 27) = spec_l1Mix.T27 := by kernel_rfl
theorem spec_l1Mix.bits27 : waitsOk spec_l1Mix.T27.2 spec_l1Mix.B27 = true := by kernel_rfl
theorem spec_l1Mix.calls (k : Nat) (A0 : Option Addr) (c0 : Nat) (l0 : List Int) (A1 : Option Addr) (c1 : Nat) (l1 : List Int) (A2 : Option Addr) (c2 : Nat) (l2 : List Int) (r : List Int) (w : World) (hr0 : Kd.C (Kd.int .i64) w A0 l0.length l0) (hc0 : l0.length ≤ c0) (hr1 : Kd.C (Kd.int .i64) w A1 l1.length l1) (hc1 : l1.length ≤ c1) (hr2 : Kd.C (Kd.int .i64) w A2 l2.length l2) (hc2 : l2.length ≤ c2) (h : spec_l1Mix.f k l0 l1 l2 = some r) :
  Calls Tryz.prog 97 #[.slice A0 l0.length c0, .slice A1 l1.length c1, .slice A2 l2.length c2] w fun e w' => ∃ v0_ : Value, e = .returned (v0_) ∧ Kd.R (Kd.int .i64) 3 w' w.heap.size (fun _ => True) v0_ r ∧ Below w.heap.size w w' := by
 have HR0 := am hr0
 have HC0 := am hc0
 clear hr0 hc0
 have HR1 := am hr1
 have HC1 := am hc1
 clear hr1 hc1
 have HR2 := am hr2
 have HC2 := am hc2
 clear hr2 hc2
 have HB := am (Below.refl w.heap.size w)
 have H : (if 0 < (l0.length : Int) then (if 1 < (l0.length : Int) then (if 2 < (l0.length : Int) then (if 3 < (l0.length : Int) then (if 4 < (l0.length : Int) then (if 5 < (l0.length : Int) then (if 6 < (l0.length : Int) then (if 7 < (l0.length : Int) then (spec_l1Mix.l0 k l0 l1 l2 (rd l0 0) (rd l0 1) (rd l0 2) (rd l0 3) (rd l0 4) (rd l0 5) (rd l0 6) (rd l0 7) 0) else (none)) else (none)) else (none)) else (none)) else (none)) else (none)) else (none)) else (none)) = some r := h
 clear h
 replace ⟨c4, H⟩ := ip H
 have c4b0 := dt c4
 have c4b1 : decide (0 < l0.length) = true := dt (by omega)
 clear c4
 replace ⟨c5, H⟩ := ip H
 have c5b0 := dt c5
 have c5b1 : decide (1 < l0.length) = true := dt (by omega)
 clear c5
 replace ⟨c6, H⟩ := ip H
 have c6b0 := dt c6
 have c6b1 : decide (2 < l0.length) = true := dt (by omega)
 clear c6
 replace ⟨c7, H⟩ := ip H
 have c7b0 := dt c7
 have c7b1 : decide (3 < l0.length) = true := dt (by omega)
 clear c7
 replace ⟨c8, H⟩ := ip H
 have c8b0 := dt c8
 have c8b1 : decide (4 < l0.length) = true := dt (by omega)
 clear c8
 replace ⟨c9, H⟩ := ip H
 have c9b0 := dt c9
 have c9b1 : decide (5 < l0.length) = true := dt (by omega)
 clear c9
 replace ⟨c10, H⟩ := ip H
 have c10b0 := dt c10
 have c10b1 : decide (6 < l0.length) = true := dt (by omega)
 clear c10
 replace ⟨c11, H⟩ := ip H
 have c11b0 := dt c11
 have c11b1 : decide (7 < l0.length) = true := dt (by omega)
 clear c11
 have H' := am H
 clear H
 have p337 : 0 ≤ (0 : Int) := (by omega)
 have q337 : 0 < (l0.length : Int) := oX
 obtain ⟨ad337, e337, hx337_0⟩ := at_int HR0.out 0 p337 q337
 cases e337
 have qi337 : (0 < l0.length) = True := eq_true (by omega)
 (try rw [show ((0 : Int)).toNat = 0 from rfl] at hx337_0)
 (try rw [Addr.add_zero'] at hx337_0)
 replace ⟨p337, q337⟩ := eT p337 q337
 have p338 : 0 ≤ (1 : Int) := (by omega)
 have q338 : 1 < (l0.length : Int) := oX
 obtain ⟨ad338, e338, hx338_0⟩ := at_int HR0.out 1 p338 q338
 obtain rfl : ad337 = ad338 := (by injection e338)
 (try simp only [show (1 : Int).toNat = 1 from rfl, Nat.reduceMul, Nat.reduceEqDiff, Go.Addr.add, ↓reduceIte] at hx338_0)
 have qi338 : (1 < l0.length) = True := eq_true (by omega)
 (try rw [show ((1 : Int)).toNat = 1 from rfl] at hx338_0)
 replace ⟨p338, q338⟩ := eT p338 q338
 have p339 : 0 ≤ (2 : Int) := (by omega)
 have q339 : 2 < (l0.length : Int) := oX
 obtain ⟨ad339, e339, hx339_0⟩ := at_int HR0.out 2 p339 q339
 obtain rfl : ad337 = ad339 := (by injection e339)
 (try simp only [show (2 : Int).toNat = 2 from rfl, Nat.reduceMul, Nat.reduceEqDiff, Go.Addr.add, ↓reduceIte] at hx339_0)
 have qi339 : (2 < l0.length) = True := eq_true (by omega)
 (try rw [show ((2 : Int)).toNat = 2 from rfl] at hx339_0)
 replace ⟨p339, q339⟩ := eT p339 q339
 have p340 : 0 ≤ (3 : Int) := (by omega)
 have q340 : 3 < (l0.length : Int) := oX
 obtain ⟨ad340, e340, hx340_0⟩ := at_int HR0.out 3 p340 q340
 obtain rfl : ad337 = ad340 := (by injection e340)
 (try simp only [show (3 : Int).toNat = 3 from rfl, Nat.reduceMul, Nat.reduceEqDiff, Go.Addr.add, ↓reduceIte] at hx340_0)
 have qi340 : (3 < l0.length) = True := eq_true (by omega)
 (try rw [show ((3 : Int)).toNat = 3 from rfl] at hx340_0)
 replace ⟨p340, q340⟩ := eT p340 q340
 have p341 : 0 ≤ (4 : Int) := (by omega)
 have q341 : 4 < (l0.length : Int) := oX
 obtain ⟨ad341, e341, hx341_0⟩ := at_int HR0.out 4 p341 q341
 obtain rfl : ad337 = ad341 := (by injection e341)
 (try simp only [show (4 : Int).toNat = 4 from rfl, Nat.reduceMul, Nat.reduceEqDiff, Go.Addr.add, ↓reduceIte] at hx341_0)
 have qi341 : (4 < l0.length) = True := eq_true (by omega)
 (try rw [show ((4 : Int)).toNat = 4 from rfl] at hx341_0)
 replace ⟨p341, q341⟩ := eT p341 q341
 have p342 : 0 ≤ (5 : Int) := (by omega)
 have q342 : 5 < (l0.length : Int) := oX
 obtain ⟨ad342, e342, hx342_0⟩ := at_int HR0.out 5 p342 q342
 obtain rfl : ad337 = ad342 := (by injection e342)
 (try simp only [show (5 : Int).toNat = 5 from rfl, Nat.reduceMul, Nat.reduceEqDiff, Go.Addr.add, ↓reduceIte] at hx342_0)
 have qi342 : (5 < l0.length) = True := eq_true (by omega)
 (try rw [show ((5 : Int)).toNat = 5 from rfl] at hx342_0)
 replace ⟨p342, q342⟩ := eT p342 q342
 have p343 : 0 ≤ (6 : Int) := (by omega)
 have q343 : 6 < (l0.length : Int) := oX
 obtain ⟨ad343, e343, hx343_0⟩ := at_int HR0.out 6 p343 q343
 obtain rfl : ad337 = ad343 := (by injection e343)
 (try simp only [show (6 : Int).toNat = 6 from rfl, Nat.reduceMul, Nat.reduceEqDiff, Go.Addr.add, ↓reduceIte] at hx343_0)
 have qi343 : (6 < l0.length) = True := eq_true (by omega)
 (try rw [show ((6 : Int)).toNat = 6 from rfl] at hx343_0)
 replace ⟨p343, q343⟩ := eT p343 q343
 have p344 : 0 ≤ (7 : Int) := (by omega)
 have q344 : 7 < (l0.length : Int) := oX
 obtain ⟨ad344, e344, hx344_0⟩ := at_int HR0.out 7 p344 q344
 obtain rfl : ad337 = ad344 := (by injection e344)
 (try simp only [show (7 : Int).toNat = 7 from rfl, Nat.reduceMul, Nat.reduceEqDiff, Go.Addr.add, ↓reduceIte] at hx344_0)
 have qi344 : (7 < l0.length) = True := eq_true (by omega)
 (try rw [show ((7 : Int)).toNat = 7 from rfl] at hx344_0)
 replace ⟨p344, q344⟩ := eT p344 q344
 go_enter Tryz.func97, Tryz.ntmps97
 go_wp2
 go_loopg [7, 8, 9, 10, 11, 12, 13, 14, 15] k (fun kq v7 v8 v9 v10 v11 v12 v13 v14 v15 w' => ∃ (x7_1 : Int) (x8_1 : Int) (x9_1 : Int) (x10_1 : Int) (x11_1 : Int) (x12_1 : Int) (x13_1 : Int) (x14_1 : Int) (x15_1 : Int), v7 = .int .i64 x7_1 ∧ v8 = .int .i64 x8_1 ∧ v9 = .int .i64 x9_1 ∧ v10 = .int .i64 x10_1 ∧ v11 = .int .i64 x11_1 ∧ v12 = .int .i64 x12_1 ∧ v13 = .int .i64 x13_1 ∧ v14 = .int .i64 x14_1 ∧ v15 = .int .i64 x15_1 ∧ Aside0 (spec_l1Mix.l0 kq l0 l1 l2 x7_1 x8_1 x9_1 x10_1 x11_1 x12_1 x13_1 x14_1 x15_1 = some r) ∧ Aside0 (kq ≤ k) ∧ Aside0 (Below w.heap.size w w'))
 case atStart => exact ⟨(rd l0 0), (rd l0 1), (rd l0 2), (rd l0 3), (rd l0 4), (rd l0 5), (rd l0 6), (rd l0 7), (0), xR, xR, xR, xR, xR, xR, xR, xR, xR, H', ⟨Nat.le_refl _⟩, ⟨bl HB⟩⟩
 case round =>
  clear H'
  try clear c4 c4b0 c4b1 c5 c5b0 c5b1 c6 c6b0 c6b1 c7 c7b0 c7b1 c8 c8b0 c8b1 c9 c9b0 c9b1 c10 c10b0 c10b1 c11 c11b0 c11b1 hx337_0 hx338_0 hx339_0 hx340_0 hx341_0 hx342_0 hx343_0 hx344_0 p337 p338 p339 p340 p341 p342 p343 p344 q337 q338 q339 q340 q341 q342 q343 q344
  obtain ⟨x7_1, x8_1, x9_1, x10_1, x11_1, x12_1, x13_1, x14_1, x15_1, rfl, rfl, rfl, rfl, rfl, rfl, rfl, rfl, rfl, HA, HK1, HB⟩ := hrel
  cases gk with
  | zero => exact absurd HA.out (by simp [spec_l1Mix.l0])
  | succ k1 =>
   have H := HA.out
   clear HA
   simp only [spec_l1Mix.l0] at H
   by_cases c12 : x15_1 < 64
   ·rw [if_pos c12] at H
    have c12b0 := dt c12
    clear c12
    replace ⟨t345, A13, H⟩ := oa H
    replace ⟨t346, A14, H⟩ := oa H
    replace ⟨t347, A15, H⟩ := oa H
    replace ⟨c16b0, H⟩ := ipd H
    replace ⟨c17b0, H⟩ := ipd H
    replace ⟨c18b0, H⟩ := ipd H
    replace ⟨t350, A19, H⟩ := oa H
    replace ⟨t351, A20, H⟩ := oa H
    replace ⟨t352, A21, H⟩ := oa H
    have H' := am H
    clear H
    try go_wp2
    replace HB := am (below_drew1 HB.out)
    have p348 : 0 ≤ (x15_1 : Int) := oX
    have q348 : x15_1 < (l2.length : Int) := oX
    obtain ⟨ad348, e348, hx348_0⟩ := at_int HR2.out x15_1 p348 q348
    have hw348_0 := hx348_0
    cases e348
    replace hx348_0 := hc HB hx348_0
    replace ⟨p348, q348⟩ := eT p348 q348
    have p349 : 0 ≤ (x15_1 : Int) := oX
    have q349 : x15_1 < (l1.length : Int) := oX
    obtain ⟨ad349, e349, hx349_0⟩ := at_int HR1.out x15_1 p349 q349
    have hw349_0 := hx349_0
    cases e349
    replace hx349_0 := hc HB hx349_0
    replace ⟨p349, q349⟩ := eT p349 q349
    refine start_ (n := 30) (S := fun w' => w'.cell? (ad348.add (x15_1).toNat) = some (.int .i64 (rd l2 x15_1)) ∧ w'.cell? (ad349.add (x15_1).toNat) = some (.int .i64 (rd l1 x15_1))) (ds := []) (bm 30 0) (by kernel_rfl) rfl rfl ⟨(hd HB hw348_0), (hd HB hw349_0)⟩ (fun hHeld => ?_); refine with_tabW spec_l1Mix.tab12 spec_l1Mix.bits12 (fun HT_ HW_ => ?_)
    generalize wr.drew = w22 at HB hx348_0 hx349_0 hHeld ⊢
    refine pA 0 49 (bm 30 1) HT_ ?_
    refine pA 1 50 (bm 30 3) HT_ ?_
    refine pA 3 52 (bm 30 11) HT_ ?_
    refine pA 6 55 (bm 30 75) HT_ ?_
    refine pA 10 59 (bm 30 1099) HT_ ?_
    refine pA 11 60 (bm 30 3147) HT_ ?_
    refine pA 12 61 (bm 30 7243) HT_ ?_
    refine pA 13 62 (bm 30 15435) HT_ ?_
    refine pA 14 63 (bm 30 31819) HT_ ?_
    refine pA 15 64 (bm 30 64587) HT_ ?_
    refine pA 16 65 (bm 30 130123) HT_ ?_
    refine pA 17 66 (bm 30 261195) HT_ ?_
    refine pA 19 68 (bm 30 785483) HT_ ?_
    refine pA 20 69 (bm 30 1834059) HT_ ?_
    refine pA 21 70 (bm 30 3931211) HT_ ?_
    refine pA 24 73 (bm 30 20708427) HT_ ?_
    refine pA 25 74 (bm 30 54262859) HT_ ?_
    refine pA 26 75 (bm 30 121371723) HT_ ?_
    refine tA 22 71 (bm 30 125566027) HT_ HW_ hHeld ?_
    refine tA 27 76 (bm 30 259783755) HT_ HW_ hHeld ?_
    refine oA 2 (some 51) (bm 30 259783759) HT_ fun K hK => ?_
    refine gA Tryz.func111 #[.int .i64 x11_1, .int .i64 6] ?_
    with_reducible refine (spec_l1Turn.calls x11_1 6 t345 _ A13.out).mono ?_
    rintro e w' ⟨rfl, ⟨nd, rfl⟩⟩
    refine ⟨_, rfl, ?_⟩
    refine hK.out _ _ ⟨(hd HB hw348_0), (hd HB hw349_0)⟩ (fun hHeld => ?_)
    clear hK K
    refine nA (some 51) ?_
    refine oA 4 (some 53) (bm 30 259783775) HT_ fun K hK => ?_
    refine gA Tryz.func111 #[.int .i64 x11_1, .int .i64 11] ?_
    with_reducible refine (spec_l1Turn.calls x11_1 11 t346 _ A14.out).mono ?_
    rintro e w' ⟨rfl, ⟨nd, rfl⟩⟩
    refine ⟨_, rfl, ?_⟩
    refine hK.out _ _ ⟨(hd HB hw348_0), (hd HB hw349_0)⟩ (fun hHeld => ?_)
    clear hK K
    refine nA (some 53) ?_
    refine pA 5 54 (bm 30 259783807) HT_ ?_
    refine oA 7 (some 56) (bm 30 259783935) HT_ fun K hK => ?_
    refine gA Tryz.func111 #[.int .i64 x11_1, .int .i64 25] ?_
    with_reducible refine (spec_l1Turn.calls x11_1 25 t347 _ A15.out).mono ?_
    rintro e w' ⟨rfl, ⟨nd, rfl⟩⟩
    refine ⟨_, rfl, ?_⟩
    refine hK.out _ _ ⟨(hd HB hw348_0), (hd HB hw349_0)⟩ (fun hHeld => ?_)
    clear hK K
    refine nA (some 56) ?_
    refine pA 8 57 (bm 30 259784191) HT_ ?_
    refine pA 9 58 (bm 30 259784703) HT_ ?_
    refine pA 18 67 (bm 30 260046847) HT_ ?_
    refine pA 23 72 (bm 30 268435455) HT_ ?_
    refine pA 28 77 (bm 30 536870911) HT_ ?_
    refine pA 29 16 (bm 30 1073741823) HT_ ?_
    refine done_ (done_of HT_.out (by kernel_rfl)) ?_
    try go_wp2_with ((with_reducible refine gg ?_); first | (refine gL 79 Tryz.func111 #[.int .i64 x7_1, .int .i64 2] ?_; (with_reducible refine (spec_l1Turn.calls x7_1 2 t350 _ A19.out).mono ?_); rintro e w' ⟨rfl, ⟨nd, rfl⟩⟩; refine ⟨_, rfl, ?_⟩) | (refine gL 81 Tryz.func111 #[.int .i64 x7_1, .int .i64 13] ?_; (with_reducible refine (spec_l1Turn.calls x7_1 13 t351 _ A20.out).mono ?_); rintro e w' ⟨rfl, ⟨nd, rfl⟩⟩; refine ⟨_, rfl, ?_⟩) | (refine gL 84 Tryz.func111 #[.int .i64 x7_1, .int .i64 22] ?_; (with_reducible refine (spec_l1Turn.calls x7_1 22 t352 _ A21.out).mono ?_); rintro e w' ⟨rfl, ⟨nd, rfl⟩⟩; refine ⟨_, rfl, ?_⟩))
    go_roundg k1
    case measure => have := HK1.out; omega
    case rel => exact ⟨(Go.bits .and .i64 (wrap64 ((wrap64 ((wrap64 ((wrap64 ((wrap64 (x14_1 + (Go.bits .xor .i64 (Go.bits .xor .i64 t345 t346) t347))) + (Go.bits .xor .i64 (Go.bits .and .i64 x11_1 x12_1) (Go.bits .and .i64 (Go.bits .xor .i64 4294967295 x11_1) x13_1)))) + (rd l2 x15_1))) + (rd l1 x15_1))) + (wrap64 ((Go.bits .xor .i64 (Go.bits .xor .i64 t350 t351) t352) + (Go.bits .xor .i64 (Go.bits .xor .i64 (Go.bits .and .i64 x7_1 x8_1) (Go.bits .and .i64 x7_1 x9_1)) (Go.bits .and .i64 x8_1 x9_1)))))) 4294967295), (x7_1), (x8_1), (x9_1), (Go.bits .and .i64 (wrap64 (x10_1 + (wrap64 ((wrap64 ((wrap64 ((wrap64 (x14_1 + (Go.bits .xor .i64 (Go.bits .xor .i64 t345 t346) t347))) + (Go.bits .xor .i64 (Go.bits .and .i64 x11_1 x12_1) (Go.bits .and .i64 (Go.bits .xor .i64 4294967295 x11_1) x13_1)))) + (rd l2 x15_1))) + (rd l1 x15_1))))) 4294967295), (x11_1), (x12_1), (x13_1), (wrap64 (x15_1 + 1)), xR, xR, xR, xR, xR, xR, xR, xR, xR, H', ⟨xL HK1⟩, ⟨bl HB⟩⟩
   rw [if_neg c12] at H
   have c12b0 := df c12
   clear c12
   obtain ⟨y353, Ny353⟩ := yA (([x7_1, x8_1, x9_1, x10_1, x11_1, x12_1, x13_1, x14_1] : List Int) : List Int)
   rw [← Ny353.out] at H
   replace ⟨c23, H⟩ := ip H
   have c23b0 := eq_true c23
   have c23b1 := dt c23
   clear c23
   obtain ⟨y356, Ny356⟩ := yA (List.replicate 8 0 : List Int)
   rw [← Ny356.out] at H
   have H' := am H
   clear H
   go_wp2_with (first | ((with_reducible refine gate_dst (N := 120) rfl ?_); refine R_lit (Kd.int .i64) _ 3 ?hg (N := 120) ?hd (xs := ([x7_1, x8_1, x9_1, x10_1, x11_1, x12_1, x13_1, x14_1] : List Int)) (inner := [.int .i64 x7_1, .int .i64 x8_1, .int .i64 x9_1, .int .i64 x10_1, .int .i64 x11_1, .int .i64 x12_1, .int .i64 x13_1, .int .i64 x14_1]) (ok := fun _ => True) (okp := fun _ => True) ?hr ?hp (fun _ hk => hk) trivial (Below.refl _ _) (Nat.le_refl _) (by simp) ?_; (case hd => rfl); (case hg => rfl); (case hr => first | (go_simp; done) | (go_simp; rfl)); (case hp => exact xP); intro v354 w24 ho25 hb hg_ hnew_; clear hg_ hnew_; (first | rw [← Ny353.out] at ho25 | (simp only [Int.reduceToNat] at ho25; rw [← Ny353.out] at ho25)); have HO355 := am (R_lower ho25 (below_size (bl HB))); replace HB := kH HB hb; clear hb ho25) | ((with_reducible refine gate_dst (N := 121) rfl ?_); refine R_make (Kd.int .i64) _ 3 rfl (N := 121) rfl 45 _ _ rfl 8 rfl rfl Tryz.underlying45 (.int .i64 0) 8 info3 rfl (by decide) (by omega) 0 (ok := fun _ => True) (okp := fun _ => True) rfl (fun _ hk => hk) trivial (by omega) (by omega) (Below.refl _ _) (Nat.le_refl _) ?_; intro v357 w26 ho27 hb hg_ hnew_; clear hg_ hnew_; (first | rw [← Ny356.out] at ho27 | (simp only [Int.reduceToNat] at ho27; rw [← Ny356.out] at ho27)); have HO358 := am (R_lower (R_new' ho27 (R_lt (ra HO355))) (below_size (bl HB))); replace HO355 := am (R_elder' (ra HO355) (R_base ho27) hb); replace HB := kH HB hb; clear hb ho27))
   go_loopg [20] k1 (fun kq v20 w' => ∃ (x19_2 : List Int) (x20_2 : Int), v20 = .int .i64 x20_2 ∧ Aside0 (spec_l1Mix.l1 kq l0 y353 x19_2 x20_2 = some r) ∧ Aside0 (kq ≤ k1) ∧ Aside0 (Kd.R (Kd.int .i64) 3 w' w.heap.size (fun k_ => some k_ ≠ (v357 : Value).ownBlock) v354 y353) ∧ Aside0 (Kd.R (Kd.int .i64) 3 w' w.heap.size (fun k_ => some k_ ≠ (v354 : Value).ownBlock) v357 x19_2) ∧ Aside0 (Below w.heap.size w w'))
   case atStart => exact ⟨(y356), (0), xR, H', ⟨Nat.le_refl _⟩, ⟨rM HO355 h2⟩, ⟨rM HO358 h2⟩, ⟨bl HB⟩⟩
   case round =>
    clear H'
    try clear c4 c4b0 c4b1 c5 c5b0 c5b1 c6 c6b0 c6b1 c7 c7b0 c7b1 c8 c8b0 c8b1 c9 c9b0 c9b1 c10 c10b0 c10b1 c11 c11b0 c11b1 c12 c12b0 c23 c23b0 c23b1 hx337_0 hx338_0 hx339_0 hx340_0 hx341_0 hx342_0 hx343_0 hx344_0 p337 p338 p339 p340 p341 p342 p343 p344 q337 q338 q339 q340 q341 q342 q343 q344
    obtain ⟨x19_2, x20_2, rfl, HA, HK2, HO_18, HO_19, HB⟩ := hrel
    cases gk with
    | zero => exact absurd HA.out (by simp [spec_l1Mix.l1])
    | succ k2 =>
     have H := HA.out
     clear HA
     simp only [spec_l1Mix.l1] at H
     by_cases c28 : x20_2 < 8
     rotate_left
     ·rw [if_neg c28] at H
      have c28b0 := df c28
      clear c28
      obtain rfl := oI H
      go_wp2
      go_ret
      exact ⟨_, xE, rM HO_19 (fun _ hk => trivial), bl HB⟩
     rw [if_pos c28] at H
     have c28b0 := dt c28
     clear c28
     replace ⟨c29b0, H⟩ := ipd H
     replace ⟨c30b0, H⟩ := ipd H
     replace ⟨c31b0, H⟩ := ipd H
     replace ⟨c32b0, H⟩ := ipd H
     obtain ⟨y361, Ny361⟩ := yA (x19_2.set (x20_2 : Int).toNat (Go.bits .and .i64 (wrap64 ((rd l0 x20_2) + (rd y353 x20_2))) 4294967295) : List Int)
     first | rw [← Ny361.out] at H | (replace H := bh H; rw [← Ny361.out] at H)
     have H' := am H
     clear H
     try go_wp2
     replace HO_18 := am (R_drew HO_18.out)
     replace HO_19 := am (R_drew HO_19.out)
     replace HB := am (below_drew1 HB.out)
     have p359 : 0 ≤ (x20_2 : Int) := oX
     have q359 : x20_2 < (l0.length : Int) := oX
     obtain ⟨ad359, e359, hx359_0⟩ := at_int HR0.out x20_2 p359 q359
     have hw359_0 := hx359_0
     obtain rfl : ad337 = ad359 := (by injection e359)
     replace hx359_0 := hc HB hx359_0
     replace ⟨p359, q359⟩ := eT p359 q359
     obtain ⟨Ao35, co35, eo35⟩ := R_slice HO_18.out
     (first | subst eo35 | (obtain ⟨f4_, f5_⟩ := eS eo35; subst f4_ f5_))
     have p360 : 0 ≤ (x20_2 : Int) := oX
     have q360 : x20_2 < (y353.length : Int) := oX
     obtain ⟨ad360, e360, hx360_0⟩ := at_int (R_reads' HO_18.out).2.2 x20_2 p360 q360
     cases e360
     replace ⟨p360, q360⟩ := eT p360 q360
     have p33 : 0 ≤ (x20_2 : Int) := oX
     have q33 : (x20_2 : Int) < ((x19_2.length : Int) : Int) := oX
     obtain ⟨go33, co33, eo33, gb33, gl33, cl33, HG33⟩ := R_form HO_19.out (by omega)
     (first | cases eo33 | (injection eo33 with ea_ en_ ec_; (first | subst ea_ | (injection ea_ with ea_; subst ea_)); subst ec_; clear en_))
     have GB33 := am gb33
     have GG33 := am HG33
     clear gb33 gl33 HG33
     obtain ⟨hx33_0, hf33_0⟩ := R_celln 0 HO_19.out (x20_2 : Int) p33 q33
     replace ⟨p33, q33⟩ := eT p33 q33
     have HP36 := R_putn HO_19.out (x20_2 : Int) (Go.bits .and .i64 (wrap64 ((rd l0 x20_2) + (rd y353 x20_2))) 4294967295)
     rw [← Ny361.out] at HP36
     have HQ36 := am HP36
     clear HP36
     refine start_ (n := 14) (S := fun w' => w'.cell? (ad337.add (x20_2).toNat) = some (.int .i64 (rd l0 x20_2)) ∧ w'.cell? (ad360.add (x20_2).toNat) = some (.int .i64 (rd y353 x20_2))) (ds := [13]) (bm 14 0) (by kernel_rfl) rfl rfl ⟨(hd HB hw359_0), hx360_0⟩ (fun hHeld => ?_); refine with_tabW spec_l1Mix.tab27 spec_l1Mix.bits27 (fun HT_ HW_ => ?_)
     generalize wr.drew = w34 at HO_18 HO_19 HB GG33 HQ36 hf33_0 hx33_0 hx359_0 hx360_0 hHeld ⊢
     refine pA 0 126 (bm 14 1) HT_ ?_
     refine pA 1 127 (bm 14 3) HT_ ?_
     refine pA 2 128 (bm 14 7) HT_ ?_
     refine pA 3 129 (bm 14 15) HT_ ?_
     refine pA 4 130 (bm 14 31) HT_ ?_
     refine pA 6 132 (bm 14 95) HT_ ?_
     refine pA 7 133 (bm 14 223) HT_ ?_
     refine pA 8 134 (bm 14 479) HT_ ?_
     refine tA 5 131 (bm 14 511) HT_ HW_ hHeld ?_
     refine tA 9 135 (bm 14 1023) HT_ HW_ hHeld ?_
     refine pA 10 136 (bm 14 2047) HT_ ?_
     refine pA 11 137 (bm 14 4095) HT_ ?_
     refine pA 12 138 (bm 14 8191) HT_ ?_
     refine last_ (i := 13) (N := none) (bm 14 16383) rfl rfl (one_of HT_.out (by kernel_rfl)) (by decide) (fun K hK => ?_)
     refine skip_ (w1 := ?_) (by rfl) rfl ?_ ?_
     rotate_left
     ·go_simp
      rfl
     refine hK.out _ _ ?_
     clear hK K
     refine done_ (done_of HT_.out (by kernel_rfl)) ?_
     try go_wp2
     go_roundg k2
     case measure => have := HK1.out; have := HK2.out; omega
     case rel => exact ⟨(y361), (wrap64 (x20_2 + 1)), xR, H', ⟨by have := HK1.out; have := HK2.out; omega⟩, ⟨by (with_reducible repeat (first | apply R_alloc | apply R_drewN | apply R_drew)); exact R_mono (R_far (p := ⟨go33, (x20_2 : Int).toNat, none⟩) (R_mono HO_18.out (fun k_ hk => (⟨hk, fun e_ => hk (by rw [e_]; rfl)⟩ : _ ∧ k_ ≠ go33))) h2 (.int .i64 (Go.bits .and .i64 (wrap64 ((rd l0 x20_2) + (rd y353 x20_2))) 4294967295))) (fun _ hk => hk.1)⟩, ⟨by (with_reducible repeat (first | apply R_alloc | apply R_drewN | apply R_drew)); exact HQ36.out⟩, ⟨xB HB⟩⟩
open Kd
set_option linter.unusedVariables false
set_option linter.unusedSimpArgs false
set_option maxHeartbeats 64000000
set_option maxRecDepth 100000
mutual
def spec_l1Words.l0 : Nat → List Int → List Int → Int → Option (List Int)
 | 0, _, _, _ => none
 | k + 1, x0, x3, x4 => if x4 < 16 then (if 0 ≤ (wrap64 (4 * x4)) then (if (wrap64 (4 * x4)) < (x0.length : Int) then (if 0 ≤ (wrap64 ((wrap64 (4 * x4)) + 1)) then (if (wrap64 ((wrap64 (4 * x4)) + 1)) < (x0.length : Int) then (if 0 ≤ (wrap64 ((wrap64 (4 * x4)) + 2)) then (if (wrap64 ((wrap64 (4 * x4)) + 2)) < (x0.length : Int) then (if 0 ≤ (wrap64 ((wrap64 (4 * x4)) + 3)) then (if (wrap64 ((wrap64 (4 * x4)) + 3)) < (x0.length : Int) then (if 0 ≤ x4 then (if x4 < (x3.length : Int) then (spec_l1Words.l0 k x0 (x3.set (x4 : Int).toNat (Go.bits .or .i64 (Go.bits .or .i64 (Go.bits .or .i64 (wrap64 ((rd x0 (wrap64 (4 * x4))) * 16777216)) (wrap64 ((rd x0 (wrap64 ((wrap64 (4 * x4)) + 1))) * 65536))) (wrap64 ((rd x0 (wrap64 ((wrap64 (4 * x4)) + 2))) * 256))) (rd x0 (wrap64 ((wrap64 (4 * x4)) + 3))))) (wrap64 (x4 + 1))) else (none)) else (none)) else (none)) else (none)) else (none)) else (none)) else (none)) else (none)) else (none)) else (none)) else (spec_l1Words.l1 k x3 16)
def spec_l1Words.l1 : Nat → List Int → Int → Option (List Int)
 | 0, _, _ => none
 | k + 1, x3, x5 => if x5 < 64 then (if 0 ≤ (wrap64 (x5 - 15)) then (if (wrap64 (x5 - 15)) < (x3.length : Int) then (if 0 ≤ (wrap64 (x5 - 2)) then (if (wrap64 (x5 - 2)) < (x3.length : Int) then ((spec_l1Turn.f (rd x3 (wrap64 (x5 - 15))) 7).bind fun t372 => ((spec_l1Turn.f (rd x3 (wrap64 (x5 - 15))) 18).bind fun t373 => ((spec_l1Turn.f (rd x3 (wrap64 (x5 - 2))) 17).bind fun t374 => ((spec_l1Turn.f (rd x3 (wrap64 (x5 - 2))) 19).bind fun t375 => (if 0 ≤ (wrap64 (x5 - 16)) then (if (wrap64 (x5 - 16)) < (x3.length : Int) then (if 0 ≤ (wrap64 (x5 - 7)) then (if (wrap64 (x5 - 7)) < (x3.length : Int) then (if 0 ≤ x5 then (if x5 < (x3.length : Int) then (spec_l1Words.l1 k (x3.set (x5 : Int).toNat (Go.bits .and .i64 (wrap64 ((wrap64 ((wrap64 ((rd x3 (wrap64 (x5 - 16))) + (Go.bits .xor .i64 (Go.bits .xor .i64 t372 t373) ((rd x3 (wrap64 (x5 - 15))) / 8)))) + (rd x3 (wrap64 (x5 - 7))))) + (Go.bits .xor .i64 (Go.bits .xor .i64 t374 t375) ((rd x3 (wrap64 (x5 - 2))) / 1024)))) 4294967295)) (wrap64 (x5 + 1))) else (none)) else (none)) else (none)) else (none)) else (none)) else (none)))))) else (none)) else (none)) else (none)) else (none)) else (some x3)
end
def spec_l1Words.f (k : Nat) (l0 : List Int) : Option (List Int) := if 64 ≤ 35184372088832 then (spec_l1Words.l0 k l0 (List.replicate 64 0) 0) else (none)
def spec_l1Words.T5 : Bool × List (List Nat × List Nat) := (true, [([], []), ([], []), ([], []), ([], []), ([3], [3]), ([2, 4], [2, 4]), ([5], [5]), ([6], [6]), ([], []), ([], []), ([9], [9]), ([10], [10]), ([8, 11], [8, 11]), ([12], [12]), ([13], [13]), ([7, 14], [7, 14]), ([], []), ([], []), ([17], [17]), ([18], [18]), ([16, 19], [16, 19]), ([20], [20]), ([21], [21]), ([15, 22], [15, 22]), ([], []), ([], []), ([25], [25]), ([26], [26]), ([24, 27], [24, 27]), ([28], [28]), ([23, 29], [23, 29]), ([0, 1, 0, 1, 2, 3, 4, 5, 6, 7, 8, 9, 10, 11, 12, 13, 14, 15, 16, 17, 18, 19, 20, 21, 22, 23, 24, 25, 26, 27, 28, 29, 30], [0, 1]), ([31, 30, 0, 1, 2, 3, 4, 5, 6, 7, 8, 9, 10, 11, 12, 13, 14, 15, 16, 17, 18, 19, 20, 21, 22, 23, 24, 25, 26, 27, 28, 29, 30], [30, 31])])
def spec_l1Words.B5 : List Nat := [0, 0, 0, 0, 8, 28, 60, 124, 0, 0, 512, 1536, 3840, 7936, 16128, 32764, 0, 0, 131072, 393216, 983040, 2031616, 4128768, 8388604, 0, 0, 33554432, 100663296, 251658240, 520093696, 1073741820, 2147483647, 4294967295]
theorem spec_l1Words.tab5 : rtab .any (opsOf Tryz.f98 5) = spec_l1Words.T5 := by kernel_rfl
theorem spec_l1Words.bits5 : waitsOk spec_l1Words.T5.2 spec_l1Words.B5 = true := by kernel_rfl
def spec_l1Words.T13 : Bool × List (List Nat × List Nat) := (true, [([], []), ([], []), ([], []), ([], []), ([3], [3]), ([2, 4], [2, 4]), ([5], [5]), ([], []), ([6, 7], [6, 7]), ([], []), ([], []), ([10], [10]), ([9, 11], [9, 11]), ([12], [12]), ([8, 13], [8, 13]), ([], []), ([14, 15], [14, 15]), ([16], [16]), ([0, 1, 0, 1, 2, 3, 4, 5, 6, 7, 8, 9, 10, 11, 12, 13, 14, 15, 16, 17], [0, 1]), ([18, 17, 0, 1, 2, 3, 4, 5, 6, 7, 8, 9, 10, 11, 12, 13, 14, 15, 16, 17], [17, 18])])
def spec_l1Words.B13 : List Nat := [0, 0, 0, 0, 8, 28, 60, 0, 252, 0, 0, 1024, 3584, 7680, 16380, 0, 65532, 131068, 262143, 524287]
theorem spec_l1Words.tab13 : rtab .any (opsOf Tryz.f98 13) = spec_l1Words.T13 := by kernel_rfl
theorem spec_l1Words.bits13 : waitsOk spec_l1Words.T13.2 spec_l1Words.B13 = true := by kernel_rfl
theorem spec_l1Words.calls (k : Nat) (A0 : Option Addr) (c0 : Nat) (l0 : List Int) (r : List Int) (w : World) (hr0 : Kd.C (Kd.int .i64) w A0 l0.length l0) (hc0 : l0.length ≤ c0) (h : spec_l1Words.f k l0 = some r) :
  Calls Tryz.prog 98 #[.slice A0 l0.length c0] w fun e w' => ∃ v0_ : Value, e = .returned (v0_) ∧ Kd.R (Kd.int .i64) 3 w' w.heap.size (fun _ => True) v0_ r ∧ Below w.heap.size w w' := by
 have HR0 := am hr0
 have HC0 := am hc0
 clear hr0 hc0
 have HB := am (Below.refl w.heap.size w)
 have H : (if 64 ≤ 35184372088832 then (spec_l1Words.l0 k l0 (List.replicate 64 0) 0) else (none)) = some r := h
 clear h
 replace ⟨c2, H⟩ := ip H
 have c2b0 := eq_true c2
 have c2b1 := dt c2
 clear c2
 obtain ⟨y362, Ny362⟩ := yA (List.replicate 64 0 : List Int)
 rw [← Ny362.out] at H
 have H' := am H
 clear H
 go_enter Tryz.func98, Tryz.ntmps98
 go_wp2_with ((with_reducible refine gate_dst (N := 10) rfl ?_); refine R_make (Kd.int .i64) _ 3 rfl (N := 10) rfl 45 _ _ rfl 64 rfl rfl Tryz.underlying45 (.int .i64 0) 8 info3 rfl (by decide) (by omega) 0 (ok := fun _ => True) (okp := fun _ => True) rfl (fun _ hk => hk) trivial (by omega) (by omega) (Below.refl _ _) (Nat.le_refl _) ?_; intro v363 w3 ho4 hb hg_ hnew_; clear hg_ hnew_; (first | rw [← Ny362.out] at ho4 | (simp only [Int.reduceToNat] at ho4; rw [← Ny362.out] at ho4)); have HO364 := am (R_lower ho4 (below_size (bl HB))); replace HB := kH HB hb; clear hb ho4)
 go_loopg [4] k (fun kq v4 w' => ∃ (x3_1 : List Int) (x4_1 : Int), v4 = .int .i64 x4_1 ∧ Aside0 (spec_l1Words.l0 kq l0 x3_1 x4_1 = some r) ∧ Aside0 (kq ≤ k) ∧ Aside0 (Kd.R (Kd.int .i64) 3 w' w.heap.size (fun _ => True) v363 x3_1) ∧ Aside0 (Below w.heap.size w w'))
 case atStart => exact ⟨(y362), (0), xR, H', ⟨Nat.le_refl _⟩, ⟨ra HO364⟩, ⟨bl HB⟩⟩
 case round =>
  clear H'
  try clear c2 c2b0 c2b1
  obtain ⟨x3_1, x4_1, rfl, HA, HK1, HO_3, HB⟩ := hrel
  cases gk with
  | zero => exact absurd HA.out (by simp [spec_l1Words.l0])
  | succ k1 =>
   have H := HA.out
   clear HA
   simp only [spec_l1Words.l0] at H
   by_cases c5 : x4_1 < 16
   ·rw [if_pos c5] at H
    have c5b0 := dt c5
    clear c5
    obtain ⟨ji6, hji6⟩ := je (wrap64 (4 * x4_1))
    first | rw [hji6] at H | simp only [hji6] at H
    have hji6w : (IntKind.i64.wrap (4 * x4_1)) = ji6 := (i64_w _).trans hji6
    replace ⟨c7b0, H⟩ := ipd H
    replace ⟨c8b0, H⟩ := ipd H
    obtain ⟨ji9, hji9⟩ := je (wrap64 ((ji6) + 1))
    first | rw [hji9] at H | simp only [hji9] at H
    have hji9w : (IntKind.i64.wrap ((ji6) + 1)) = ji9 := (i64_w _).trans hji9
    replace ⟨c10b0, H⟩ := ipd H
    replace ⟨c11b0, H⟩ := ipd H
    obtain ⟨ji12, hji12⟩ := je (wrap64 ((ji6) + 2))
    first | rw [hji12] at H | simp only [hji12] at H
    have hji12w : (IntKind.i64.wrap ((ji6) + 2)) = ji12 := (i64_w _).trans hji12
    replace ⟨c13b0, H⟩ := ipd H
    replace ⟨c14b0, H⟩ := ipd H
    obtain ⟨ji15, hji15⟩ := je (wrap64 ((ji6) + 3))
    first | rw [hji15] at H | simp only [hji15] at H
    have hji15w : (IntKind.i64.wrap ((ji6) + 3)) = ji15 := (i64_w _).trans hji15
    replace ⟨c16b0, H⟩ := ipd H
    replace ⟨c17b0, H⟩ := ipd H
    replace ⟨c18b0, H⟩ := ipd H
    replace ⟨c19b0, H⟩ := ipd H
    obtain ⟨y369, Ny369⟩ := yA (x3_1.set (x4_1 : Int).toNat (Go.bits .or .i64 (Go.bits .or .i64 (Go.bits .or .i64 (wrap64 ((rd l0 (ji6)) * 16777216)) (wrap64 ((rd l0 (ji9)) * 65536))) (wrap64 ((rd l0 (ji12)) * 256))) (rd l0 (ji15))) : List Int)
    first | rw [← Ny369.out] at H | (replace H := bh H; rw [← Ny369.out] at H)
    have H' := am H
    clear H
    try go_wp2
    replace HO_3 := am (R_drew HO_3.out)
    replace HB := am (below_drew1 HB.out)
    have p365 : 0 ≤ ((ji6) : Int) := oX
    have q365 : (ji6) < (l0.length : Int) := oX
    obtain ⟨ad365, e365, hx365_0⟩ := at_int HR0.out (ji6) p365 q365
    have hw365_0 := hx365_0
    cases e365
    replace hx365_0 := hc HB hx365_0
    replace ⟨p365, q365⟩ := eT p365 q365
    have p366 : 0 ≤ ((ji9) : Int) := oX
    have q366 : (ji9) < (l0.length : Int) := oX
    obtain ⟨ad366, e366, hx366_0⟩ := at_int HR0.out (ji9) p366 q366
    have hw366_0 := hx366_0
    obtain rfl : ad365 = ad366 := (by injection e366)
    replace hx366_0 := hc HB hx366_0
    replace ⟨p366, q366⟩ := eT p366 q366
    have p367 : 0 ≤ ((ji12) : Int) := oX
    have q367 : (ji12) < (l0.length : Int) := oX
    obtain ⟨ad367, e367, hx367_0⟩ := at_int HR0.out (ji12) p367 q367
    have hw367_0 := hx367_0
    obtain rfl : ad365 = ad367 := (by injection e367)
    replace hx367_0 := hc HB hx367_0
    replace ⟨p367, q367⟩ := eT p367 q367
    have p368 : 0 ≤ ((ji15) : Int) := oX
    have q368 : (ji15) < (l0.length : Int) := oX
    obtain ⟨ad368, e368, hx368_0⟩ := at_int HR0.out (ji15) p368 q368
    have hw368_0 := hx368_0
    obtain rfl : ad365 = ad368 := (by injection e368)
    replace hx368_0 := hc HB hx368_0
    replace ⟨p368, q368⟩ := eT p368 q368
    have p20 : 0 ≤ (x4_1 : Int) := oX
    have q20 : (x4_1 : Int) < ((x3_1.length : Int) : Int) := oX
    obtain ⟨go20, co20, eo20, gb20, gl20, cl20, HG20⟩ := R_form HO_3.out (by omega)
    (first | cases eo20 | (injection eo20 with ea_ en_ ec_; (first | subst ea_ | (injection ea_ with ea_; subst ea_)); subst ec_; clear en_))
    have GB20 := am gb20
    have GG20 := am HG20
    clear gb20 gl20 HG20
    obtain ⟨hx20_0, hf20_0⟩ := R_celln 0 HO_3.out (x4_1 : Int) p20 q20
    replace ⟨p20, q20⟩ := eT p20 q20
    have HP22 := R_putn HO_3.out (x4_1 : Int) (Go.bits .or .i64 (Go.bits .or .i64 (Go.bits .or .i64 (wrap64 ((rd l0 (ji6)) * 16777216)) (wrap64 ((rd l0 (ji9)) * 65536))) (wrap64 ((rd l0 (ji12)) * 256))) (rd l0 (ji15)))
    rw [← Ny369.out] at HP22
    have HQ22 := am HP22
    clear HP22
    refine start_ (n := 33) (S := fun w' => w'.cell? (ad365.add ((ji6)).toNat) = some (.int .i64 (rd l0 (ji6))) ∧ w'.cell? (ad365.add ((ji9)).toNat) = some (.int .i64 (rd l0 (ji9))) ∧ w'.cell? (ad365.add ((ji12)).toNat) = some (.int .i64 (rd l0 (ji12))) ∧ w'.cell? (ad365.add ((ji15)).toNat) = some (.int .i64 (rd l0 (ji15)))) (ds := [32]) (bm 33 0) (by kernel_rfl) rfl rfl ⟨(hd HB hw365_0), (hd HB hw366_0), (hd HB hw367_0), (hd HB hw368_0)⟩ (fun hHeld => ?_); refine with_tabW spec_l1Words.tab5 spec_l1Words.bits5 (fun HT_ HW_ => ?_)
    generalize wr.drew = w21 at HO_3 HB GG20 HQ22 hf20_0 hx20_0 hx365_0 hx366_0 hx367_0 hx368_0 hHeld ⊢
    refine pA 0 15 (bm 33 1) HT_ ?_
    refine pA 1 16 (bm 33 3) HT_ ?_
    refine pA 2 17 (bm 33 7) HT_ ?_
    refine pA 3 18 (bm 33 15) HT_ ?_
    refine pA 4 19 (bm 33 31) HT_ ?_
    refine pA 5 20 (bm 33 63) HT_ ?_
    refine pA 8 23 (bm 33 319) HT_ ?_
    refine pA 9 24 (bm 33 831) HT_ ?_
    refine pA 10 25 (bm 33 1855) HT_ ?_
    refine pA 11 26 (bm 33 3903) HT_ ?_
    refine pA 12 27 (bm 33 7999) HT_ ?_
    refine pA 16 31 (bm 33 73535) HT_ ?_
    refine pA 17 32 (bm 33 204607) HT_ ?_
    refine pA 18 33 (bm 33 466751) HT_ ?_
    refine pA 19 34 (bm 33 991039) HT_ ?_
    refine pA 20 35 (bm 33 2039615) HT_ ?_
    refine pA 24 39 (bm 33 18816831) HT_ ?_
    refine pA 25 40 (bm 33 52371263) HT_ ?_
    refine pA 26 41 (bm 33 119480127) HT_ ?_
    refine pA 27 42 (bm 33 253697855) HT_ ?_
    refine pA 28 43 (bm 33 522133311) HT_ ?_
    refine tA 6 21 (bm 33 522133375) HT_ HW_ hHeld ?_
    refine pA 7 22 (bm 33 522133503) HT_ ?_
    refine tA 13 28 (bm 33 522141695) HT_ HW_ hHeld ?_
    refine pA 14 29 (bm 33 522158079) HT_ ?_
    refine pA 15 30 (bm 33 522190847) HT_ ?_
    refine tA 21 36 (bm 33 524287999) HT_ HW_ hHeld ?_
    refine pA 22 37 (bm 33 528482303) HT_ ?_
    refine pA 23 38 (bm 33 536870911) HT_ ?_
    refine tA 29 44 (bm 33 1073741823) HT_ HW_ hHeld ?_
    refine pA 30 45 (bm 33 2147483647) HT_ ?_
    refine pA 31 46 (bm 33 4294967295) HT_ ?_
    refine last_ (i := 32) (N := none) (bm 33 8589934591) rfl rfl (one_of HT_.out (by kernel_rfl)) (by decide) (fun K hK => ?_)
    refine skip_ (w1 := ?_) (by rfl) rfl ?_ ?_
    rotate_left
    ·go_simp
     rfl
    refine hK.out _ _ ?_
    clear hK K
    refine done_ (done_of HT_.out (by kernel_rfl)) ?_
    try go_wp2
    go_roundg k1
    case measure => have := HK1.out; omega
    case rel => exact ⟨(y369), (wrap64 (x4_1 + 1)), xR, H', ⟨xL HK1⟩, ⟨by (with_reducible repeat (first | apply R_alloc | apply R_drewN | apply R_drew)); exact HQ22.out⟩, ⟨xB HB⟩⟩
   rw [if_neg c5] at H
   have c5b0 := df c5
   clear c5
   have H' := am H
   clear H
   go_wp2
   go_loopg [5] k1 (fun kq v5 w' => ∃ (x3_2 : List Int) (x5_2 : Int), v5 = .int .i64 x5_2 ∧ Aside0 (spec_l1Words.l1 kq x3_2 x5_2 = some r) ∧ Aside0 (kq ≤ k1) ∧ Aside0 (Kd.R (Kd.int .i64) 3 w' w.heap.size (fun _ => True) v363 x3_2) ∧ Aside0 (Below w.heap.size w w'))
   case atStart => exact ⟨(x3_1), (16), xR, H', ⟨Nat.le_refl _⟩, ⟨ra HO_3⟩, ⟨bl HB⟩⟩
   case round =>
    clear H'
    try clear c2 c2b0 c2b1 c5 c5b0
    obtain ⟨x3_2, x5_2, rfl, HA, HK2, HO_3, HB⟩ := hrel
    cases gk with
    | zero => exact absurd HA.out (by simp [spec_l1Words.l1])
    | succ k2 =>
     have H := HA.out
     clear HA
     simp only [spec_l1Words.l1] at H
     by_cases c23 : x5_2 < 64
     rotate_left
     ·rw [if_neg c23] at H
      have c23b0 := df c23
      clear c23
      obtain rfl := oI H
      go_wp2
      go_ret
      exact ⟨_, xE, ra HO_3, bl HB⟩
     rw [if_pos c23] at H
     have c23b0 := dt c23
     clear c23
     obtain ⟨ji24, hji24⟩ := je (wrap64 (x5_2 - 15))
     first | rw [hji24] at H | simp only [hji24] at H
     have hji24w : (IntKind.i64.wrap (x5_2 - 15)) = ji24 := (i64_w _).trans hji24
     replace ⟨c25b0, H⟩ := ipd H
     replace ⟨c26b0, H⟩ := ipd H
     obtain ⟨ji27, hji27⟩ := je (wrap64 (x5_2 - 2))
     first | rw [hji27] at H | simp only [hji27] at H
     have hji27w : (IntKind.i64.wrap (x5_2 - 2)) = ji27 := (i64_w _).trans hji27
     replace ⟨c28b0, H⟩ := ipd H
     replace ⟨c29b0, H⟩ := ipd H
     replace ⟨t372, A30, H⟩ := oa H
     replace ⟨t373, A31, H⟩ := oa H
     replace ⟨t374, A32, H⟩ := oa H
     replace ⟨t375, A33, H⟩ := oa H
     obtain ⟨ji34, hji34⟩ := je (wrap64 (x5_2 - 16))
     first | rw [hji34] at H | simp only [hji34] at H
     (try rw [hji34] at A30)
     (try rw [hji34] at A31)
     (try rw [hji34] at A32)
     (try rw [hji34] at A33)
     have hji34w : (IntKind.i64.wrap (x5_2 - 16)) = ji34 := (i64_w _).trans hji34
     replace ⟨c35b0, H⟩ := ipd H
     replace ⟨c36b0, H⟩ := ipd H
     obtain ⟨ji37, hji37⟩ := je (wrap64 (x5_2 - 7))
     first | rw [hji37] at H | simp only [hji37] at H
     (try rw [hji37] at A30)
     (try rw [hji37] at A31)
     (try rw [hji37] at A32)
     (try rw [hji37] at A33)
     have hji37w : (IntKind.i64.wrap (x5_2 - 7)) = ji37 := (i64_w _).trans hji37
     replace ⟨c38b0, H⟩ := ipd H
     replace ⟨c39b0, H⟩ := ipd H
     replace ⟨c40b0, H⟩ := ipd H
     replace ⟨c41b0, H⟩ := ipd H
     obtain ⟨y378, Ny378⟩ := yA (x3_2.set (x5_2 : Int).toNat (Go.bits .and .i64 (wrap64 ((wrap64 ((wrap64 ((rd x3_2 (ji34)) + (Go.bits .xor .i64 (Go.bits .xor .i64 t372 t373) ((rd x3_2 (ji24)) / 8)))) + (rd x3_2 (ji37)))) + (Go.bits .xor .i64 (Go.bits .xor .i64 t374 t375) ((rd x3_2 (ji27)) / 1024)))) 4294967295) : List Int)
     first | rw [← Ny378.out] at H | (replace H := bh H; rw [← Ny378.out] at H)
     have H' := am H
     clear H
     obtain ⟨Ao43, co43, rfl⟩ := R_slice HO_3.out
     have p370 : 0 ≤ ((ji24) : Int) := oX
     have q370 : (ji24) < (x3_2.length : Int) := oX
     obtain ⟨ad370, e370, hx370_0⟩ := at_int (R_reads' HO_3.out).2.2 (ji24) p370 q370
     cases e370
     replace ⟨p370, q370⟩ := eT p370 q370
     have p371 : 0 ≤ ((ji27) : Int) := oX
     have q371 : (ji27) < (x3_2.length : Int) := oX
     obtain ⟨ad371, e371, hx371_0⟩ := at_int (R_reads' HO_3.out).2.2 (ji27) p371 q371
     obtain rfl : ad370 = ad371 := (by injection e371)
     replace ⟨p371, q371⟩ := eT p371 q371
     try go_wp2_with (first | ((with_reducible refine gate_callee (f := 111) rfl ?_); refine goesL_ (some 62) rfl rfl Tryz.func111 (by kernel_rfl) rfl #[.int .i64 (rd x3_2 (ji24)), .int .i64 7] rfl (by (try simp only [List.map_toArray, List.map_cons, List.map_nil]); first | done | (simp only [hji24]; rfl) | rfl | (simp only [List.length_drop, List.length_take]; rfl)) ?_; (with_reducible refine (spec_l1Turn.calls (rd x3_2 (ji24)) 7 t372 _ A30.out).mono ?_); rintro e w' ⟨rfl, ⟨nd, rfl⟩⟩; refine ⟨_, rfl, ?_⟩; (try (rw [drewN_self wr]; generalize hq_ : World.drewN wr _ = wr; have n0_ := dR hq_ HO_3; have n1_ := dB hq_ HB; clear HO_3 HB hq_; have HO_3 := n0_; have HB := n1_; clear n0_ n1_))) | ((with_reducible refine gate_callee (f := 111) rfl ?_); refine goesL_ (some 64) rfl rfl Tryz.func111 (by kernel_rfl) rfl #[.int .i64 (rd x3_2 (ji24)), .int .i64 18] rfl (by (try simp only [List.map_toArray, List.map_cons, List.map_nil]); first | done | (simp only [hji24]; rfl) | rfl | (simp only [List.length_drop, List.length_take]; rfl)) ?_; (with_reducible refine (spec_l1Turn.calls (rd x3_2 (ji24)) 18 t373 _ A31.out).mono ?_); rintro e w' ⟨rfl, ⟨nd, rfl⟩⟩; refine ⟨_, rfl, ?_⟩; (try (rw [drewN_self wr]; generalize hq_ : World.drewN wr _ = wr; have n0_ := dR hq_ HO_3; have n1_ := dB hq_ HB; clear HO_3 HB hq_; have HO_3 := n0_; have HB := n1_; clear n0_ n1_))) | ((with_reducible refine gate_callee (f := 111) rfl ?_); refine goesL_ (some 70) rfl rfl Tryz.func111 (by kernel_rfl) rfl #[.int .i64 (rd x3_2 (ji27)), .int .i64 17] rfl (by (try simp only [List.map_toArray, List.map_cons, List.map_nil]); first | done | (simp only [hji27]; rfl) | rfl | (simp only [List.length_drop, List.length_take]; rfl)) ?_; (with_reducible refine (spec_l1Turn.calls (rd x3_2 (ji27)) 17 t374 _ A32.out).mono ?_); rintro e w' ⟨rfl, ⟨nd, rfl⟩⟩; refine ⟨_, rfl, ?_⟩; (try (rw [drewN_self wr]; generalize hq_ : World.drewN wr _ = wr; have n0_ := dR hq_ HO_3; have n1_ := dB hq_ HB; clear HO_3 HB hq_; have HO_3 := n0_; have HB := n1_; clear n0_ n1_))) | ((with_reducible refine gate_callee (f := 111) rfl ?_); refine goesL_ (some 72) rfl rfl Tryz.func111 (by kernel_rfl) rfl #[.int .i64 (rd x3_2 (ji27)), .int .i64 19] rfl (by (try simp only [List.map_toArray, List.map_cons, List.map_nil]); first | done | (simp only [hji27]; rfl) | rfl | (simp only [List.length_drop, List.length_take]; rfl)) ?_; (with_reducible refine (spec_l1Turn.calls (rd x3_2 (ji27)) 19 t375 _ A33.out).mono ?_); rintro e w' ⟨rfl, ⟨nd, rfl⟩⟩; refine ⟨_, rfl, ?_⟩; (try (rw [drewN_self wr]; generalize hq_ : World.drewN wr _ = wr; have n0_ := dR hq_ HO_3; have n1_ := dB hq_ HB; clear HO_3 HB hq_; have HO_3 := n0_; have HB := n1_; clear n0_ n1_))))
     replace HO_3 := am (R_drew HO_3.out)
     replace HB := am (below_drew1 HB.out)
     have p376 : 0 ≤ ((ji34) : Int) := oX
     have q376 : (ji34) < (x3_2.length : Int) := oX
     obtain ⟨ad376, e376, hx376_0⟩ := at_int (R_reads' HO_3.out).2.2 (ji34) p376 q376
     obtain rfl : ad370 = ad376 := (by injection e376)
     replace ⟨p376, q376⟩ := eT p376 q376
     have p377 : 0 ≤ ((ji37) : Int) := oX
     have q377 : (ji37) < (x3_2.length : Int) := oX
     obtain ⟨ad377, e377, hx377_0⟩ := at_int (R_reads' HO_3.out).2.2 (ji37) p377 q377
     obtain rfl : ad370 = ad377 := (by injection e377)
     replace ⟨p377, q377⟩ := eT p377 q377
     have p42 : 0 ≤ (x5_2 : Int) := oX
     have q42 : (x5_2 : Int) < ((x3_2.length : Int) : Int) := oX
     obtain ⟨go42, co42, eo42, gb42, gl42, cl42, HG42⟩ := R_form HO_3.out (by omega)
     (first | cases eo42 | (injection eo42 with ea_ en_ ec_; (first | subst ea_ | (injection ea_ with ea_; subst ea_)); subst ec_; clear en_))
     have GB42 := am gb42
     have GG42 := am HG42
     clear gb42 gl42 HG42
     (first | simp only [add_plain] at hx370_0 | skip)
     (first | simp only [add_plain] at hx371_0 | skip)
     (first | simp only [add_plain] at hx376_0 | skip)
     (first | simp only [add_plain] at hx377_0 | skip)
     obtain ⟨hx42_0, hf42_0⟩ := R_celln 0 HO_3.out (x5_2 : Int) p42 q42
     replace ⟨p42, q42⟩ := eT p42 q42
     have HP45 := R_putn HO_3.out (x5_2 : Int) (Go.bits .and .i64 (wrap64 ((wrap64 ((wrap64 ((rd x3_2 (ji34)) + (Go.bits .xor .i64 (Go.bits .xor .i64 t372 t373) ((rd x3_2 (ji24)) / 8)))) + (rd x3_2 (ji37)))) + (Go.bits .xor .i64 (Go.bits .xor .i64 t374 t375) ((rd x3_2 (ji27)) / 1024)))) 4294967295)
     rw [← Ny378.out] at HP45
     have HQ45 := am HP45
     clear HP45
     refine start_ (n := 20) (S := fun w' => w'.cell? ⟨go42, ((ji34)).toNat, none⟩ = some (.int .i64 (rd x3_2 (ji34))) ∧ w'.cell? ⟨go42, ((ji37)).toNat, none⟩ = some (.int .i64 (rd x3_2 (ji37)))) (ds := [19]) (bm 20 0) (by kernel_rfl) rfl rfl ⟨hx376_0, hx377_0⟩ (fun hHeld => ?_); refine with_tabW spec_l1Words.tab13 spec_l1Words.bits13 (fun HT_ HW_ => ?_)
     generalize wr.drew = w44 at HO_3 HB GG42 HQ45 hf42_0 hx370_0 hx371_0 hx376_0 hx377_0 hx42_0 hHeld ⊢
     refine pA 0 77 (bm 20 1) HT_ ?_
     refine pA 1 78 (bm 20 3) HT_ ?_
     refine pA 2 79 (bm 20 7) HT_ ?_
     refine pA 3 80 (bm 20 15) HT_ ?_
     refine pA 4 81 (bm 20 31) HT_ ?_
     refine pA 5 82 (bm 20 63) HT_ ?_
     refine pA 7 84 (bm 20 191) HT_ ?_
     refine pA 9 86 (bm 20 703) HT_ ?_
     refine pA 10 87 (bm 20 1727) HT_ ?_
     refine pA 11 88 (bm 20 3775) HT_ ?_
     refine pA 12 89 (bm 20 7871) HT_ ?_
     refine pA 15 92 (bm 20 40639) HT_ ?_
     refine tA 6 83 (bm 20 40703) HT_ HW_ hHeld ?_
     refine pA 8 85 (bm 20 40959) HT_ ?_
     refine tA 13 90 (bm 20 49151) HT_ HW_ hHeld ?_
     refine pA 14 91 (bm 20 65535) HT_ ?_
     refine pA 16 93 (bm 20 131071) HT_ ?_
     refine pA 17 94 (bm 20 262143) HT_ ?_
     refine pA 18 95 (bm 20 524287) HT_ ?_
     refine last_ (i := 19) (N := none) (bm 20 1048575) rfl rfl (one_of HT_.out (by kernel_rfl)) (by decide) (fun K hK => ?_)
     refine skip_ (w1 := ?_) (by rfl) rfl ?_ ?_
     rotate_left
     ·go_simp
      rfl
     refine hK.out _ _ ?_
     clear hK K
     refine done_ (done_of HT_.out (by kernel_rfl)) ?_
     try go_wp2
     go_roundg k2
     case measure => have := HK1.out; have := HK2.out; omega
     case rel => exact ⟨(y378), (wrap64 (x5_2 + 1)), xR, H', ⟨by have := HK1.out; have := HK2.out; omega⟩, ⟨by (with_reducible repeat (first | apply R_alloc | apply R_drewN | apply R_drew)); exact HQ45.out⟩, ⟨xB HB⟩⟩
open Kd
set_option linter.unusedVariables false
set_option linter.unusedSimpArgs false
set_option maxHeartbeats 64000000
set_option maxRecDepth 100000
def spec_l1Sha.l0 : Nat → List Int → List Int → List Int → Int → Option (List Int)
 | 0, _, _, _, _ => none
 | k + 1, x3, x4, x5, x6 => if x6 < (x5.length : Int) then (if 0 ≤ x6 then (if x6 ≤ (wrap64 (x6 + 64)) then (if (wrap64 (x6 + 64)) ≤ (x5.length : Int) then ((spec_l1Words.f k ((x5.take ((wrap64 (x6 + 64)) : Int).toNat).drop (x6 : Int).toNat)).bind fun t392 => ((spec_l1Mix.f k x3 t392 x4).bind fun t395 => (spec_l1Sha.l0 k t395 x4 x5 (wrap64 (x6 + 64))))) else (none)) else (none)) else (none)) else (some x3)
def spec_l1Sha.f (k : Nat) (a0 : ByteArray) : Option (List Int) := (spec_l1Consts.f).bind fun bt379 => ((spec_l1Pad.f k a0).bind fun t385 => (spec_l1Sha.l0 k bt379.1 bt379.2 t385 0))
theorem spec_l1Sha.calls (k : Nat) (a0 : ByteArray) (r : List Int) (w : World) (h : spec_l1Sha.f k a0 = some r) :
  Calls Tryz.prog 76 #[.string a0] w fun e w' => ∃ v0_ : Value, e = .returned (v0_) ∧ Kd.R (Kd.int .i64) 3 w' w.heap.size (fun _ => True) v0_ r ∧ Below w.heap.size w w' := by
 have HB := am (Below.refl w.heap.size w)
 have H : ((spec_l1Consts.f).bind fun bt379 => ((spec_l1Pad.f k a0).bind fun t385 => (spec_l1Sha.l0 k bt379.1 bt379.2 t385 0))) = some r := h
 clear h
 replace H := Option.bind_eq_some_iff.mp H
 obtain ⟨⟨t379, t380⟩, A20, H⟩ := H
 have A2 := am A20
 clear A20
 replace ⟨t385, A3, H⟩ := oa H
 have H' := am H
 clear H
 go_enter Tryz.func76, Tryz.ntmps76
 go_wp2_with ((with_reducible refine gg ?_); first | (refine gL 8 Tryz.func95 #[] ?_; (with_reducible refine (spec_l1Consts.calls  t379 t380 _ A2.out).mono ?_); rintro e w4 ⟨v381, v383, rfl, ho0, ho1, hb⟩; refine ⟨_, rfl, ?_⟩; have HO382 := am (R_lower ho0 (below_size (bl HB))); have HO384 := am (R_lower ho1 (below_size (bl HB))); replace HB := kH HB hb; (try clear hb); (try clear ho0); (try clear ho1)) | (refine gL 12 Tryz.func96 #[.string a0] ?_; (with_reducible refine (spec_l1Pad.calls k a0 t385 _ A3.out).mono ?_); rintro e w5 ⟨v386, rfl, ho0, hb⟩; refine ⟨_, rfl, ?_⟩; have HO387 := am (R_lower (R_new' (R_new' ho0 (R_lt (ra HO382))) (R_lt (ra HO384))) (below_size (bl HB))); replace HO382 := am (R_elder' (ra HO382) (R_base ho0) hb); replace HO384 := am (R_elder' (ra HO384) (R_base ho0) hb); replace HB := kH HB hb; (try clear hb); (try clear ho0)))
 go_loopg [3, 6] k (fun kq v3 v6 w' => ∃ (x3_1 : List Int) (x6_1 : Int), v6 = .int .i64 x6_1 ∧ Aside0 (spec_l1Sha.l0 kq x3_1 t380 t385 x6_1 = some r) ∧ Aside0 (kq ≤ k) ∧ Aside0 (Kd.R (Kd.int .i64) 3 w' w.heap.size (fun k_ => some k_ ≠ (v383 : Value).ownBlock ∧ some k_ ≠ (v386 : Value).ownBlock) v3 x3_1) ∧ Aside0 (Kd.R (Kd.int .i64) 3 w' w.heap.size (fun k_ => some k_ ≠ (v3 : Value).ownBlock ∧ some k_ ≠ (v386 : Value).ownBlock) v383 t380) ∧ Aside0 (Kd.R (Kd.int .i64) 3 w' w.heap.size (fun k_ => some k_ ≠ (v3 : Value).ownBlock ∧ some k_ ≠ (v383 : Value).ownBlock) v386 t385) ∧ Aside0 (Below w.heap.size w w'))
 case atStart => exact ⟨(t379), (0), xR, H', ⟨Nat.le_refl _⟩, ⟨ra HO382⟩, ⟨ra HO384⟩, ⟨rM HO387 (fun _ hk => ⟨hk.1.2, hk.2⟩)⟩, ⟨bl HB⟩⟩
 case round =>
  clear H'
  try clear p2
  obtain ⟨x3_1, x6_1, rfl, HA, HK1, HO_3, HO_4, HO_5, HB⟩ := hrel
  cases gk with
  | zero => exact absurd HA.out (by simp [spec_l1Sha.l0])
  | succ k1 =>
   have H := HA.out
   clear HA
   simp only [spec_l1Sha.l0] at H
   by_cases c6 : x6_1 < (t385.length : Int)
   rotate_left
   ·rw [if_neg c6] at H
    have c6b0 := df c6
    clear c6
    obtain rfl := oI H
    obtain ⟨Ao19, co19, rfl⟩ := R_slice HO_5.out
    go_wp2
    go_ret
    exact ⟨_, xE, rM HO_3 (fun _ hk => trivial), bl HB⟩
   rw [if_pos c6] at H
   have c6b0 := dt c6
   clear c6
   replace ⟨c7, H⟩ := ip H
   have c7b0 := eq_true c7
   have c7b1 := dt c7
   clear c7
   replace ⟨c8, H⟩ := ip H
   have c8b0 := eq_true c8
   have c8b1 := dt c8
   replace ⟨c9, H⟩ := ip H
   have c9b0 := eq_true c9
   have c9b1 := dt c9
   obtain ⟨y388, Ny388⟩ := yA ((t385.take ((wrap64 (x6_1 + 64)) : Int).toNat).drop (x6_1 : Int).toNat : List Int)
   rw [← Ny388.out] at H
   replace ⟨t392, A10, H⟩ := oa H
   replace ⟨t395, A11, H⟩ := oa H
   have H' := am H
   clear H
   obtain ⟨Ao12, co12, rfl⟩ := R_slice HO_5.out
   have q13 : ((wrap64 (x6_1 + 64)) : Int) ≤ ((t385.length : Int) : Int) := oX
   obtain ⟨i013, hi013, _, hsz13, _⟩ := info_parts info3
   have hroom13 : t385.length ≤ co12 := (R_reads' HO_5.out).2.1
   have hC13 : Kd.C (Kd.int .i64) _ Ao12 t385.length t385 := (R_reads' HO_5.out).2.2
   have ql13 : (x6_1 : Int) ≤ ((wrap64 (x6_1 + 64)) : Int) := oX
   have q013 : (0 : Int) ≤ (x6_1 : Int) := oX
   have hcut13 := cut_mid (P := Tryz.prog) 45 3 .i64 .i64 Tryz.underlying45 hi013 1 hsz13 Ao12 t385.length co12 x6_1 (wrap64 (x6_1 + 64)) q013 ql13 q13 hroom13
   have hr13 := C_mid (lo := (x6_1 : Int).toNat) (hi := ((wrap64 (x6_1 + 64)) : Int).toNat) (c := co12) hC13 (by omega) (by omega) hroom13
   obtain ⟨A13, hA13⟩ : ∃ A1, A1 = (if co12 = (x6_1 : Int).toNat then Ao12 else (Ao12 : Option Addr).map (·.add ((x6_1 : Int).toNat * 1))) := ⟨_, rfl⟩
   obtain ⟨c13, hc13⟩ : ∃ c1, c1 = co12 - (x6_1 : Int).toNat := ⟨_, rfl⟩
   have hy13 : y388.length = ((wrap64 (x6_1 + 64)) : Int).toNat - (x6_1 : Int).toNat := (by rw [Ny388.out, List.length_drop, List.length_take] <;> omega)
   rw [show ((t385).take ((wrap64 (x6_1 + 64)) : Int).toNat).drop (x6_1 : Int).toNat = y388 from Ny388.out.symm] at hr13
   replace hr13 : Kd.C (Kd.int .i64) _ A13 y388.length y388 := (by rw [hA13]; exact hr13)
   rw [← hy13, ← hA13, ← hc13] at hcut13
   have HR391 := am hr13
   have HC391 := am (show y388.length ≤ c13 from by rw [hy13, hc13]; exact Nat.sub_le_sub_right (Nat.le_trans (by omega) hroom13) _)
   clear hr13 hC13 hroom13 hi013 hsz13 hc13
   have KY13 := am hy13
   have KA13 := am hA13
   clear hy13 hA13
   have KL13 := am (show ((wrap64 (x6_1 + 64)) : Int).toNat ≤ t385.length from by omega)
   have KM13 := am (show (x6_1 : Int).toNat ≤ ((wrap64 (x6_1 + 64)) : Int).toNat from by omega)
   replace q13 := eq_true q13
   go_wp2_with ((with_reducible refine gg ?_); first | (refine gL 25 Tryz.func98 #[.slice A13 y388.length c13] ?_; (with_reducible refine (spec_l1Words.calls k1 _ _ y388 t392 _ ?side1 ?side2 A10.out).mono ?_); (case side1 => repeat (first | exact (by repeat (first | (with_reducible exact HR391.out) | (with_reducible refine C_alloc ?_ _) | (with_reducible refine C_drewN ?_ _) | (with_reducible refine C_drew ?_) | exact HR391.out)) | (with_reducible refine C_alloc ?_ _) | (with_reducible refine C_drewN ?_ _) | (with_reducible refine C_drew ?_))); (case side2 => exact HC391.out); rintro e w14 ⟨v393, rfl, ho0, hb⟩; refine ⟨_, rfl, ?_⟩; have HO394 := am (R_lower (R_new' (R_new' (R_new' ho0 (R_lt (ra HO_3))) (R_lt (ra HO_4))) (R_lt (ra HO_5))) (below_size (bl HB))); replace HO_3 := am (R_elder' (ra HO_3) (R_base ho0) hb); replace HO_4 := am (R_elder' (ra HO_4) (R_base ho0) hb); replace HO_5 := am (R_elder' (ra HO_5) (R_base ho0) hb); replace HR391 := am (C_below (by repeat (first | (with_reducible exact HR391.out) | (with_reducible refine C_alloc ?_ _) | (with_reducible refine C_drewN ?_ _) | (with_reducible refine C_drew ?_) | exact HR391.out)) hb); replace HB := kH HB hb; (try clear hb); (try clear ho0); obtain ⟨Ao15, co15, rfl⟩ := R_slice HO_3.out; obtain ⟨Ao16, co16, rfl⟩ := R_slice HO394.out; obtain ⟨Ao17, co17, rfl⟩ := R_slice HO_4.out) | (refine gL 27 Tryz.func97 #[.slice Ao15 x3_1.length co15, .slice Ao16 t392.length co16, .slice Ao17 t380.length co17] ?_; (with_reducible refine (spec_l1Mix.calls k1 _ _ x3_1 _ _ t392 _ _ t380 t395 _ ?side1 ?side2 ?side3 ?side4 ?side5 ?side6 A11.out).mono ?_); (case side1 => exact cr (R_reads' HO_3.out).2.2); (case side2 => exact sl HO_3); (case side3 => exact cr (R_reads' HO394.out).2.2); (case side4 => exact sl HO394); (case side5 => exact cr (R_reads' HO_4.out).2.2); (case side6 => exact sl HO_4); rintro e w18 ⟨v396, rfl, ho0, hb⟩; refine ⟨_, rfl, ?_⟩; have HO397 := am (R_lower (R_new' (R_new' (R_new' (R_new' ho0 (R_lt (ra HO_3))) (R_lt (ra HO_4))) (R_lt (ra HO_5))) (R_lt (ra HO394))) (below_size (bl HB))); replace HO_3 := am (R_elder' (ra HO_3) (R_base ho0) hb); replace HO_4 := am (R_elder' (ra HO_4) (R_base ho0) hb); replace HO_5 := am (R_elder' (ra HO_5) (R_base ho0) hb); replace HO394 := am (R_elder' (ra HO394) (R_base ho0) hb); replace HR391 := am (C_below (by repeat (first | (with_reducible exact HR391.out) | (with_reducible refine C_alloc ?_ _) | (with_reducible refine C_drewN ?_ _) | (with_reducible refine C_drew ?_) | exact HR391.out)) hb); replace HB := kH HB hb; (try clear hb); (try clear ho0)))
   go_roundg k1
   case measure => have := HK1.out; omega
   case rel => exact ⟨(t395), (wrap64 (x6_1 + 64)), xR, H', ⟨xL HK1⟩, ⟨rM HO397 (fun _ hk => ⟨hk.1.1.2, hk.1.2⟩)⟩, ⟨rM HO_4 (fun _ hk => ⟨hk.2, hk.1.1.2⟩)⟩, ⟨rM HO_5 (fun _ hk => ⟨hk.2, hk.1.1.2⟩)⟩, ⟨bl HB⟩⟩
def spec_l1Hex.l0 : Nat → Int → List Int → Int → Option (ByteArray)
 | 0, _, _, _ => none
 | k + 1, x0, x3, x4 => if x4 ≥ 0 then (if 0 ≤ (wrap64 (4 * x4)) then (if 0 ≤ (Int.tmod (shr .i64 x0 (wrap64 (4 * x4))) 16) then (if (Int.tmod (shr .i64 x0 (wrap64 (4 * x4))) 16) < 16 then (if x3.length < 140737488355328 then (spec_l1Hex.l0 k x0 (x3 ++ [bt (⟨#[48, 49, 50, 51, 52, 53, 54, 55, 56, 57, 97, 98, 99, 100, 101, 102]⟩ : ByteArray) (Int.tmod (shr .i64 x0 (wrap64 (4 * x4))) 16)]) (wrap64 (x4 - 1))) else (none)) else (none)) else (none)) else (none)) else (some (strOfNums x3))
def spec_l1Hex.f (k : Nat) (a0 : Int) : Option (ByteArray) := spec_l1Hex.l0 k a0 (([] : List Int)) 7
theorem spec_l1Hex.calls (k : Nat) (a0 : Int) (r : ByteArray) (w : World) (h : spec_l1Hex.f k a0 = some r) :
  Calls Tryz.prog 77 #[.int .i64 a0] w fun e w' => e = .returned (.string r) ∧ Below w.heap.size w w' := by
 have HB := am (Below.refl w.heap.size w)
 have H : (spec_l1Hex.l0 k a0 (([] : List Int)) 7) = some r := h
 clear h
 obtain ⟨y398, Ny398⟩ := yA (([] : List Int) : List Int)
 rw [← Ny398.out] at H
 have H' := am H
 clear H
 go_enter Tryz.func77, Tryz.ntmps77
 go_wp2_with ((with_reducible refine gate_dst (N := 5) rfl ?_); refine R_lit (Kd.int .u8) _ 5 ?hg (N := 5) ?hd (xs := ([] : List Int)) (inner := []) (ok := fun _ => True) (okp := fun _ => True) ?hr ?hp (fun _ hk => hk) trivial (Below.refl _ _) (Nat.le_refl _) (by simp) ?_; (case hd => rfl); (case hg => rfl); (case hr => first | (go_simp; done) | (go_simp; rfl)); (case hp => exact xP); intro v399 w2 ho3 hb hg_ hnew_; clear hg_ hnew_; (first | rw [← Ny398.out] at ho3 | (simp only [Int.reduceToNat] at ho3; rw [← Ny398.out] at ho3)); have HO400 := am (R_lower ho3 (below_size (bl HB))); replace HB := kH HB hb; clear hb ho3)
 go_loopg [3, 4] k (fun kq v3 v4 w' => ∃ (x3_1 : List Int) (x4_1 : Int), v4 = .int .i64 x4_1 ∧ Aside0 (spec_l1Hex.l0 kq a0 x3_1 x4_1 = some r) ∧ Aside0 (kq ≤ k) ∧ Aside0 (Kd.R (Kd.int .u8) 5 w' w.heap.size (fun _ => True) v3 x3_1) ∧ Aside0 (Below w.heap.size w w'))
 case atStart => exact ⟨(y398), (7), xR, H', ⟨Nat.le_refl _⟩, ⟨ra HO400⟩, ⟨bl HB⟩⟩
 case round =>
  clear H'
  try clear p2
  obtain ⟨x3_1, x4_1, rfl, HA, HK1, HO_3, HB⟩ := hrel
  cases gk with
  | zero => exact absurd HA.out (by simp [spec_l1Hex.l0])
  | succ k1 =>
   have H := HA.out
   clear HA
   simp only [spec_l1Hex.l0] at H
   by_cases c4 : x4_1 ≥ 0
   rotate_left
   ·rw [if_neg c4] at H
    have c4b0 := df c4
    clear c4
    obtain rfl := oI H
    have hcv14 := own_string (P := Tryz.prog) Tryz.underlying22 Tryz.underlying5 Tryz.underlying9 (own_of_R HO_3.out)
    go_wp2
    go_ret
    exact ⟨xE, bl HB⟩
   rw [if_pos c4] at H
   have c4b0 := dt c4
   clear c4
   obtain ⟨ji5, hji5⟩ := je (wrap64 (4 * x4_1))
   first | rw [hji5] at H | simp only [hji5] at H
   have hji5w : (IntKind.i64.wrap (4 * x4_1)) = ji5 := (i64_w _).trans hji5
   replace ⟨c6, H⟩ := ip H
   have c6b0 := eq_true c6
   have c6b1 := dt c6
   clear c6
   obtain ⟨ji7, hji7⟩ := je (shr .i64 a0 (ji5))
   first | rw [hji7] at H | simp only [hji7] at H
   have hji7_ : (a0 / 2 ^ min (ji5).toNat 64) = ji7 := hji7
   have hji7z : (ji5) ≤ 64 → (a0 / 2 ^ (ji5).toNat) = ji7 := shr_small hji7
   obtain ⟨ji8, hji8⟩ := je (Int.tmod (ji7) 16)
   first | rw [hji8] at H | simp only [hji8] at H
   replace ⟨c9b0, H⟩ := ipd H
   replace ⟨c10b0, H⟩ := ipd H
   replace ⟨LMc12, H⟩ := ipa H
   obtain ⟨y401, Ny401⟩ := yA (x3_1 ++ [bt (⟨#[48, 49, 50, 51, 52, 53, 54, 55, 56, 57, 97, 98, 99, 100, 101, 102]⟩ : ByteArray) (ji8)] : List Int)
   rw [← Ny401.out] at H
   have H' := am H
   clear H
   have p11 : 0 ≤ ((ji8) : Int) := oX
   have q11 : (ji8) < (16 : Int) := oX
   have hx11 := bt_at (⟨#[48, 49, 50, 51, 52, 53, 54, 55, 56, 57, 97, 98, 99, 100, 101, 102]⟩ : ByteArray) (ji8)
   replace ⟨p11, q11⟩ := eT p11 q11
   go_wp2_with ((with_reducible refine gate_builtin (b := .append) (xs := #[.tmp 10, .tmp 17]) rfl ?_); at_builtin; refine R_append (Kd.int .u8) (w0 := w) w.heap.size rfl (.tmp 10) (.tmp 17) 22 5 (.int .u8 0) 1 rfl Tryz.underlying22 info5 rfl (by decide) (by omega) u3 x3_1 (bt (⟨#[48, 49, 50, 51, 52, 53, 54, 55, 56, 57, 97, 98, 99, 100, 101, 102]⟩ : ByteArray) (ji8)) [.int .u8 (bt (⟨#[48, 49, 50, 51, 52, 53, 54, 55, 56, 57, 97, 98, 99, 100, 101, 102]⟩ : ByteArray) (ji8))] (fun _ => True) (fun _ => False) rfl rfl ?aP (fun _ hk => hk.elim) ?aF ?aO ?aB ?aS ?aL ?_; (case aP => exact rfl); (case aB => exact (bl HB)); (case aF => exact (fun _ _ => trivial)); (case aO => exact (ra HO_3)); (case aS => exact (below_size (bl HB))); (case aL => have := LMc12.out; omega); intro v402 w13 ho hb hg hat; rw [← Ny401.out] at ho; have n0_ := am (hb); have n1_ := am (ho); clear HB; clear HO_3; have HB := n0_; have HO403 := n1_; clear n0_ n1_; clear ho hb hg hat)
   go_roundg k1
   case measure => have := HK1.out; omega
   case rel => exact ⟨(y401), (wrap64 (x4_1 - 1)), xR, H', ⟨xL HK1⟩, ⟨ra HO403⟩, ⟨bl HB⟩⟩
def spec_l1Sum.f (k : Nat) (a0 : ByteArray) : Option (ByteArray) := (spec_l1Sha.f k a0).bind fun t404 => (if 0 < (t404.length : Int) then ((spec_l1Hex.f k (rd t404 0)).bind fun t408 => (if 1 < (t404.length : Int) then ((spec_l1Hex.f k (rd t404 1)).bind fun t410 => (if t408.size + t410.size ≤ 9223372036854775807 then (some (t408 ++ t410)) else (none))) else (none))) else (none))
def spec_l1Sum.T2 : Bool × List (List Nat × List Nat) := (true, [([], []), ([0], [0]), ([1], [1]), ([2], [2]), ([], []), ([4], [4]), ([5], [5]), ([6, 3], [6]), ([3, 7], [3, 7]), ([8, 7, 0, 1, 2, 3, 4, 5, 6, 7, 8], [8])])
def spec_l1Sum.B2 : List Nat := [0, 1, 3, 7, 0, 16, 48, 127, 255, 511]
theorem spec_l1Sum.tab2 : rtab .any (opsOf Tryz.f47 2) = spec_l1Sum.T2 := by kernel_rfl
theorem spec_l1Sum.bits2 : waitsOk spec_l1Sum.T2.2 spec_l1Sum.B2 = true := by kernel_rfl
theorem spec_l1Sum.calls (k : Nat) (a0 : ByteArray) (r : ByteArray) (w : World) (h : spec_l1Sum.f k a0 = some r) :
  Calls Tryz.prog 47 #[.string a0] w fun e w' => e = .returned (.string r) ∧ Below w.heap.size w w' := by
 have HB := am (Below.refl w.heap.size w)
 have H : ((spec_l1Sha.f k a0).bind fun t404 => (if 0 < (t404.length : Int) then ((spec_l1Hex.f k (rd t404 0)).bind fun t408 => (if 1 < (t404.length : Int) then ((spec_l1Hex.f k (rd t404 1)).bind fun t410 => (if t408.size + t410.size ≤ 9223372036854775807 then (some (t408 ++ t410)) else (none))) else (none))) else (none))) = some r := h
 clear h
 replace ⟨t404, A2, H⟩ := oa H
 replace ⟨c3, H⟩ := ip H
 have c3b0 := dt c3
 have c3b1 : decide (0 < t404.length) = true := dt (by omega)
 clear c3
 replace ⟨t408, A4, H⟩ := oa H
 replace ⟨c5, H⟩ := ip H
 have c5b0 := dt c5
 have c5b1 : decide (1 < t404.length) = true := dt (by omega)
 clear c5
 replace ⟨t410, A6, H⟩ := oa H
 replace ⟨c7, H⟩ := ip H
 have c7b0 := eq_true c7
 have c7b1 := dt c7
 have c7b2 := nf c7
 obtain rfl := oI H
 go_enter Tryz.func47, Tryz.ntmps47
 try go_wp2_with ((with_reducible refine gg ?_); refine gL 5 Tryz.func76 #[.string a0] ?_; (with_reducible refine (spec_l1Sha.calls k a0 t404 _ A2.out).mono ?_); rintro e w8 ⟨v405, rfl, ho0, hb⟩; refine ⟨_, rfl, ?_⟩; have HO406 := am (R_lower ho0 (below_size (bl HB))); replace HB := kH HB hb; (try clear hb); (try clear ho0))
 replace HO406 := am (R_drew HO406.out)
 replace HB := am (below_drew1 HB.out)
 obtain ⟨Ao10, co10, eo10⟩ := R_slice HO406.out
 (first | subst eo10 | (obtain ⟨f4_, f5_⟩ := eS eo10; subst f4_ f5_))
 have p407 : 0 ≤ (0 : Int) := (by omega)
 have q407 : 0 < (t404.length : Int) := oX
 obtain ⟨ad407, e407, hx407_0⟩ := at_int (R_reads' HO406.out).2.2 0 p407 q407
 cases e407
 have qi407 : (0 < t404.length) = True := eq_true (by omega)
 (try rw [show ((0 : Int)).toNat = 0 from rfl] at hx407_0)
 (try rw [Addr.add_zero'] at hx407_0)
 replace ⟨p407, q407⟩ := eT p407 q407
 have p409 : 0 ≤ (1 : Int) := (by omega)
 have q409 : 1 < (t404.length : Int) := oX
 obtain ⟨ad409, e409, hx409_0⟩ := at_int (R_reads' HO406.out).2.2 1 p409 q409
 obtain rfl : ad407 = ad409 := (by injection e409)
 (try simp only [show (1 : Int).toNat = 1 from rfl, Nat.reduceMul, Nat.reduceEqDiff, Go.Addr.add, ↓reduceIte] at hx409_0)
 have qi409 : (1 < t404.length) = True := eq_true (by omega)
 (try rw [show ((1 : Int)).toNat = 1 from rfl] at hx409_0)
 replace ⟨p409, q409⟩ := eT p409 q409
 refine start_ (n := 10) (S := fun w' => w'.cell? ad407 = some (.int .i64 (rd t404 0)) ∧ w'.cell? ⟨ad407.block, ad407.off + 1, none⟩ = some (.int .i64 (rd t404 1))) (ds := []) (bm 10 0) (by kernel_rfl) rfl rfl ⟨hx407_0, hx409_0⟩ (fun hHeld => ?_); refine with_tabW spec_l1Sum.tab2 spec_l1Sum.bits2 (fun HT_ HW_ => ?_)
 generalize w8.drew = w9 at HO406 HB hx407_0 hx409_0 hHeld ⊢
 refine pA 0 6 (bm 10 1) HT_ ?_
 refine pA 1 7 (bm 10 3) HT_ ?_
 refine pA 4 10 (bm 10 19) HT_ ?_
 refine pA 5 11 (bm 10 51) HT_ ?_
 refine tA 2 8 (bm 10 55) HT_ HW_ hHeld ?_
 refine tA 6 12 (bm 10 119) HT_ HW_ hHeld ?_
 refine oA 3 (some 9) (bm 10 127) HT_ fun K hK => ?_
 refine gA Tryz.func77 #[.int .i64 (rd t404 0)] ?_
 with_reducible refine (spec_l1Hex.calls k (rd t404 0) t408 _ A4.out).mono ?_
 rintro e w11 ⟨rfl, hb⟩
 have HS0_ := cB hb hHeld.1
 have HS1_ := cB hb hHeld.2
 refine ⟨_, rfl, ?_⟩
 replace HO406 := rk HO406 hb
 replace HB := kH HB hb
 (try clear hb)
 (try clear hb2)
 (try clear hk)
 (try clear hi)
 refine hK.out _ _ ⟨HS0_, HS1_⟩ (fun hHeld => ?_)
 clear hK K
 refine nA (some 9) ?_
 refine oA 7 (some 13) (bm 10 255) HT_ fun K hK => ?_
 refine gA Tryz.func77 #[.int .i64 (rd t404 1)] ?_
 with_reducible refine (spec_l1Hex.calls k (rd t404 1) t410 _ A6.out).mono ?_
 rintro e w12 ⟨rfl, hb⟩
 have HS0_ := cB hb hHeld.1
 have HS1_ := cB hb hHeld.2
 refine ⟨_, rfl, ?_⟩
 replace HO406 := rk HO406 hb
 replace HB := kH HB hb
 (try clear hb)
 (try clear hb2)
 (try clear hk)
 (try clear hi)
 refine hK.out _ _ ⟨HS0_, HS1_⟩ (fun hHeld => ?_)
 clear hK K
 refine nA (some 13) ?_
 refine pA 8 14 (bm 10 511) HT_ ?_
 refine pA 9 2 (bm 10 1023) HT_ ?_
 refine done_ (done_of HT_.out (by kernel_rfl)) ?_
 try go_wp2
 go_ret
 exact ⟨xE, bl HB⟩
def spec_l3Row.l0 : Nat → List ByteArray → List ByteArray → Int → Option (List ByteArray)
 | 0, _, _, _ => none
 | k + 1, x0, x3, x4 => if x4 < (x0.length : Int) then (if 0 ≤ x4 then (if 5 + (rdOf ByteArray.empty x0 x4).size ≤ 9223372036854775807 then ((spec_l1Sum.f k ((⟨#[105, 116, 101, 109, 32]⟩ : ByteArray) ++ (rdOf ByteArray.empty x0 x4))).bind fun t415 => (if x3.length < 8796093022208 then (spec_l3Row.l0 k x0 (x3 ++ [t415]) (wrap64 (x4 + 1))) else (none))) else (none)) else (none)) else (some x3)
def spec_l3Row.f (k : Nat) (l0 : List ByteArray) : Option (List ByteArray) := spec_l3Row.l0 k l0 (([] : List ByteArray)) 0
theorem spec_l3Row.calls (k : Nat) (A0 : Option Addr) (c0 : Nat) (l0 : List ByteArray) (r : List ByteArray) (w : World) (hr0 : Kd.C Kd.string w A0 l0.length l0) (hc0 : l0.length ≤ c0) (h : spec_l3Row.f k l0 = some r) :
  Calls Tryz.prog 93 #[.slice A0 l0.length c0] w fun e w' => ∃ v0_ : Value, e = .returned (v0_) ∧ Kd.R Kd.string 9 w' w.heap.size (fun _ => True) v0_ r ∧ Below w.heap.size w w' := by
 have HR0 := am hr0
 have HC0 := am hc0
 clear hr0 hc0
 have HB := am (Below.refl w.heap.size w)
 have H : (spec_l3Row.l0 k l0 (([] : List ByteArray)) 0) = some r := h
 clear h
 obtain ⟨y411, Ny411⟩ := yA (([] : List ByteArray) : List ByteArray)
 rw [← Ny411.out] at H
 have H' := am H
 clear H
 go_enter Tryz.func93, Tryz.ntmps93
 go_wp2_with ((with_reducible refine gate_dst (N := 5) rfl ?_); refine R_lit Kd.string _ 9 ?hg (N := 5) ?hd (xs := ([] : List ByteArray)) (inner := []) (ok := fun _ => True) (okp := fun _ => True) ?hr ?hp (fun _ hk => hk) trivial (Below.refl _ _) (Nat.le_refl _) (by simp) ?_; (case hd => rfl); (case hg => rfl); (case hr => first | (go_simp; done) | (go_simp; rfl)); (case hp => exact xP); intro v412 w2 ho3 hb hg_ hnew_; clear hg_ hnew_; (first | rw [← Ny411.out] at ho3 | (simp only [Int.reduceToNat] at ho3; rw [← Ny411.out] at ho3)); have HO413 := am (R_lower ho3 (below_size (bl HB))); replace HB := kH HB hb; clear hb ho3)
 go_loopg [3, 4] k (fun kq v3 v4 w' => ∃ (x3_1 : List ByteArray) (x4_1 : Int), v4 = .int .i64 x4_1 ∧ Aside0 (spec_l3Row.l0 kq l0 x3_1 x4_1 = some r) ∧ Aside0 (kq ≤ k) ∧ Aside0 (Kd.R Kd.string 9 w' w.heap.size (fun _ => True) v3 x3_1) ∧ Aside0 (Below w.heap.size w w'))
 case atStart => exact ⟨(y411), (0), xR, H', ⟨Nat.le_refl _⟩, ⟨ra HO413⟩, ⟨bl HB⟩⟩
 case round =>
  clear H'
  try clear p2
  obtain ⟨x3_1, x4_1, rfl, HA, HK1, HO_3, HB⟩ := hrel
  cases gk with
  | zero => exact absurd HA.out (by simp [spec_l3Row.l0])
  | succ k1 =>
   have H := HA.out
   clear HA
   simp only [spec_l3Row.l0] at H
   by_cases c4 : x4_1 < (l0.length : Int)
   rotate_left
   ·rw [if_neg c4] at H
    have c4b0 := df c4
    clear c4
    obtain rfl := oI H
    go_wp2
    go_ret
    exact ⟨_, xE, ra HO_3, bl HB⟩
   rw [if_pos c4] at H
   have c4b0 := dt c4
   clear c4
   replace ⟨c5b0, H⟩ := ipd H
   replace ⟨c6, H⟩ := ip H
   have c6b0 := eq_true c6
   have c6b1 := dt c6
   have c6b2 := nf c6
   replace ⟨t415, A7, H⟩ := oa H
   replace ⟨LMc8, H⟩ := ipa H
   obtain ⟨y416, Ny416⟩ := yA (x3_1 ++ [t415] : List ByteArray)
   rw [← Ny416.out] at H
   have H' := am H
   clear H
   have p414 : 0 ≤ (x4_1 : Int) := oX
   have q414 : x4_1 < (l0.length : Int) := oX
   obtain ⟨ad414, e414, hx414_0⟩ := at_string (hC HB HR0.out) x4_1 p414 q414
   cases e414
   replace ⟨p414, q414⟩ := eT p414 q414
   go_wp2_with (first | ((with_reducible refine gg ?_); refine gL 18 Tryz.func47 #[.string ((⟨#[105, 116, 101, 109, 32]⟩ : ByteArray) ++ (rdOf ByteArray.empty l0 x4_1))] ?_; (with_reducible refine (spec_l1Sum.calls k1 ((⟨#[105, 116, 101, 109, 32]⟩ : ByteArray) ++ (rdOf ByteArray.empty l0 x4_1)) t415 _ A7.out).mono ?_); rintro e w9 ⟨rfl, hb⟩; refine ⟨_, rfl, ?_⟩; replace HO_3 := rk HO_3 hb; replace HB := kH HB hb; (try clear hb)) | ((with_reducible refine gate_builtin (b := .append) (xs := #[.tmp 12, .tmp 19]) rfl ?_); at_builtin; refine R_append Kd.string (w0 := w) w.heap.size rfl (.tmp 12) (.tmp 19) 53 9 (.string ⟨#[]⟩) 16 rfl Tryz.underlying53 info9 rfl (by decide) (by omega) u3 x3_1 t415 [.string t415] (fun _ => True) (fun _ => False) rfl rfl ?aP (fun _ hk => hk.elim) ?aF ?aO ?aB ?aS ?aL ?_; (case aP => exact rfl); (case aB => exact (bl HB)); (case aF => exact (fun _ _ => trivial)); (case aO => exact (ra HO_3)); (case aS => exact (below_size (bl HB))); (case aL => have := LMc8.out; omega); intro v417 w10 ho hb hg hat; rw [← Ny416.out] at ho; have n0_ := am (hb); have n1_ := am (ho); clear HB; clear HO_3; have HB := n0_; have HO418 := n1_; clear n0_ n1_; clear ho hb hg hat))
   go_roundg k1
   case measure => have := HK1.out; omega
   case rel => exact ⟨(y416), (wrap64 (x4_1 + 1)), xR, H', ⟨xL HK1⟩, ⟨ra HO418⟩, ⟨bl HB⟩⟩

end Go.Proofs.YtgjljbaadglpnaaGreatDoor.PFnPaidGet
