/- Functions of the program and what each answers: the kit's print, shortened (wip/press2.py). -/
import Derived.Test.YtgjljbaadglpnaaDoorPFnExactPaidGetx0
namespace Go.Proofs.YtgjljbaadglpnaaDoor.PFnExactPaidGet
open Go.Proofs.YtgjljbaadglpnaaDoor.Sq Go.RowKit Go.Proofs.YtgjljbaadglpnaaDoorW.PrintWords Go.Proofs.YtgjljbaadglpnaaDoorW.PrintLast Go.Proofs.YtgjljbaadglpnaaDoorW.PrintMore
attribute [local go_sem] max2_int min2_int max_two min_two max_three min_three max_four min_four   -- for this text's walks alone
set_option linter.unusedVariables false
set_option linter.unusedSimpArgs false

-- NOT PRINTED: function 100 (utf8_RuneCountInString)

-- NOT PRINTED: function 115 (utf8_decodeRuneInStringSlow)

-- NOT PRINTED: function 101 (utf8_DecodeRuneInString)

-- NOT PRINTED: function 88 (strings_explode)

-- NOT PRINTED: function 116 (bytealg_IndexByteString)

-- NOT PRINTED: function 103 (stringslite_IndexByte)

-- NOT PRINTED: function 104 (bytealg_IndexString)

-- NOT PRINTED: function 105 (bytealg_Cutover)

-- NOT PRINTED: function 117 (bytealg_hashStr_string)

-- NOT PRINTED: function 106 (bytealg_IndexRabinKarp_string)

-- NOT PRINTED: function 91 (stringslite_Index)

-- NOT PRINTED: function 90 (strings_Index)

-- NOT PRINTED: function 102 (bytealg_CountString)

-- NOT PRINTED: function 89 (strings_Count)

-- NOT PRINTED: function 65 (strings_genSplit)

/-! ### strings_Split: function 32, by the shelf's contract -/
def strings_Split.f (a0 : ByteArray) (a1 : ByteArray) : Option (List ByteArray) := if a0.size < 4294967281 ∧ 1 ≤ a1.size then some (Sh.splitS a0 a1) else none
theorem strings_Split.calls (a0 : ByteArray) (a1 : ByteArray) (r : List ByteArray) (w : World) (h : strings_Split.f a0 a1 = some r) (PQM_ : Aside0 (Sh.HasM w)) :
  Calls Tryd.prog 32 #[.string a0, .string a1] w fun e w' => ∃ v0_ : Value, e = .returned (v0_) ∧ Kd.R Kd.string 9 w' w.heap.size (fun _ => True) v0_ r ∧ Below w.heap.size w w' := by
 unfold strings_Split.f at h
 by_cases hm : a0.size < 4294967281 ∧ 1 ≤ a1.size
 rotate_left
 ·rw [if_neg hm] at h
  exact absurd h (by simp)
 rw [if_pos hm] at h
 obtain rfl := Option.some.inj h
 exact Sh.split_calls a0 a1 hm.1 hm.2 w PQM_.out
/-! ### impl_in: function 67 -/
def impl_in.f (a0 : Int) (a1 : Int) (a2 : Int) : Option (Bool) := if a0 ≥ a1 then (some (decide (a0 ≤ a2))) else (some false)
set_option maxHeartbeats 64000000 in
set_option maxRecDepth 100000 in
theorem impl_in.calls (a0 : Int) (a1 : Int) (a2 : Int) (r : Bool) (w : World) (h : impl_in.f a0 a1 a2 = some r) :
  Calls Tryd.prog 67 #[.int .i64 a0, .int .i64 a1, .int .i64 a2] w fun e w' => e = .returned (.bool r) ∧ Drawn0 w w' := by
 have H : (if a0 ≥ a1 then (some (decide (a0 ≤ a2))) else (some false)) = some r := h
 clear h
 by_cases c4 : a0 ≥ a1
 ·rw [if_pos c4] at H
  have c4b0 := decide_eq_true c4
  clear c4
  obtain rfl := Option.some.inj H
  go_enter Tryd.func67, Tryd.ntmps67
  go_wp2
  go_ret
  exact ⟨xR, xW⟩
 rw [if_neg c4] at H
 have c4b0 := decide_eq_false c4
 clear c4
 obtain rfl := Option.some.inj H
 go_enter Tryd.func67, Tryd.ntmps67
 go_wp2
 go_ret
 exact ⟨xR, xW⟩

/-! ### impl_number: function 34 -/
mutual
def impl_number.j0 : Nat → ByteArray → Bool → Option (Int × Bool)
 | 0, _, _ => none
 | k + 1, x0, x19 => if x19 = true then (some (0, false)) else (impl_number.l0 k x0 0 0)
def impl_number.l0 : Nat → ByteArray → Int → Int → Option (Int × Bool)
 | 0, _, _, _ => none
 | k + 1, x0, x4, x5 => if x5 < (x0.size : Int) then (if 0 ≤ x5 then ((impl_in.f (wrap64 (bt x0 x5)) 48 57).bind fun t249 => (if t249 = true then (impl_number.l0 k x0 (wrap64 ((wrap64 (10 * x4)) + (((bt x0 x5) - 48) % 256))) (wrap64 (x5 + 1))) else (some (0, false)))) else (none)) else (some (x4, true))
end
def impl_number.f (k : Nat) (a0 : ByteArray) : Option (Int × Bool) := (impl_in.f (a0.size : Int) 1 9).bind fun t248 => (if t248 = true then (if 0 < (a0.size : Int) then (if (bt a0 0) = 48 then (impl_number.j0 k a0 (decide ((a0.size : Int) > 1))) else (impl_number.j0 k a0 false)) else (none)) else (impl_number.j0 k a0 true))
theorem impl_number.mono_l : ∀ k, (∀ y0 y1, LeO (impl_number.j0 k y0 y1) (impl_number.j0 (k + 1) y0 y1)) ∧ (∀ y0 y1 y2, LeO (impl_number.l0 k y0 y1 y2) (impl_number.l0 (k + 1) y0 y1 y2))
 | 0 => ⟨fun _ _ r h => by simp [impl_number.j0] at h, fun _ _ _ r h => by simp [impl_number.l0] at h⟩
 | k + 1 => by
  obtain ⟨ih0, ih1⟩ := impl_number.mono_l k
  refine ⟨?_, ?_⟩
  ·intro y0 y1
   unfold impl_number.j0
   exact mo2 ih0 ih1
  ·intro y0 y1 y2
   unfold impl_number.l0
   exact mo2 ih0 ih1
theorem impl_number.mono : ∀ a0 k, LeO (impl_number.f k a0) (impl_number.f (k + 1) a0) := by
 intro a0 k
 obtain ⟨ih0, ih1⟩ := impl_number.mono_l k
 unfold impl_number.f
 exact mo2 ih0 ih1
set_option maxHeartbeats 64000000 in
set_option maxRecDepth 100000 in
theorem impl_number.calls (k : Nat) (a0 : ByteArray) (r1 : Int) (r2 : Bool) (w : World) (h : impl_number.f k a0 = some (r1, r2)) :
  Calls Tryd.prog 34 #[.string a0] w fun e w' => e = .returned (.tuple #[.int .i64 r1, .bool r2]) ∧ Drawn0 w w' := by
 have H : ((impl_in.f (a0.size : Int) 1 9).bind fun t248 => (if t248 = true then (if 0 < (a0.size : Int) then (if (bt a0 0) = 48 then (impl_number.j0 k a0 (decide ((a0.size : Int) > 1))) else (impl_number.j0 k a0 false)) else (none)) else (impl_number.j0 k a0 true))) = some (r1, r2) := h
 clear h
 have HC2 := Aside0.mk H
 clear H
 go_enter Tryd.func34, Tryd.ntmps34
 go_upto_region 1 with (fail)
 go_cut [19] (fun v19 wc => ∃ (kq : Nat) (x19_1 : Bool), v19 = .bool x19_1 ∧ Aside0 (impl_number.j0 kq a0 x19_1 = some (r1, r2)) ∧ Aside0 (kq ≤ k) ∧ Drawn0 w wc)
 case first =>
  have H := HC2.out
  clear HC2
  replace H := oa H
  obtain ⟨t248, A3, H⟩ := H
  by_cases c4 : t248 = true
  rotate_left
  ·replace c4 := Bool.eq_false_iff.mpr c4
   subst c4
   rw [if_neg (show ¬ (false = true) by decide)] at H
   have H' := Aside0.mk H
   clear H
   go_wp2_with ((with_reducible refine gg ?_); refine gL 8 Tryd.func67 #[.int .i64 (a0.size : Int), .int .i64 1, .int .i64 9] ?_; (with_reducible refine (impl_in.calls (a0.size : Int) 1 9 false _ A3.out).mono ?_); rintro e w' ⟨rfl, ⟨nd, rfl⟩⟩; refine ⟨_, rfl, ?_⟩)
   go_meet
   case rel => exact ⟨_, (true), xR, H', ⟨xO⟩, xW⟩
  subst c4
  rw [if_pos rfl] at H
  replace H := ip H
  obtain ⟨c5, H⟩ := H
  have c5b0 := decide_eq_true c5
  have c5b1 : decide (0 < a0.size) = true := decide_eq_true (by omega)
  clear c5
  (first | rw [c5b0] | (simp only [i64_w, i32_w]; rw [c5b0]) | skip)
  by_cases c7 : (bt a0 0) = 48
  rotate_left
  ·rw [if_neg c7] at H
   have c7b0 := beq_eq_false_iff_ne.mpr c7
   have c7b1 := bne_iff_ne.mpr c7
   have H' := Aside0.mk H
   clear H
   go_wp2_with ((with_reducible refine gg ?_); refine gL 8 Tryd.func67 #[.int .i64 (a0.size : Int), .int .i64 1, .int .i64 9] ?_; (with_reducible refine (impl_in.calls (a0.size : Int) 1 9 true _ A3.out).mono ?_); rintro e w' ⟨rfl, ⟨nd, rfl⟩⟩; refine ⟨_, rfl, ?_⟩; have p6 : 0 ≤ (0 : Int) := (by omega); have q6 : 0 < a0.size := (by have : (0 : Int) < (a0.size : Int) := of_decide_eq_true xA; omega); have hx6 : ∀ h : 0 < a0.size, ((a0[0]'h).toNat : Int) = bt a0 0 := bt_at a0 0; clear p6; have qi6 : (0 < (a0.size : Int)) = True := eq_true (of_decide_eq_true xA); replace q6 := eq_true q6)
   go_meet
   case rel => exact ⟨_, (false), xR, H', ⟨xO⟩, xW⟩
  rw [if_pos c7] at H
  have c7b0 := beq_iff_eq.mpr c7
  have c7b1 := bne_eq_false_iff_eq.mpr c7
  clear c7
  have H' := Aside0.mk H
  clear H
  go_wp2_with ((with_reducible refine gg ?_); refine gL 8 Tryd.func67 #[.int .i64 (a0.size : Int), .int .i64 1, .int .i64 9] ?_; (with_reducible refine (impl_in.calls (a0.size : Int) 1 9 true _ A3.out).mono ?_); rintro e w' ⟨rfl, ⟨nd, rfl⟩⟩; refine ⟨_, rfl, ?_⟩; have p6 : 0 ≤ (0 : Int) := (by omega); have q6 : 0 < a0.size := (by have : (0 : Int) < (a0.size : Int) := of_decide_eq_true xA; omega); have hx6 : ∀ h : 0 < a0.size, ((a0[0]'h).toNat : Int) = bt a0 0 := bt_at a0 0; clear p6; have qi6 : (0 < (a0.size : Int)) = True := eq_true (of_decide_eq_true xA); replace q6 := eq_true q6)
  go_meet
  case rel => exact ⟨_, (decide ((a0.size : Int) > 1)), xR, H', ⟨xO⟩, xW⟩
 case rest =>
  clear HC2
  try clear p2
  try clear c3
  try clear c4
  try clear c5
  try clear c5b0
  try clear c5b1
  try clear c6
  try clear p6
  try clear q6
  try clear hx6
  try clear qi6
  try clear c7
  try clear c7b0
  try clear c7b1
  try clear p6
  try clear q6
  obtain ⟨kq, x19_1, rfl, HA, HJ1, ⟨mc1, rfl⟩⟩ := hcut
  cases kq with
  | zero => exact absurd HA.out (by simp [impl_number.j0])
  | succ kj1 =>
   have H := HA.out
   clear HA
   simp only [impl_number.j0] at H
   by_cases c8 : x19_1 = true
   ·subst c8
    rw [if_pos rfl] at H
    simp only [Option.some.injEq, Prod.mk.injEq] at H
    obtain ⟨rfl, rfl⟩ := H
    go_wp2
    go_ret2
    exact ⟨xR, xW⟩
   replace c8 := Bool.eq_false_iff.mpr c8
   subst c8
   rw [if_neg (show ¬ (false = true) by decide)] at H
   have H' := Aside0.mk H
   clear H
   go_wp2
   go_loopg [4, 5] kj1 (fun kq v4 v5 w' => ∃ (x4_2 : Int) (x5_2 : Int), v4 = .int .i64 x4_2 ∧ v5 = .int .i64 x5_2 ∧ Aside0 (impl_number.l0 kq a0 x4_2 x5_2 = some (r1, r2)) ∧ Aside0 (kq ≤ kj1) ∧ Drawn0 w w')
   case atStart => exact ⟨(0), (0), xR, xR, H', ⟨Nat.le_refl _⟩, xW⟩
   case round =>
    clear H'
    try clear c1
    try clear p2
    try clear c3
    try clear c4
    try clear c5
    try clear c5b0
    try clear c5b1
    try clear c6
    try clear p6
    try clear q6
    try clear hx6
    try clear qi6
    try clear c7
    try clear c7b0
    try clear c7b1
    try clear c8
    try clear p2
    try clear p6
    try clear q6
    obtain ⟨x4_2, x5_2, rfl, rfl, HA, HK2, ⟨m2, rfl⟩⟩ := hrel
    cases gk with
    | zero => exact absurd HA.out (by simp [impl_number.l0])
    | succ k2 =>
     have H := HA.out
     clear HA
     simp only [impl_number.l0] at H
     by_cases c9 : x5_2 < (a0.size : Int)
     rotate_left
     ·rw [if_neg c9] at H
      have c9b0 := decide_eq_false c9
      clear c9
      simp only [Option.some.injEq, Prod.mk.injEq] at H
      obtain ⟨rfl, rfl⟩ := H
      go_wp2
      go_ret2
      exact ⟨xR, xW⟩
     rw [if_pos c9] at H
     have c9b0 := decide_eq_true c9
     clear c9
     replace H := ipd H
     obtain ⟨c10b0, H⟩ := H
     replace H := oa H
     obtain ⟨t249, A12, H⟩ := H
     have p11 : 0 ≤ (x5_2 : Int) := of_decide_eq_true xA
     have q11 : x5_2 < (a0.size : Int) := of_decide_eq_true xA
     have hx11 := bt_at a0 x5_2
     replace p11 := eq_true p11
     replace q11 := eq_true q11
     go_upto_if 31 with ((with_reducible refine gg ?_); refine gL 30 Tryd.func67 #[.int .i64 (wrap64 (bt a0 x5_2)), .int .i64 48, .int .i64 57] ?_; (with_reducible refine (impl_in.calls (wrap64 (bt a0 x5_2)) 48 57 t249 _ A12.out).mono ?_); rintro e w' ⟨rfl, ⟨nd, rfl⟩⟩; refine ⟨_, rfl, ?_⟩)
     by_cases c13 : t249 = true
     rotate_left
     ·replace c13 := Bool.eq_false_iff.mpr c13
      subst c13
      try simp only [Bool.not_true, Bool.not_false]
      rw [if_neg (show ¬ (false = true) by decide)] at H
      simp only [Option.some.injEq, Prod.mk.injEq] at H
      obtain ⟨rfl, rfl⟩ := H
      go_wp2
      go_ret2
      exact ⟨xR, xW⟩
     subst c13
     try simp only [Bool.not_true, Bool.not_false]
     rw [if_pos rfl] at H
     have H' := Aside0.mk H
     clear H
     have p14 : 0 ≤ (x5_2 : Int) := of_decide_eq_true xA
     have q14 : x5_2 < (a0.size : Int) := of_decide_eq_true xA
     have hx14 := bt_at a0 x5_2
     replace p14 := eq_true p14
     replace q14 := eq_true q14
     go_wp2
     go_roundg k2
     case measure => have := HJ1.out; have := HK2.out; omega
     case rel => exact ⟨(wrap64 ((wrap64 (10 * x4_2)) + (((bt a0 x5_2) - 48) % 256))), (wrap64 (x5_2 + 1)), xR, xR, H', ⟨by have := HJ1.out; have := HK2.out; omega⟩, xW⟩

/-! ### impl_isSum: function 75 -/
def impl_isSum.l0 : Nat → ByteArray → Int → Option (Bool)
 | 0, _, _ => none
 | k + 1, x0, x3 => if x3 < (x0.size : Int) then (if 0 ≤ x3 then ((impl_in.f (wrap64 (bt x0 x3)) 48 57).bind fun t250 => (if t250 = true then (impl_isSum.l0 k x0 (wrap64 (x3 + 1))) else ((impl_in.f (wrap64 (bt x0 x3)) 97 102).bind fun t251 => (if t251 = true then (impl_isSum.l0 k x0 (wrap64 (x3 + 1))) else (some false))))) else (none)) else (some ((x0.size : Int) == 16))
def impl_isSum.f (k : Nat) (a0 : ByteArray) : Option (Bool) := impl_isSum.l0 k a0 0
theorem impl_isSum.mono_l : ∀ k, (∀ y0 y1, LeO (impl_isSum.l0 k y0 y1) (impl_isSum.l0 (k + 1) y0 y1))
 | 0 => fun _ _ r h => by simp [impl_isSum.l0] at h
 | k + 1 => by
  have ih0 := impl_isSum.mono_l k
  ·intro y0 y1
   unfold impl_isSum.l0
   exact mo1 ih0
theorem impl_isSum.mono : ∀ a0 k, LeO (impl_isSum.f k a0) (impl_isSum.f (k + 1) a0) := by
 intro a0 k
 have ih0 := impl_isSum.mono_l k
 unfold impl_isSum.f
 exact mo1 ih0
set_option maxHeartbeats 64000000 in
set_option maxRecDepth 100000 in
theorem impl_isSum.calls (k : Nat) (a0 : ByteArray) (r : Bool) (w : World) (h : impl_isSum.f k a0 = some r) :
  Calls Tryd.prog 75 #[.string a0] w fun e w' => e = .returned (.bool r) ∧ Drawn0 w w' := by
 have H : (impl_isSum.l0 k a0 0) = some r := h
 clear h
 have H' := Aside0.mk H
 clear H
 go_enter Tryd.func75, Tryd.ntmps75
 go_wp2
 go_loopg [3] k (fun kq v3 w' => ∃ (x3_1 : Int), v3 = .int .i64 x3_1 ∧ Aside0 (impl_isSum.l0 kq a0 x3_1 = some r) ∧ Aside0 (kq ≤ k) ∧ Drawn0 w w')
 case atStart => exact ⟨(0), xR, H', ⟨Nat.le_refl _⟩, xW⟩
 case round =>
  clear H'
  obtain ⟨x3_1, rfl, HA, HK1, ⟨m1, rfl⟩⟩ := hrel
  cases gk with
  | zero => exact absurd HA.out (by simp [impl_isSum.l0])
  | succ k1 =>
   have H := HA.out
   clear HA
   simp only [impl_isSum.l0] at H
   by_cases c2 : x3_1 < (a0.size : Int)
   rotate_left
   ·rw [if_neg c2] at H
    have c2b0 := decide_eq_false c2
    clear c2
    obtain rfl := Option.some.inj H
    go_wp2
    go_ret
    exact ⟨xR, xW⟩
   rw [if_pos c2] at H
   have c2b0 := decide_eq_true c2
   clear c2
   replace H := ipd H
   obtain ⟨c3b0, H⟩ := H
   replace H := oa H
   obtain ⟨t250, A5, H⟩ := H
   by_cases c6 : t250 = true
   ·subst c6
    rw [if_pos rfl] at H
    have H' := Aside0.mk H
    clear H
    have p4 : 0 ≤ (x3_1 : Int) := of_decide_eq_true xA
    have q4 : x3_1 < (a0.size : Int) := of_decide_eq_true xA
    have hx4 := bt_at a0 x3_1
    replace p4 := eq_true p4
    replace q4 := eq_true q4
    go_wp2_with ((with_reducible refine gg ?_); refine gL 14 Tryd.func67 #[.int .i64 (wrap64 (bt a0 x3_1)), .int .i64 48, .int .i64 57] ?_; (with_reducible refine (impl_in.calls (wrap64 (bt a0 x3_1)) 48 57 true _ A5.out).mono ?_); rintro e w' ⟨rfl, ⟨nd, rfl⟩⟩; refine ⟨_, rfl, ?_⟩)
    go_roundg k1
    case measure => have := HK1.out; omega
    case rel => exact ⟨(wrap64 (x3_1 + 1)), xR, H', ⟨xL HK1⟩, xW⟩
   replace c6 := Bool.eq_false_iff.mpr c6
   subst c6
   rw [if_neg (show ¬ (false = true) by decide)] at H
   replace H := oa H
   obtain ⟨t251, A8, H⟩ := H
   have p4 : 0 ≤ (x3_1 : Int) := of_decide_eq_true xA
   have q4 : x3_1 < (a0.size : Int) := of_decide_eq_true xA
   have hx4 := bt_at a0 x3_1
   replace p4 := eq_true p4
   replace q4 := eq_true q4
   go_upto_if 23 with (first | ((with_reducible refine gg ?_); refine gL 14 Tryd.func67 #[.int .i64 (wrap64 (bt a0 x3_1)), .int .i64 48, .int .i64 57] ?_; (with_reducible refine (impl_in.calls (wrap64 (bt a0 x3_1)) 48 57 false _ A5.out).mono ?_); rintro e w' ⟨rfl, ⟨nd, rfl⟩⟩; refine ⟨_, rfl, ?_⟩; have p7 : 0 ≤ (x3_1 : Int) := of_decide_eq_true xA; have q7 : x3_1 < (a0.size : Int) := of_decide_eq_true xA; have hx7 := bt_at a0 x3_1; replace p7 := eq_true p7; replace q7 := eq_true q7) | (go_at_call 67; (with_reducible refine (impl_in.calls (wrap64 (bt a0 x3_1)) 97 102 t251 _ A8.out).mono ?_); rintro e w' ⟨rfl, ⟨nd, rfl⟩⟩))
   by_cases c9 : t251 = true
   rotate_left
   ·replace c9 := Bool.eq_false_iff.mpr c9
    subst c9
    try simp only [Bool.not_true, Bool.not_false]
    rw [if_neg (show ¬ (false = true) by decide)] at H
    obtain rfl := Option.some.inj H
    go_wp2
    go_ret
    exact ⟨xR, xW⟩
   subst c9
   try simp only [Bool.not_true, Bool.not_false]
   rw [if_pos rfl] at H
   have H' := Aside0.mk H
   clear H
   go_wp2
   go_roundg k1
   case measure => have := HK1.out; omega
   case rel => exact ⟨(wrap64 (x3_1 + 1)), xR, H', ⟨xL HK1⟩, xW⟩

/-! ### impl_headOk: function 45 -/
def impl_headOk.f (k : Nat) (a0_0 : ByteArray) (a0_1 : ByteArray) (a0_2 : Int) (a0_3 : Int) (a0_4 : Int) : Option (Bool) := (impl_isSum.f k a0_0).bind fun t253 => (if t253 = true then ((impl_isSum.f k a0_1).bind fun t254 => (if t254 = true then ((impl_in.f a0_2 0 99999).bind fun t255 => (if t255 = true then ((impl_in.f a0_3 1 8).bind fun t256 => (if t256 = true then ((impl_in.f a0_4 0 400).bind fun t257 => (some t257)) else (some false))) else (some false))) else (some false))) else (some false))
theorem impl_headOk.mono : ∀ a0 a1 a2 a3 a4 k, LeO (impl_headOk.f k a0 a1 a2 a3 a4) (impl_headOk.f (k + 1) a0 a1 a2 a3 a4) := by
 intro a0 a1 a2 a3 a4 k
 unfold impl_headOk.f
 exact mo1 impl_isSum.mono
set_option maxHeartbeats 64000000 in
set_option maxRecDepth 100000 in
theorem impl_headOk.calls (k : Nat) (a0_0 : ByteArray) (a0_1 : ByteArray) (a0_2 : Int) (a0_3 : Int) (a0_4 : Int) (r : Bool) (w : World) (h : impl_headOk.f k a0_0 a0_1 a0_2 a0_3 a0_4 = some r) :
  Calls Tryd.prog 45 #[.agg #[.string a0_0, .string a0_1, .int .i64 a0_2, .int .i64 a0_3, .int .i64 a0_4]] w fun e w' => e = .returned (.bool r) ∧ Below w.heap.size w w' := by
 have hu23 := Tryd.underlying23
 have HB := Aside0.mk (Below.refl w.heap.size w)
 have H : ((impl_isSum.f k a0_0).bind fun t253 => (if t253 = true then ((impl_isSum.f k a0_1).bind fun t254 => (if t254 = true then ((impl_in.f a0_2 0 99999).bind fun t255 => (if t255 = true then ((impl_in.f a0_3 1 8).bind fun t256 => (if t256 = true then ((impl_in.f a0_4 0 400).bind fun t257 => (some t257)) else (some false))) else (some false))) else (some false))) else (some false))) = some r := h
 clear h
 replace H := oa H
 obtain ⟨t253, A2, H⟩ := H
 go_enter Tryd.func45, Tryd.ntmps45
 go_upto_region 1 with ((with_reducible refine gg ?_); refine bE 1 #[.string a0_0, .string a0_1, .int .i64 a0_2, .int .i64 a0_3, .int .i64 a0_4] 23 ?_; intro gb252 hg w11 hbox hb; have BK252 := am (hbox); have GW252 := zB hg HB; have GE252 := zB hg HB; replace HB := kH HB hb; clear hb hbox hg; have hz12 := bc5 BK252)
 by_cases c3 : t253 = true
 rotate_left
 ·replace c3 := Bool.eq_false_iff.mpr c3
  subst c3
  try simp only [Bool.not_true, Bool.not_false]
  rw [if_neg (show ¬ (false = true) by decide)] at H
  obtain rfl := Option.some.inj H
  go_wp2_with ((with_reducible refine gg ?_); refine gL 5 Tryd.func75 #[.string a0_0] ?_; (with_reducible refine (impl_isSum.calls k a0_0 false _ A2.out).mono ?_); rintro e w' ⟨rfl, ⟨nd, rfl⟩⟩; refine ⟨_, rfl, ?_⟩)
  go_ret
  exact ⟨xE, xB HB⟩
 subst c3
 try simp only [Bool.not_true, Bool.not_false]
 rw [if_pos rfl] at H
 replace H := oa H
 obtain ⟨t254, A4, H⟩ := H
 by_cases c5 : t254 = true
 rotate_left
 ·replace c5 := Bool.eq_false_iff.mpr c5
  subst c5
  rw [if_neg (show ¬ (false = true) by decide)] at H
  obtain rfl := Option.some.inj H
  go_wp2_with (first | ((with_reducible refine gg ?_); refine gL 5 Tryd.func75 #[.string a0_0] ?_; (with_reducible refine (impl_isSum.calls k a0_0 true _ A2.out).mono ?_); rintro e w' ⟨rfl, ⟨nd, rfl⟩⟩; refine ⟨_, rfl, ?_⟩) | (go_at_call 75; (with_reducible refine (impl_isSum.calls k a0_1 false _ A4.out).mono ?_); rintro e w' ⟨rfl, ⟨nd, rfl⟩⟩))
  go_ret
  exact ⟨xE, xB HB⟩
 subst c5
 rw [if_pos rfl] at H
 replace H := oa H
 obtain ⟨t255, A6, H⟩ := H
 by_cases c7 : t255 = true
 rotate_left
 ·replace c7 := Bool.eq_false_iff.mpr c7
  subst c7
  rw [if_neg (show ¬ (false = true) by decide)] at H
  obtain rfl := Option.some.inj H
  go_wp2_with (first | ((with_reducible refine gg ?_); refine gL 5 Tryd.func75 #[.string a0_0] ?_; (with_reducible refine (impl_isSum.calls k a0_0 true _ A2.out).mono ?_); rintro e w' ⟨rfl, ⟨nd, rfl⟩⟩; refine ⟨_, rfl, ?_⟩) | (go_at_call 75; (with_reducible refine (impl_isSum.calls k a0_1 true _ A4.out).mono ?_); rintro e w' ⟨rfl, ⟨nd, rfl⟩⟩) | (go_at_call 67; (with_reducible refine (impl_in.calls a0_2 0 99999 false _ A6.out).mono ?_); rintro e w' ⟨rfl, ⟨nd, rfl⟩⟩))
  go_ret
  exact ⟨xE, xB HB⟩
 subst c7
 rw [if_pos rfl] at H
 replace H := oa H
 obtain ⟨t256, A8, H⟩ := H
 by_cases c9 : t256 = true
 rotate_left
 ·replace c9 := Bool.eq_false_iff.mpr c9
  subst c9
  rw [if_neg (show ¬ (false = true) by decide)] at H
  obtain rfl := Option.some.inj H
  go_wp2_with (first | ((with_reducible refine gg ?_); refine gL 5 Tryd.func75 #[.string a0_0] ?_; (with_reducible refine (impl_isSum.calls k a0_0 true _ A2.out).mono ?_); rintro e w' ⟨rfl, ⟨nd, rfl⟩⟩; refine ⟨_, rfl, ?_⟩) | (go_at_call 75; (with_reducible refine (impl_isSum.calls k a0_1 true _ A4.out).mono ?_); rintro e w' ⟨rfl, ⟨nd, rfl⟩⟩) | (go_at_call 67; (with_reducible refine (impl_in.calls a0_2 0 99999 true _ A6.out).mono ?_); rintro e w' ⟨rfl, ⟨nd, rfl⟩⟩) | (go_at_call 67; (with_reducible refine (impl_in.calls a0_3 1 8 false _ A8.out).mono ?_); rintro e w' ⟨rfl, ⟨nd, rfl⟩⟩))
  go_ret
  exact ⟨xE, xB HB⟩
 subst c9
 rw [if_pos rfl] at H
 replace H := oa H
 obtain ⟨t257, A10, H⟩ := H
 obtain rfl := Option.some.inj H
 go_wp2_with (first | ((with_reducible refine gg ?_); refine gL 5 Tryd.func75 #[.string a0_0] ?_; (with_reducible refine (impl_isSum.calls k a0_0 true _ A2.out).mono ?_); rintro e w' ⟨rfl, ⟨nd, rfl⟩⟩; refine ⟨_, rfl, ?_⟩) | (go_at_call 75; (with_reducible refine (impl_isSum.calls k a0_1 true _ A4.out).mono ?_); rintro e w' ⟨rfl, ⟨nd, rfl⟩⟩) | (go_at_call 67; (with_reducible refine (impl_in.calls a0_2 0 99999 true _ A6.out).mono ?_); rintro e w' ⟨rfl, ⟨nd, rfl⟩⟩) | (go_at_call 67; (with_reducible refine (impl_in.calls a0_3 1 8 true _ A8.out).mono ?_); rintro e w' ⟨rfl, ⟨nd, rfl⟩⟩) | (go_at_call 67; (with_reducible refine (impl_in.calls a0_4 0 400 t257 _ A10.out).mono ?_); rintro e w' ⟨rfl, ⟨nd, rfl⟩⟩))
 go_ret
 exact ⟨xE, xB HB⟩


/-! ### impl_HeadGet: function 18 -/
def impl_HeadGet.f (k : Nat) (a0 : ByteArray) : Option (ByteArray × ByteArray × Int × Int × Int × Bool) := (strings_Split.f a0 (⟨#[32]⟩ : ByteArray)).bind fun t259 => (if (t259.length : Int) = 5 then (if 2 < (t259.length : Int) then ((impl_number.f k (rdOf ByteArray.empty t259 2)).bind fun bt263 => (if 3 < (t259.length : Int) then ((impl_number.f k (rdOf ByteArray.empty t259 3)).bind fun bt266 => (if 4 < (t259.length : Int) then ((impl_number.f k (rdOf ByteArray.empty t259 4)).bind fun bt269 => (if 0 < (t259.length : Int) then (if 1 < (t259.length : Int) then (if bt263.2 = true then (if bt266.2 = true then (if bt269.2 = true then ((impl_headOk.f k (rdOf ByteArray.empty t259 0) (rdOf ByteArray.empty t259 1) bt263.1 bt266.1 bt269.1).bind fun t274 => (if t274 = true then (some (rdOf ByteArray.empty t259 0, rdOf ByteArray.empty t259 1, bt263.1, bt266.1, bt269.1, true)) else (some ((⟨#[]⟩ : ByteArray), (⟨#[]⟩ : ByteArray), 0, 0, 0, false)))) else (some ((⟨#[]⟩ : ByteArray), (⟨#[]⟩ : ByteArray), 0, 0, 0, false))) else (some ((⟨#[]⟩ : ByteArray), (⟨#[]⟩ : ByteArray), 0, 0, 0, false))) else (some ((⟨#[]⟩ : ByteArray), (⟨#[]⟩ : ByteArray), 0, 0, 0, false))) else (none)) else (none))) else (none))) else (none))) else (none)) else (some ((⟨#[]⟩ : ByteArray), (⟨#[]⟩ : ByteArray), 0, 0, 0, false)))
theorem impl_HeadGet.mono : ∀ a0 k, LeO (impl_HeadGet.f k a0) (impl_HeadGet.f (k + 1) a0) := by
 intro a0 k
 unfold impl_HeadGet.f
 exact mo2 impl_headOk.mono impl_number.mono
def impl_HeadGet.T7 : Bool × List (List Nat × List Nat) := (true, [([], []), ([0], [0]), ([1], [1]), ([], []), ([3], [3]), ([4], [4]), ([], []), ([], []), ([], []), ([2, 5, 6, 7, 8], [2, 5, 6, 7, 8]), ([], []), ([10, 9, 0, 1, 2, 3, 4, 5, 6, 7, 8, 9, 10], [9, 10])])
def impl_HeadGet.B7 : List Nat := [0, 1, 3, 0, 8, 24, 0, 0, 0, 511, 0, 2047]
theorem impl_HeadGet.tab7 : rtab .any (opsOf Tryd.f18 7) = impl_HeadGet.T7 := by kernel_rfl
theorem impl_HeadGet.bits7 : waitsOk impl_HeadGet.T7.2 impl_HeadGet.B7 = true := by kernel_rfl
set_option maxHeartbeats 64000000 in
set_option maxRecDepth 100000 in
theorem impl_HeadGet.calls (k : Nat) (a0 : ByteArray) (r1 : ByteArray) (r2 : ByteArray) (r3 : Int) (r4 : Int) (r5 : Int) (r6 : Bool) (w : World) (h : impl_HeadGet.f k a0 = some (r1, r2, r3, r4, r5, r6)) (PQM_ : Aside0 (Sh.HasM w)) :
  Calls Tryd.prog 18 #[.string a0] w fun e w' => e = .returned (.tuple #[.agg #[.string r1, .string r2, .int .i64 r3, .int .i64 r4, .int .i64 r5], .bool r6]) ∧ Below w.heap.size w w' := by
 have hu23 := Tryd.underlying23
 have HB := Aside0.mk (Below.refl w.heap.size w)
 have H : ((strings_Split.f a0 (⟨#[32]⟩ : ByteArray)).bind fun t259 => (if (t259.length : Int) = 5 then (if 2 < (t259.length : Int) then ((impl_number.f k (rdOf ByteArray.empty t259 2)).bind fun bt263 => (if 3 < (t259.length : Int) then ((impl_number.f k (rdOf ByteArray.empty t259 3)).bind fun bt266 => (if 4 < (t259.length : Int) then ((impl_number.f k (rdOf ByteArray.empty t259 4)).bind fun bt269 => (if 0 < (t259.length : Int) then (if 1 < (t259.length : Int) then (if bt263.2 = true then (if bt266.2 = true then (if bt269.2 = true then ((impl_headOk.f k (rdOf ByteArray.empty t259 0) (rdOf ByteArray.empty t259 1) bt263.1 bt266.1 bt269.1).bind fun t274 => (if t274 = true then (some (rdOf ByteArray.empty t259 0, rdOf ByteArray.empty t259 1, bt263.1, bt266.1, bt269.1, true)) else (some ((⟨#[]⟩ : ByteArray), (⟨#[]⟩ : ByteArray), 0, 0, 0, false)))) else (some ((⟨#[]⟩ : ByteArray), (⟨#[]⟩ : ByteArray), 0, 0, 0, false))) else (some ((⟨#[]⟩ : ByteArray), (⟨#[]⟩ : ByteArray), 0, 0, 0, false))) else (some ((⟨#[]⟩ : ByteArray), (⟨#[]⟩ : ByteArray), 0, 0, 0, false))) else (none)) else (none))) else (none))) else (none))) else (none)) else (some ((⟨#[]⟩ : ByteArray), (⟨#[]⟩ : ByteArray), 0, 0, 0, false)))) = some (r1, r2, r3, r4, r5, r6) := h
 clear h
 replace H := oa H
 obtain ⟨t259, A2, H⟩ := H
 go_enter Tryd.func18, Tryd.ntmps18
 go_upto_if 16 with ((with_reducible refine gg ?_); first | (refine bE 2 #[.string (⟨#[]⟩ : ByteArray), .string (⟨#[]⟩ : ByteArray), .int .i64 0, .int .i64 0, .int .i64 0] 23 ?_; intro gb258 hg w17 hbox hb; have BK258 := am (hbox); have GW258 := zB hg HB; have GE258 := zB hg HB; replace HB := kH HB hb; clear hb hbox hg) | (refine gL 13 Tryd.func32 #[.string a0, .string (⟨#[32]⟩ : ByteArray)] ?_; (with_reducible refine (strings_Split.calls a0 (⟨#[32]⟩ : ByteArray) t259 _ A2.out (Aside0.mk (Sh.hasM_of PQM_ (xB HB)))).mono ?_); rintro e w18 ⟨v260, rfl, ho0, hb⟩; refine ⟨_, rfl, ?_⟩; have HO261 := am (Kd.R_lower ho0 (below_size (xB HB))); replace BK258 := kP _ BK258 hb; replace HB := kH HB hb; (try clear hb); (try clear ho0); obtain ⟨Ao19, co19, eo19⟩ := Kd.R_slice HO261.out; subst eo19))
 by_cases c3 : (t259.length : Int) = 5
 rotate_left
 ·rw [if_neg c3] at H
  have c3b0 := beq_eq_false_iff_ne.mpr c3
  have c3b1 := bne_iff_ne.mpr c3
  try simp only [c3b0, c3b1]
  simp only [Option.some.injEq, Prod.mk.injEq] at H
  obtain ⟨rfl, rfl, rfl, rfl, rfl, rfl⟩ := H
  have hz85 := bc5 BK258
  go_wp2
  refine bodyPost_ret (results_ct rfl _ _ gb258 23 #[.string (⟨#[]⟩ : ByteArray), .string (⟨#[]⟩ : ByteArray), .int .i64 0, .int .i64 0, .int .i64 0] (0, 0) _ rfl (fb BK258) Tryd.underlying23 rfl (by kernel_rfl)) rfl ?_
  exact ⟨xE, xB HB⟩
 rw [if_pos c3] at H
 have c3b0 := beq_iff_eq.mpr c3
 have c3b1 := bne_eq_false_iff_eq.mpr c3
 try simp only [c3b0, c3b1]
 clear c3
 replace H := ip H
 obtain ⟨c4, H⟩ := H
 have c4b0 := decide_eq_true c4
 have c4b1 : decide (2 < t259.length) = true := decide_eq_true (by omega)
 clear c4
 replace H := Option.bind_eq_some_iff.mp H
 obtain ⟨⟨t263, t264⟩, A50, H⟩ := H
 have A5 := Aside0.mk A50
 clear A50
 replace H := ip H
 obtain ⟨c6, H⟩ := H
 have c6b0 := decide_eq_true c6
 have c6b1 : decide (3 < t259.length) = true := decide_eq_true (by omega)
 clear c6
 replace H := Option.bind_eq_some_iff.mp H
 obtain ⟨⟨t266, t267⟩, A70, H⟩ := H
 have A7 := Aside0.mk A70
 clear A70
 replace H := ip H
 obtain ⟨c8, H⟩ := H
 have c8b0 := decide_eq_true c8
 have c8b1 : decide (4 < t259.length) = true := decide_eq_true (by omega)
 clear c8
 replace H := Option.bind_eq_some_iff.mp H
 obtain ⟨⟨t269, t270⟩, A90, H⟩ := H
 have A9 := Aside0.mk A90
 clear A90
 replace H := ip H
 obtain ⟨c10, H⟩ := H
 have c10b0 := decide_eq_true c10
 have c10b1 : decide (0 < t259.length) = true := decide_eq_true (by omega)
 clear c10
 replace H := ip H
 obtain ⟨c11, H⟩ := H
 have c11b0 := decide_eq_true c11
 have c11b1 : decide (1 < t259.length) = true := decide_eq_true (by omega)
 clear c11
 have p262 : 0 ≤ (2 : Int) := (by omega)
 have q262 : 2 < (t259.length : Int) := of_decide_eq_true xA
 obtain ⟨ad262, e262, hx262_0⟩ := Kd.at_string (Kd.R_reads' HO261.out).2.2 2 p262 q262
 cases e262
 (try simp only [show (2 : Int).toNat = 2 from rfl, Nat.reduceMul, Nat.reduceEqDiff, Go.Addr.add, ↓reduceIte] at hx262_0)
 have qi262 : (2 < t259.length) = True := eq_true (by omega)
 (try rw [show ((2 : Int)).toNat = 2 from rfl] at hx262_0)
 replace p262 := eq_true p262
 replace q262 := eq_true q262
 try go_wp2_with ((with_reducible refine gg ?_); first | (refine gL 22 Tryd.func34 #[.string (rdOf ByteArray.empty t259 2)] ?_; (with_reducible refine (impl_number.calls k (rdOf ByteArray.empty t259 2) t263 t264 _ A5.out).mono ?_); rintro e w' ⟨rfl, ⟨nd, rfl⟩⟩; refine ⟨_, rfl, ?_⟩; (try (rw [drewN_self w18]; generalize hq_ : World.drewN w18 _ = w18; have n0_ := dR hq_ HO261; have n1_ := dK hq_ BK258; have n2_ := dB hq_ HB; clear HO261 BK258 HB hq_; have HO261 := n0_; have BK258 := n1_; have HB := n2_; clear n0_ n1_ n2_)); have p265 : 0 ≤ (3 : Int) := (by omega); have q265 : 3 < (t259.length : Int) := of_decide_eq_true xA; obtain ⟨ad265, e265, hx265_0⟩ := Kd.at_string (Kd.R_reads' HO261.out).2.2 3 p265 q265; obtain rfl : ad262 = ad265 := (by injection e265); (try simp only [show (3 : Int).toNat = 3 from rfl, Nat.reduceMul, Nat.reduceEqDiff, Go.Addr.add, ↓reduceIte] at hx265_0); have qi265 : (3 < t259.length) = True := eq_true (by omega); (try rw [show ((3 : Int)).toNat = 3 from rfl] at hx265_0); replace p265 := eq_true p265; replace q265 := eq_true q265) | (refine gL 29 Tryd.func34 #[.string (rdOf ByteArray.empty t259 3)] ?_; (with_reducible refine (impl_number.calls k (rdOf ByteArray.empty t259 3) t266 t267 _ A7.out).mono ?_); rintro e w' ⟨rfl, ⟨nd, rfl⟩⟩; refine ⟨_, rfl, ?_⟩; (try (rw [drewN_self w18]; generalize hq_ : World.drewN w18 _ = w18; have n0_ := dR hq_ HO261; have n1_ := dK hq_ BK258; have n2_ := dB hq_ HB; clear HO261 BK258 HB hq_; have HO261 := n0_; have BK258 := n1_; have HB := n2_; clear n0_ n1_ n2_)); have p268 : 0 ≤ (4 : Int) := (by omega); have q268 : 4 < (t259.length : Int) := of_decide_eq_true xA; obtain ⟨ad268, e268, hx268_0⟩ := Kd.at_string (Kd.R_reads' HO261.out).2.2 4 p268 q268; obtain rfl : ad262 = ad268 := (by injection e268); (try simp only [show (4 : Int).toNat = 4 from rfl, Nat.reduceMul, Nat.reduceEqDiff, Go.Addr.add, ↓reduceIte] at hx268_0); have qi268 : (4 < t259.length) = True := eq_true (by omega); (try rw [show ((4 : Int)).toNat = 4 from rfl] at hx268_0); replace p268 := eq_true p268; replace q268 := eq_true q268) | (refine gL 36 Tryd.func34 #[.string (rdOf ByteArray.empty t259 4)] ?_; (with_reducible refine (impl_number.calls k (rdOf ByteArray.empty t259 4) t269 t270 _ A9.out).mono ?_); rintro e w' ⟨rfl, ⟨nd, rfl⟩⟩; refine ⟨_, rfl, ?_⟩; (try (rw [drewN_self w18]; generalize hq_ : World.drewN w18 _ = w18; have n0_ := dR hq_ HO261; have n1_ := dK hq_ BK258; have n2_ := dB hq_ HB; clear HO261 BK258 HB hq_; have HO261 := n0_; have BK258 := n1_; have HB := n2_; clear n0_ n1_ n2_))))
 replace HO261 := am (Kd.R_drew HO261.out)
 replace BK258 := am (blk_drew BK258.out)
 replace HB := am (below_drew1 HB.out)
 have p271 : 0 ≤ (0 : Int) := (by omega)
 have q271 : 0 < (t259.length : Int) := of_decide_eq_true xA
 obtain ⟨ad271, e271, hx271_0⟩ := Kd.at_string (Kd.R_reads' HO261.out).2.2 0 p271 q271
 obtain rfl : ad262 = ad271 := (by injection e271)
 have qi271 : (0 < t259.length) = True := eq_true (by omega)
 (try rw [show ((0 : Int)).toNat = 0 from rfl] at hx271_0)
 (try rw [Addr.add_zero'] at hx271_0)
 replace p271 := eq_true p271
 replace q271 := eq_true q271
 have p272 : 0 ≤ (1 : Int) := (by omega)
 have q272 : 1 < (t259.length : Int) := of_decide_eq_true xA
 obtain ⟨ad272, e272, hx272_0⟩ := Kd.at_string (Kd.R_reads' HO261.out).2.2 1 p272 q272
 obtain rfl : ad262 = ad272 := (by injection e272)
 (try simp only [show (1 : Int).toNat = 1 from rfl, Nat.reduceMul, Nat.reduceEqDiff, Go.Addr.add, ↓reduceIte] at hx272_0)
 have qi272 : (1 < t259.length) = True := eq_true (by omega)
 (try rw [show ((1 : Int)).toNat = 1 from rfl] at hx272_0)
 replace p272 := eq_true p272
 replace q272 := eq_true q272
 refine start_ (n := 12) (S := fun w' => w'.cell? ad262 = some (.string (rdOf ByteArray.empty t259 0)) ∧ w'.cell? ⟨ad262.block, ad262.off + 1, none⟩ = some (.string (rdOf ByteArray.empty t259 1))) (ds := []) (bm 12 0) (by kernel_rfl) rfl rfl ⟨hx271_0, hx272_0⟩ (fun hHeld => ?_); refine with_tabW impl_HeadGet.tab7 impl_HeadGet.bits7 (fun HT_ HW_ => ?_)
 generalize w18.drew = w20 at HO261 BK258 HB hx271_0 hx272_0 hHeld ⊢
 refine pA 0 39 (bm 12 1) HT_ ?_
 refine pA 1 40 (bm 12 3) HT_ ?_
 refine pA 3 42 (bm 12 11) HT_ ?_
 refine pA 4 43 (bm 12 27) HT_ ?_
 refine pA 6 45 (bm 12 91) HT_ ?_
 refine pA 7 46 (bm 12 219) HT_ ?_
 refine pA 8 47 (bm 12 475) HT_ ?_
 refine tA 2 41 (bm 12 479) HT_ HW_ hHeld ?_
 refine tA 5 44 (bm 12 511) HT_ HW_ hHeld ?_
 refine pA 9 48 (bm 12 1023) HT_ ?_
 refine oA 10 (some 11) (bm 12 2047) HT_ fun K hK => ?_
 refine bS 11 #[.string (⟨#[]⟩ : ByteArray), .string (⟨#[]⟩ : ByteArray), .int .i64 0, .int .i64 0, .int .i64 0] 23 ?_
 intro gb273 hg w21 hbox hb
 have HS0_ := (hb.cell (World.block_lt_of_cell? _ _ (hHeld.1))).trans (hHeld.1)
 have HS1_ := (hb.cell (World.block_lt_of_cell? _ _ (hHeld.2))).trans (hHeld.2)
 replace HO261 := rk HO261 hb
 have BK273 := am (hbox)
 have GW273 := zB hg HB
 have GE273 := zB hg HB
 replace HB := kH HB hb
 have NB258_273 := nl hg (kb BK258)
 have NB273_258 := ng hg (kb BK258)
 replace BK258 := kP _ BK258 hb
 clear hb hbox hg
 refine hK.out _ _ ⟨HS0_, HS1_⟩ (fun hHeld => ?_)
 clear hK K
 refine nA (some 11) ?_
 refine oA 11 none (bm 12 4095) HT_ fun K hK => ?_
 have hs22 : w21.cell? ⟨gb273, 0, none⟩ = some (.string (⟨#[]⟩ : ByteArray)) := (blk_cell BK273.out 0).trans rfl
 have hfs22 := blk_frozen BK273.out 0
 have hns22_0 := NB258_273.out
 have hms22_0 := NB273_258.out
 have hs23 : w21.cell? ⟨gb273, 1, none⟩ = some (.string (⟨#[]⟩ : ByteArray)) := (blk_cell BK273.out 1).trans rfl
 have hfs23 := blk_frozen BK273.out 1
 have hns23_0 := NB258_273.out
 have hms23_0 := NB273_258.out
 have hs24 : w21.cell? ⟨gb273, 2, none⟩ = some (.int .i64 0) := (blk_cell BK273.out 2).trans rfl
 have hfs24 := blk_frozen BK273.out 2
 have hns24_0 := NB258_273.out
 have hms24_0 := NB273_258.out
 have hs25 : w21.cell? ⟨gb273, 3, none⟩ = some (.int .i64 0) := (blk_cell BK273.out 3).trans rfl
 have hfs25 := blk_frozen BK273.out 3
 have hns25_0 := NB258_273.out
 have hms25_0 := NB273_258.out
 have hs26 : w21.cell? ⟨gb273, 4, none⟩ = some (.int .i64 0) := (blk_cell BK273.out 4).trans rfl
 have hfs26 := blk_frozen BK273.out 4
 have hns26_0 := NB258_273.out
 have hms26_0 := NB273_258.out
 refine skip_ (w1 := ?_) (by rfl) rfl ?_ ?_
 rotate_left
 ·go_simp
  rfl
 have hne_ := Kd.own_blk (Kd.R_ne HO261.out BK273.out (by decide))
 refine hK.out _ _ ⟨(cf hne_ hHeld.1), (cf hne_ hHeld.2)⟩ (fun hHeld => ?_)
 clear hK K
 refine done_ (done_of HT_.out (by kernel_rfl)) ?_
 by_cases c12 : t264 = true
 rotate_left
 ·replace c12 := Bool.eq_false_iff.mpr c12
  subst c12
  try simp only [Bool.not_true, Bool.not_false]
  rw [if_neg (show ¬ (false = true) by decide)] at H
  simp only [Option.some.injEq, Prod.mk.injEq] at H
  obtain ⟨rfl, rfl, rfl, rfl, rfl, rfl⟩ := H
  have hnb80 := NB258_273.out
  have hnc80 := NB273_258.out
  have hz81 := bc5 BK258
  try go_wp2
  refine bodyPost_ret (results_ct rfl _ _ gb258 23 #[.string (⟨#[]⟩ : ByteArray), .string (⟨#[]⟩ : ByteArray), .int .i64 0, .int .i64 0, .int .i64 0] (0, 0) _ rfl (fb BK258) Tryd.underlying23 rfl (by kernel_rfl)) rfl ?_
  exact ⟨xE, xB HB⟩
 subst c12
 try simp only [Bool.not_true, Bool.not_false]
 rw [if_pos rfl] at H
 by_cases c13 : t267 = true
 rotate_left
 ·replace c13 := Bool.eq_false_iff.mpr c13
  subst c13
  rw [if_neg (show ¬ (false = true) by decide)] at H
  simp only [Option.some.injEq, Prod.mk.injEq] at H
  obtain ⟨rfl, rfl, rfl, rfl, rfl, rfl⟩ := H
  have hnb68 := NB258_273.out
  have hnc68 := NB273_258.out
  have hz69 := bc5 BK258
  try go_wp2
  refine bodyPost_ret (results_ct rfl _ _ gb258 23 #[.string (⟨#[]⟩ : ByteArray), .string (⟨#[]⟩ : ByteArray), .int .i64 0, .int .i64 0, .int .i64 0] (0, 0) _ rfl (fb BK258) Tryd.underlying23 rfl (by kernel_rfl)) rfl ?_
  exact ⟨xE, xB HB⟩
 subst c13
 rw [if_pos rfl] at H
 by_cases c14 : t270 = true
 rotate_left
 ·replace c14 := Bool.eq_false_iff.mpr c14
  subst c14
  rw [if_neg (show ¬ (false = true) by decide)] at H
  simp only [Option.some.injEq, Prod.mk.injEq] at H
  obtain ⟨rfl, rfl, rfl, rfl, rfl, rfl⟩ := H
  have hnb56 := NB258_273.out
  have hnc56 := NB273_258.out
  have hz57 := bc5 BK258
  try go_wp2
  refine bodyPost_ret (results_ct rfl _ _ gb258 23 #[.string (⟨#[]⟩ : ByteArray), .string (⟨#[]⟩ : ByteArray), .int .i64 0, .int .i64 0, .int .i64 0] (0, 0) _ rfl (fb BK258) Tryd.underlying23 rfl (by kernel_rfl)) rfl ?_
  exact ⟨xE, xB HB⟩
 subst c14
 rw [if_pos rfl] at H
 replace H := oa H
 obtain ⟨t274, A15, H⟩ := H
 have hnb27 := NB273_258.out
 have hnc27 := NB258_273.out
 have hz28 := bc5 BK273
 go_upto_if 63 with (go_at_call 45; (with_reducible refine (impl_headOk.calls k (rdOf ByteArray.empty t259 0) (rdOf ByteArray.empty t259 1) t263 t266 t269 t274 _ A15.out).mono ?_); rintro e w29 ⟨rfl, hb⟩; replace HO261 := am (Kd.R_below (rf HO261 BK273) hb); replace BK258 := kP _ BK258 hb; replace BK273 := kP (.cells #[.string (rdOf ByteArray.empty t259 0), .string (rdOf ByteArray.empty t259 1), .int .i64 t263, .int .i64 t266, .int .i64 t269] 23 (0, 0)) BK273 hb; replace HB := kH HB hb; (try clear hb))
 by_cases c16 : t274 = true
 ·subst c16
  try simp only [Bool.not_true, Bool.not_false]
  rw [if_pos rfl] at H
  simp only [Option.some.injEq, Prod.mk.injEq] at H
  obtain ⟨rfl, rfl, rfl, rfl, rfl, rfl⟩ := H
  have hz30 := bc5 BK273
  have hz31 := bc5 BK258
  try go_wp2
  refine bodyPost_ret (results_ct rfl _ _ gb258 23 #[.string (rdOf ByteArray.empty t259 0), .string (rdOf ByteArray.empty t259 1), .int .i64 t263, .int .i64 t266, .int .i64 t269] (0, 0) _ rfl (fb BK258) Tryd.underlying23 rfl (by kernel_rfl)) rfl ?_
  exact ⟨xE, xB HB⟩
 replace c16 := Bool.eq_false_iff.mpr c16
 subst c16
 try simp only [Bool.not_true, Bool.not_false]
 rw [if_neg (show ¬ (false = true) by decide)] at H
 simp only [Option.some.injEq, Prod.mk.injEq] at H
 obtain ⟨rfl, rfl, rfl, rfl, rfl, rfl⟩ := H
 have hz45 := bc5 BK258
 try go_wp2
 refine bodyPost_ret (results_ct rfl _ _ gb258 23 #[.string (⟨#[]⟩ : ByteArray), .string (⟨#[]⟩ : ByteArray), .int .i64 0, .int .i64 0, .int .i64 0] (0, 0) _ rfl (fb BK258) Tryd.underlying23 rfl (by kernel_rfl)) rfl ?_
 exact ⟨xE, xB HB⟩


-- NOT PRINTED: function 107 (strconv_small)

-- NOT PRINTED: function 118 (strconv_log10Pow2)

-- NOT PRINTED: function 119 (bits_Len64)

-- NOT PRINTED: function 120 (strconv_bool2_int)

-- NOT PRINTED: function 108 (strconv_numDigits)

-- NOT PRINTED: function 109 (strconv_formatBase10)

-- NOT PRINTED: function 121 (strconv_isPowerOfTwo)

-- NOT PRINTED: function 128 (bits_TrailingZeros32)

-- NOT PRINTED: function 129 (bits_TrailingZeros64)

-- NOT PRINTED: function 122 (bits_TrailingZeros)

-- NOT PRINTED: function 110 (strconv_formatBits)

-- NOT PRINTED: function 93 (strconv_FormatInt)

-- NOT PRINTED: function 76 (strconv_Itoa_76)

/-! ### strconv_Itoa_46: function 46, by the shelf's contract -/
def strconv_Itoa_46.f (a0 : Int) : Option (ByteArray) := if -9223372036854775808 ≤ a0 ∧ a0 ≤ 9223372036854775807 then some (Sh.itoaS a0) else none
theorem strconv_Itoa_46.calls (a0 : Int) (r : ByteArray) (w : World) (h : strconv_Itoa_46.f a0 = some r) (PQT_ : Aside0 (Sh.HasT w)) :
  Calls Tryd.prog 46 #[.int .i64 a0] w fun e w' => e = .returned (.string r) ∧ Below w.heap.size w w' := by
 unfold strconv_Itoa_46.f at h
 by_cases hm : -9223372036854775808 ≤ a0 ∧ a0 ≤ 9223372036854775807
 rotate_left
 ·rw [if_neg hm] at h
  exact absurd h (by simp)
 rw [if_pos hm] at h
 obtain rfl := Option.some.inj h
 exact Sh.itoa_calls a0 hm.1 hm.2 w PQT_.out
/-! ### impl_HeadPut: function 16 -/
def impl_HeadPut.f (k : Nat) (a0_0 : ByteArray) (a0_1 : ByteArray) (a0_2 : Int) (a0_3 : Int) (a0_4 : Int) : Option (ByteArray) := (impl_headOk.f k a0_0 a0_1 a0_2 a0_3 a0_4).bind fun t276 => (if t276 = true then (if a0_0.size + 1 ≤ 9223372036854775807 then (if (a0_0 ++ (⟨#[32]⟩ : ByteArray)).size + a0_1.size ≤ 9223372036854775807 then (if ((a0_0 ++ (⟨#[32]⟩ : ByteArray)) ++ a0_1).size + 1 ≤ 9223372036854775807 then ((strconv_Itoa_46.f a0_2).bind fun t277 => (if (((a0_0 ++ (⟨#[32]⟩ : ByteArray)) ++ a0_1) ++ (⟨#[32]⟩ : ByteArray)).size + t277.size ≤ 9223372036854775807 then (if ((((a0_0 ++ (⟨#[32]⟩ : ByteArray)) ++ a0_1) ++ (⟨#[32]⟩ : ByteArray)) ++ t277).size + 1 ≤ 9223372036854775807 then ((strconv_Itoa_46.f a0_3).bind fun t278 => (if (((((a0_0 ++ (⟨#[32]⟩ : ByteArray)) ++ a0_1) ++ (⟨#[32]⟩ : ByteArray)) ++ t277) ++ (⟨#[32]⟩ : ByteArray)).size + t278.size ≤ 9223372036854775807 then (if ((((((a0_0 ++ (⟨#[32]⟩ : ByteArray)) ++ a0_1) ++ (⟨#[32]⟩ : ByteArray)) ++ t277) ++ (⟨#[32]⟩ : ByteArray)) ++ t278).size + 1 ≤ 9223372036854775807 then ((strconv_Itoa_46.f a0_4).bind fun t279 => (if (((((((a0_0 ++ (⟨#[32]⟩ : ByteArray)) ++ a0_1) ++ (⟨#[32]⟩ : ByteArray)) ++ t277) ++ (⟨#[32]⟩ : ByteArray)) ++ t278) ++ (⟨#[32]⟩ : ByteArray)).size + t279.size ≤ 9223372036854775807 then (some ((((((((a0_0 ++ (⟨#[32]⟩ : ByteArray)) ++ a0_1) ++ (⟨#[32]⟩ : ByteArray)) ++ t277) ++ (⟨#[32]⟩ : ByteArray)) ++ t278) ++ (⟨#[32]⟩ : ByteArray)) ++ t279)) else (none))) else (none)) else (none))) else (none)) else (none))) else (none)) else (none)) else (none)) else (some (⟨#[]⟩ : ByteArray)))
theorem impl_HeadPut.mono : ∀ a0 a1 a2 a3 a4 k, LeO (impl_HeadPut.f k a0 a1 a2 a3 a4) (impl_HeadPut.f (k + 1) a0 a1 a2 a3 a4) := by
 intro a0 a1 a2 a3 a4 k
 unfold impl_HeadPut.f
 exact mo1 impl_headOk.mono
def impl_HeadPut.T3 : Bool × List (List Nat × List Nat) := (true, [([], []), ([0], [0]), ([1], [1]), ([], []), ([3], [3]), ([2, 4], [2, 4]), ([5], [5]), ([], []), ([7], [7]), ([8], [8]), ([6, 9], [6, 9]), ([10], [10]), ([], []), ([12], [12]), ([13, 9], [13]), ([11, 14], [11, 14]), ([15], [15]), ([], []), ([17], [17]), ([18, 14], [18]), ([16, 19], [16, 19]), ([20, 19, 0, 1, 2, 3, 4, 5, 6, 7, 8, 9, 10, 11, 12, 13, 14, 15, 16, 17, 18, 19, 20], [20])])
def impl_HeadPut.B3 : List Nat := [0, 1, 3, 0, 8, 31, 63, 0, 128, 384, 1023, 2047, 0, 4096, 13184, 32767, 65535, 0, 131072, 422784, 1048575, 2097151]
theorem impl_HeadPut.tab3 : rtab .any (opsOf Tryd.f16 3) = impl_HeadPut.T3 := by kernel_rfl
theorem impl_HeadPut.bits3 : waitsOk impl_HeadPut.T3.2 impl_HeadPut.B3 = true := by kernel_rfl
set_option maxHeartbeats 64000000 in
set_option maxRecDepth 100000 in
theorem impl_HeadPut.calls (k : Nat) (a0_0 : ByteArray) (a0_1 : ByteArray) (a0_2 : Int) (a0_3 : Int) (a0_4 : Int) (r : ByteArray) (w : World) (h : impl_HeadPut.f k a0_0 a0_1 a0_2 a0_3 a0_4 = some r) (PQT_ : Aside0 (Sh.HasT w)) :
  Calls Tryd.prog 16 #[.agg #[.string a0_0, .string a0_1, .int .i64 a0_2, .int .i64 a0_3, .int .i64 a0_4]] w fun e w' => e = .returned (.string r) ∧ Below w.heap.size w w' := by
 have hu23 := Tryd.underlying23
 have HB := Aside0.mk (Below.refl w.heap.size w)
 have H : ((impl_headOk.f k a0_0 a0_1 a0_2 a0_3 a0_4).bind fun t276 => (if t276 = true then (if a0_0.size + 1 ≤ 9223372036854775807 then (if (a0_0 ++ (⟨#[32]⟩ : ByteArray)).size + a0_1.size ≤ 9223372036854775807 then (if ((a0_0 ++ (⟨#[32]⟩ : ByteArray)) ++ a0_1).size + 1 ≤ 9223372036854775807 then ((strconv_Itoa_46.f a0_2).bind fun t277 => (if (((a0_0 ++ (⟨#[32]⟩ : ByteArray)) ++ a0_1) ++ (⟨#[32]⟩ : ByteArray)).size + t277.size ≤ 9223372036854775807 then (if ((((a0_0 ++ (⟨#[32]⟩ : ByteArray)) ++ a0_1) ++ (⟨#[32]⟩ : ByteArray)) ++ t277).size + 1 ≤ 9223372036854775807 then ((strconv_Itoa_46.f a0_3).bind fun t278 => (if (((((a0_0 ++ (⟨#[32]⟩ : ByteArray)) ++ a0_1) ++ (⟨#[32]⟩ : ByteArray)) ++ t277) ++ (⟨#[32]⟩ : ByteArray)).size + t278.size ≤ 9223372036854775807 then (if ((((((a0_0 ++ (⟨#[32]⟩ : ByteArray)) ++ a0_1) ++ (⟨#[32]⟩ : ByteArray)) ++ t277) ++ (⟨#[32]⟩ : ByteArray)) ++ t278).size + 1 ≤ 9223372036854775807 then ((strconv_Itoa_46.f a0_4).bind fun t279 => (if (((((((a0_0 ++ (⟨#[32]⟩ : ByteArray)) ++ a0_1) ++ (⟨#[32]⟩ : ByteArray)) ++ t277) ++ (⟨#[32]⟩ : ByteArray)) ++ t278) ++ (⟨#[32]⟩ : ByteArray)).size + t279.size ≤ 9223372036854775807 then (some ((((((((a0_0 ++ (⟨#[32]⟩ : ByteArray)) ++ a0_1) ++ (⟨#[32]⟩ : ByteArray)) ++ t277) ++ (⟨#[32]⟩ : ByteArray)) ++ t278) ++ (⟨#[32]⟩ : ByteArray)) ++ t279)) else (none))) else (none)) else (none))) else (none)) else (none))) else (none)) else (none)) else (none)) else (some (⟨#[]⟩ : ByteArray)))) = some r := h
 clear h
 replace H := oa H
 obtain ⟨t276, A2, H⟩ := H
 go_enter Tryd.func16, Tryd.ntmps16
 go_upto_if 5 with ((with_reducible refine gg ?_); first | (refine bE 1 #[.string a0_0, .string a0_1, .int .i64 a0_2, .int .i64 a0_3, .int .i64 a0_4] 23 ?_; intro gb275 hg w15 hbox hb; have BK275 := am (hbox); have GW275 := zB hg HB; have GE275 := zB hg HB; replace HB := kH HB hb; clear hb hbox hg; have hz16 := bc5 BK275) | (refine store_event (t := 23) (p := 1) (v := ?vo_) (w1 := ?wo_) ?hg ?ho ?hn ?hr ?_; (case ho => rfl); (case hg => rfl); (case hn => rfl); (case hr => go_simp; rfl); intro wq_ hW_; have BQ_ := am hW_; have hzq_ := am hW_; replace hW_ := am hW_) | (refine gL 4 Tryd.func45 #[.agg #[.string a0_0, .string a0_1, .int .i64 a0_2, .int .i64 a0_3, .int .i64 a0_4]] ?_; (try (clear hzq_ BQ_; obtain ⟨hW_⟩ := hW_; subst hW_)); (with_reducible refine (impl_headOk.calls k a0_0 a0_1 a0_2 a0_3 a0_4 t276 _ A2.out).mono ?_); rintro e w17 ⟨rfl, hb⟩; refine ⟨_, rfl, ?_⟩; replace BK275 := kP _ BK275 hb; replace HB := kH HB hb; (try clear hb)))
 by_cases c3 : t276 = true
 rotate_left
 ·replace c3 := Bool.eq_false_iff.mpr c3
  subst c3
  try simp only [Bool.not_true, Bool.not_false]
  rw [if_neg (show ¬ (false = true) by decide)] at H
  obtain rfl := Option.some.inj H
  go_wp2
  (try (clear hzq_ BQ_; obtain ⟨hW_⟩ := hW_; subst hW_))
  go_ret
  exact ⟨xE, xB HB⟩
 subst c3
 try simp only [Bool.not_true, Bool.not_false]
 rw [if_pos rfl] at H
 replace H := ip H
 obtain ⟨c4, H⟩ := H
 have c4b0 := eq_true c4
 have c4b1 := decide_eq_true c4
 have c4b2 := nf c4
 replace H := ip H
 obtain ⟨c5, H⟩ := H
 have c5b0 := eq_true c5
 have c5b1 := decide_eq_true c5
 have c5b2 := nf c5
 try (have c5b3 := c5b2; simp only [ByteArray.size_append, show (⟨#[32]⟩ : ByteArray).size = 1 from rfl] at c5b3)
 replace H := ip H
 obtain ⟨c6, H⟩ := H
 have c6b0 := eq_true c6
 have c6b1 := decide_eq_true c6
 have c6b2 := nf c6
 try (have c6b3 := c6b2; simp only [ByteArray.size_append, show (⟨#[32]⟩ : ByteArray).size = 1 from rfl] at c6b3)
 replace H := oa H
 obtain ⟨t277, A7, H⟩ := H
 replace H := ip H
 obtain ⟨c8, H⟩ := H
 have c8b0 := eq_true c8
 have c8b1 := decide_eq_true c8
 have c8b2 := nf c8
 try (have c8b3 := c8b2; simp only [ByteArray.size_append, show (⟨#[32]⟩ : ByteArray).size = 1 from rfl] at c8b3)
 replace H := ip H
 obtain ⟨c9, H⟩ := H
 have c9b0 := eq_true c9
 have c9b1 := decide_eq_true c9
 have c9b2 := nf c9
 try (have c9b3 := c9b2; simp only [ByteArray.size_append, show (⟨#[32]⟩ : ByteArray).size = 1 from rfl] at c9b3)
 replace H := oa H
 obtain ⟨t278, A10, H⟩ := H
 replace H := ip H
 obtain ⟨c11, H⟩ := H
 have c11b0 := eq_true c11
 have c11b1 := decide_eq_true c11
 have c11b2 := nf c11
 try (have c11b3 := c11b2; simp only [ByteArray.size_append, show (⟨#[32]⟩ : ByteArray).size = 1 from rfl] at c11b3)
 replace H := ip H
 obtain ⟨c12, H⟩ := H
 have c12b0 := eq_true c12
 have c12b1 := decide_eq_true c12
 have c12b2 := nf c12
 try (have c12b3 := c12b2; simp only [ByteArray.size_append, show (⟨#[32]⟩ : ByteArray).size = 1 from rfl] at c12b3)
 replace H := oa H
 obtain ⟨t279, A13, H⟩ := H
 replace H := ip H
 obtain ⟨c14, H⟩ := H
 have c14b0 := eq_true c14
 have c14b1 := decide_eq_true c14
 have c14b2 := nf c14
 try (have c14b3 := c14b2; simp only [ByteArray.size_append, show (⟨#[32]⟩ : ByteArray).size = 1 from rfl] at c14b3)
 obtain rfl := Option.some.inj H
 try go_wp2
 replace BK275 := am (blk_drew BK275.out)
 replace HB := am (below_drew1 HB.out)
 (try (clear hzq_ BQ_; obtain ⟨hW_⟩ := hW_; subst hW_))
 refine start_ (n := 22) (S := cs5 gb275 (.string a0_0) (.string a0_1) (.int .i64 a0_2) (.int .i64 a0_3) (.int .i64 a0_4)) (ds := []) (bm 22 0) (by kernel_rfl) rfl rfl (bz5 BK275) (fun hHeld => ?_); refine with_tabW impl_HeadPut.tab3 impl_HeadPut.bits3 (fun HT_ HW_ => ?_)
 generalize w17.drew = w18 at BK275 HB hHeld ⊢
 refine pA 0 6 (bm 22 1) HT_ ?_
 refine pA 3 9 (bm 22 9) HT_ ?_
 refine pA 7 13 (bm 22 137) HT_ ?_
 refine pA 12 18 (bm 22 4233) HT_ ?_
 refine pA 17 23 (bm 22 135305) HT_ ?_
 refine tA 1 7 (bm 22 135307) HT_ HW_ hHeld ?_
 refine pA 2 8 (bm 22 135311) HT_ ?_
 refine tA 4 10 (bm 22 135327) HT_ HW_ hHeld ?_
 refine pA 5 11 (bm 22 135359) HT_ ?_
 refine pA 6 12 (bm 22 135423) HT_ ?_
 refine tA 8 14 (bm 22 135679) HT_ HW_ hHeld ?_
 refine tA 13 19 (bm 22 143871) HT_ HW_ hHeld ?_
 refine tA 18 24 (bm 22 406015) HT_ HW_ hHeld ?_
 refine oA 9 (some 15) (bm 22 406527) HT_ fun K hK => ?_
 refine gA Tryd.func46 #[.int .i64 a0_2] ?_
 with_reducible refine (strconv_Itoa_46.calls a0_2 t277 _ A7.out (Aside0.mk (Sh.hasT_of PQT_ (bl HB)))).mono ?_
 rintro e w19 ⟨rfl, hb⟩
 refine ⟨_, rfl, ?_⟩
 replace BK275 := kP _ BK275 hb
 replace HB := kH HB hb
 (try clear hb)
 (try clear hb2)
 (try clear hk)
 (try clear hi)
 refine hK.out _ _ (bz5 BK275) (fun hHeld => ?_)
 clear hK K
 refine nA (some 15) ?_
 refine pA 10 16 (bm 22 407551) HT_ ?_
 refine pA 11 17 (bm 22 409599) HT_ ?_
 refine oA 14 (some 20) (bm 22 425983) HT_ fun K hK => ?_
 refine gA Tryd.func46 #[.int .i64 a0_3] ?_
 with_reducible refine (strconv_Itoa_46.calls a0_3 t278 _ A10.out (Aside0.mk (Sh.hasT_of PQT_ (bl HB)))).mono ?_
 rintro e w20 ⟨rfl, hb⟩
 refine ⟨_, rfl, ?_⟩
 replace BK275 := kP _ BK275 hb
 replace HB := kH HB hb
 (try clear hb)
 (try clear hb2)
 (try clear hk)
 (try clear hi)
 refine hK.out _ _ (bz5 BK275) (fun hHeld => ?_)
 clear hK K
 refine nA (some 20) ?_
 refine pA 15 21 (bm 22 458751) HT_ ?_
 refine pA 16 22 (bm 22 524287) HT_ ?_
 refine oA 19 (some 25) (bm 22 1048575) HT_ fun K hK => ?_
 refine gA Tryd.func46 #[.int .i64 a0_4] ?_
 with_reducible refine (strconv_Itoa_46.calls a0_4 t279 _ A13.out (Aside0.mk (Sh.hasT_of PQT_ (bl HB)))).mono ?_
 rintro e w21 ⟨rfl, hb⟩
 refine ⟨_, rfl, ?_⟩
 replace BK275 := kP _ BK275 hb
 replace HB := kH HB hb
 (try clear hb)
 (try clear hb2)
 (try clear hk)
 (try clear hi)
 refine hK.out _ _ (bz5 BK275) (fun hHeld => ?_)
 clear hK K
 refine nA (some 25) ?_
 refine pA 20 26 (bm 22 2097151) HT_ ?_
 refine pA 21 2 (bm 22 4194303) HT_ ?_
 refine done_ (done_of HT_.out (by kernel_rfl)) ?_
 try go_wp2
 (try (clear hzq_ BQ_; obtain ⟨hW_⟩ := hW_; subst hW_))
 go_ret
 exact ⟨xE, xB HB⟩

/-! ### impl_peakOk: function 82 -/
def impl_peakOk.f (k : Nat) (a0_0 : ByteArray) (a0_1 : Int) (a0_2 : Int) : Option (Bool) := (impl_isSum.f k a0_0).bind fun t281 => (if t281 = true then ((impl_in.f a0_2 1 20).bind fun t282 => (if t282 = true then ((impl_in.f a0_1 a0_2 (wrap64 (a0_2 * 8))).bind fun t283 => (some t283)) else (some false))) else (some false))
theorem impl_peakOk.mono : ∀ a0 a1 a2 k, LeO (impl_peakOk.f k a0 a1 a2) (impl_peakOk.f (k + 1) a0 a1 a2) := by
 intro a0 a1 a2 k
 unfold impl_peakOk.f
 exact mo1 impl_isSum.mono
set_option maxHeartbeats 64000000 in
set_option maxRecDepth 100000 in
theorem impl_peakOk.calls (k : Nat) (a0_0 : ByteArray) (a0_1 : Int) (a0_2 : Int) (r : Bool) (w : World) (h : impl_peakOk.f k a0_0 a0_1 a0_2 = some r) :
  Calls Tryd.prog 82 #[.agg #[.string a0_0, .int .i64 a0_1, .int .i64 a0_2]] w fun e w' => e = .returned (.bool r) ∧ Below w.heap.size w w' := by
 have hu93 := Tryd.underlying93
 have HB := Aside0.mk (Below.refl w.heap.size w)
 have H : ((impl_isSum.f k a0_0).bind fun t281 => (if t281 = true then ((impl_in.f a0_2 1 20).bind fun t282 => (if t282 = true then ((impl_in.f a0_1 a0_2 (wrap64 (a0_2 * 8))).bind fun t283 => (some t283)) else (some false))) else (some false))) = some r := h
 clear h
 replace H := oa H
 obtain ⟨t281, A2, H⟩ := H
 go_enter Tryd.func82, Tryd.ntmps82
 go_upto_region 1 with ((with_reducible refine gg ?_); refine bE 1 #[.string a0_0, .int .i64 a0_1, .int .i64 a0_2] 93 ?_; intro gb280 hg w7 hbox hb; have BK280 := am (hbox); have GW280 := zB hg HB; have GE280 := zB hg HB; replace HB := kH HB hb; clear hb hbox hg; have hz8 := bc3 BK280)
 by_cases c3 : t281 = true
 rotate_left
 ·replace c3 := Bool.eq_false_iff.mpr c3
  subst c3
  try simp only [Bool.not_true, Bool.not_false]
  rw [if_neg (show ¬ (false = true) by decide)] at H
  obtain rfl := Option.some.inj H
  go_wp2_with ((with_reducible refine gg ?_); refine gL 5 Tryd.func75 #[.string a0_0] ?_; (with_reducible refine (impl_isSum.calls k a0_0 false _ A2.out).mono ?_); rintro e w' ⟨rfl, ⟨nd, rfl⟩⟩; refine ⟨_, rfl, ?_⟩)
  go_ret
  exact ⟨xE, xB HB⟩
 subst c3
 try simp only [Bool.not_true, Bool.not_false]
 rw [if_pos rfl] at H
 replace H := oa H
 obtain ⟨t282, A4, H⟩ := H
 by_cases c5 : t282 = true
 rotate_left
 ·replace c5 := Bool.eq_false_iff.mpr c5
  subst c5
  rw [if_neg (show ¬ (false = true) by decide)] at H
  obtain rfl := Option.some.inj H
  go_wp2_with (first | ((with_reducible refine gg ?_); refine gL 5 Tryd.func75 #[.string a0_0] ?_; (with_reducible refine (impl_isSum.calls k a0_0 true _ A2.out).mono ?_); rintro e w' ⟨rfl, ⟨nd, rfl⟩⟩; refine ⟨_, rfl, ?_⟩) | (go_at_call 67; (with_reducible refine (impl_in.calls a0_2 1 20 false _ A4.out).mono ?_); rintro e w' ⟨rfl, ⟨nd, rfl⟩⟩))
  go_ret
  exact ⟨xE, xB HB⟩
 subst c5
 rw [if_pos rfl] at H
 replace H := oa H
 obtain ⟨t283, A6, H⟩ := H
 obtain rfl := Option.some.inj H
 go_wp2_with (first | ((with_reducible refine gg ?_); refine gL 5 Tryd.func75 #[.string a0_0] ?_; (with_reducible refine (impl_isSum.calls k a0_0 true _ A2.out).mono ?_); rintro e w' ⟨rfl, ⟨nd, rfl⟩⟩; refine ⟨_, rfl, ?_⟩) | (go_at_call 67; (with_reducible refine (impl_in.calls a0_2 1 20 true _ A4.out).mono ?_); rintro e w' ⟨rfl, ⟨nd, rfl⟩⟩) | (go_at_call 67; (with_reducible refine (impl_in.calls a0_1 a0_2 (wrap64 (a0_2 * 8)) t283 _ A6.out).mono ?_); rintro e w' ⟨rfl, ⟨nd, rfl⟩⟩))
 go_ret
 exact ⟨xE, xB HB⟩

end Go.Proofs.YtgjljbaadglpnaaDoor.PFnExactPaidGet
