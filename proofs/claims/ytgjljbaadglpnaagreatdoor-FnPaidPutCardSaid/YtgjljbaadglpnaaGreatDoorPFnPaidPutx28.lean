/- Functions of the program and what each answers: the kit's print, shortened (wip/press2.py). -/
import Derived.Test.YtgjljbaadglpnaaGreatDoorPFnPaidPutx0
import Derived.Test.YtgjljbaadglpnaaGreatDoorPFnPaidPutx11
import Derived.Test.YtgjljbaadglpnaaGreatDoorPFnPaidPutx19
import Derived.Test.YtgjljbaadglpnaaGreatDoorPFnPaidPutx26
namespace Go.Proofs.YtgjljbaadglpnaaGreatDoor.PFnPaidPut
open Go.Proofs.YtgjljbaadglpnaaGreatDoor.Sq Go.RowKit Go.Proofs.YtgjljbaadglpnaaGreatDoorW.PrintWords Go.Proofs.YtgjljbaadglpnaaGreatDoorW.PrintLast Go.Proofs.YtgjljbaadglpnaaGreatDoorW.PrintMore
attribute [local go_sem] max2_int min2_int max_two min_two max_three min_three max_four min_four   -- for this text's walks alone
set_option linter.unusedVariables false
set_option linter.unusedSimpArgs false
set_option maxHeartbeats 64000000
set_option maxRecDepth 100000
def spec_l9Peaks.l0 : Nat → List (S93) → ByteArray → Int → Option (ByteArray)
 | 0, _, _, _ => none
 | k + 1, x0, x3, x4 => if x4 < (x0.length : Int) then (if x3.size + 1 ≤ 9223372036854775807 then (if 0 ≤ x4 then (if (x3 ++ (⟨#[32]⟩ : ByteArray)).size + ((rd_T93 x0 x4).f0).size ≤ 9223372036854775807 then (if ((x3 ++ (⟨#[32]⟩ : ByteArray)) ++ ((rd_T93 x0 x4).f0)).size + 1 ≤ 9223372036854775807 then ((spec_l1Dec.f k ((rd_T93 x0 x4).f1)).bind fun t608 => (if (((x3 ++ (⟨#[32]⟩ : ByteArray)) ++ ((rd_T93 x0 x4).f0)) ++ (⟨#[58]⟩ : ByteArray)).size + t608.size ≤ 9223372036854775807 then (if ((((x3 ++ (⟨#[32]⟩ : ByteArray)) ++ ((rd_T93 x0 x4).f0)) ++ (⟨#[58]⟩ : ByteArray)) ++ t608).size + 1 ≤ 9223372036854775807 then ((spec_l1Dec.f k ((rd_T93 x0 x4).f2)).bind fun t610 => (if (((((x3 ++ (⟨#[32]⟩ : ByteArray)) ++ ((rd_T93 x0 x4).f0)) ++ (⟨#[58]⟩ : ByteArray)) ++ t608) ++ (⟨#[58]⟩ : ByteArray)).size + t610.size ≤ 9223372036854775807 then (spec_l9Peaks.l0 k x0 ((((((x3 ++ (⟨#[32]⟩ : ByteArray)) ++ ((rd_T93 x0 x4).f0)) ++ (⟨#[58]⟩ : ByteArray)) ++ t608) ++ (⟨#[58]⟩ : ByteArray)) ++ t610) (wrap64 (x4 + 1))) else (none))) else (none)) else (none))) else (none)) else (none)) else (none)) else (none)) else (some x3)
def spec_l9Peaks.f (k : Nat) (l0 : List (S93)) : Option (ByteArray) := spec_l9Peaks.l0 k l0 (⟨#[]⟩ : ByteArray) 0
theorem spec_l9Peaks.mono_l : ∀ k, (∀ y0 y1 y2, LeO (spec_l9Peaks.l0 k y0 y1 y2) (spec_l9Peaks.l0 (k + 1) y0 y1 y2))
 | 0 => fun _ _ _ r h => by simp [spec_l9Peaks.l0] at h
 | k + 1 => by
  have ih0 := spec_l9Peaks.mono_l k
  ·intro y0 y1 y2
   unfold spec_l9Peaks.l0
   exact mo2 ih0 spec_l1Dec.mono
theorem spec_l9Peaks.mono : ∀ a0 k, LeO (spec_l9Peaks.f k a0) (spec_l9Peaks.f (k + 1) a0) := by
 intro a0 k
 have ih0 := spec_l9Peaks.mono_l k
 unfold spec_l9Peaks.f
 exact mo2 ih0 spec_l1Dec.mono
def spec_l9Peaks.T5 : Bool × List (List Nat × List Nat) := (true, [([], []), ([0], [0]), ([], []), ([], []), ([2, 3], [2, 3]), ([4], [4]), ([5], [5]), ([1, 6], [1, 6]), ([7], [7]), ([], []), ([], []), ([9, 10], [9, 10]), ([11], [11]), ([12], [12]), ([13], [13]), ([8, 14], [8, 14]), ([15], [15]), ([], []), ([], []), ([17, 18], [17, 18]), ([19], [19]), ([20], [20]), ([21, 14], [21]), ([16, 22], [16, 22]), ([23, 22, 0, 1, 2, 3, 4, 5, 6, 7, 8, 9, 10, 11, 12, 13, 14, 15, 16, 17, 18, 19, 20, 21, 22, 23], [0, 23])])
def spec_l9Peaks.B5 : List Nat := [0, 1, 0, 0, 12, 28, 60, 127, 255, 0, 0, 1536, 3584, 7680, 15872, 32767, 65535, 0, 0, 393216, 917504, 1966080, 4095488, 8388607, 16777215]
theorem spec_l9Peaks.tab5 : rtab .any (opsOf Tryz.f61 5) = spec_l9Peaks.T5 := by kernel_rfl
theorem spec_l9Peaks.bits5 : waitsOk spec_l9Peaks.T5.2 spec_l9Peaks.B5 = true := by kernel_rfl
theorem spec_l9Peaks.calls (k : Nat) (A0 : Option Addr) (c0 : Nat) (l0 : List (S93)) (r : ByteArray) (w : World) (hr0 : Kd.C k93 w A0 l0.length l0) (hc0 : l0.length ≤ c0) (h : spec_l9Peaks.f k l0 = some r) :
  Calls Tryz.prog 61 #[.slice A0 l0.length c0] w fun e w' => e = .returned (.string r) ∧ Below w.heap.size w w' := by
 have HR0 := Aside0.mk hr0
 have HC0 := Aside0.mk hc0
 clear hr0 hc0
 have HB := Aside0.mk (Below.refl w.heap.size w)
 have H : (spec_l9Peaks.l0 k l0 (⟨#[]⟩ : ByteArray) 0) = some r := h
 clear h
 have H' := Aside0.mk H
 clear H
 go_enter Tryz.func61, Tryz.ntmps61
 go_wp2
 go_loopg [3, 4] k (fun kq v3 v4 w' => ∃ (x3_1 : ByteArray) (x4_1 : Int), v3 = .string x3_1 ∧ v4 = .int .i64 x4_1 ∧ Aside0 (spec_l9Peaks.l0 kq l0 x3_1 x4_1 = some r) ∧ Aside0 (kq ≤ k) ∧ Aside0 (Below w.heap.size w w'))
 case atStart => exact ⟨((⟨#[]⟩ : ByteArray)), (0), xR, xR, H', ⟨Nat.le_refl _⟩, ⟨bl HB⟩⟩
 case round =>
  clear H'
  obtain ⟨x3_1, x4_1, rfl, rfl, HA, HK1, HB⟩ := hrel
  cases gk with
  | zero => exact absurd HA.out (by simp [spec_l9Peaks.l0])
  | succ k1 =>
   have H := HA.out
   clear HA
   simp only [spec_l9Peaks.l0] at H
   by_cases c2 : x4_1 < (l0.length : Int)
   rotate_left
   ·rw [if_neg c2] at H
    have c2b0 := decide_eq_false c2
    clear c2
    obtain rfl := Option.some.inj H
    go_wp2
    go_ret
    exact ⟨xE, bl HB⟩
   rw [if_pos c2] at H
   have c2b0 := decide_eq_true c2
   clear c2
   replace H := ip H
   obtain ⟨c3, H⟩ := H
   have c3b0 := eq_true c3
   have c3b1 := decide_eq_true c3
   have c3b2 := nf c3
   replace H := ipd H
   obtain ⟨c4b0, H⟩ := H
   replace H := ip H
   obtain ⟨c5, H⟩ := H
   have c5b0 := eq_true c5
   have c5b1 := decide_eq_true c5
   have c5b2 := nf c5
   try (have c5b3 := c5b2; simp only [ByteArray.size_append, show (⟨#[32]⟩ : ByteArray).size = 1 from rfl] at c5b3)
   replace H := ip H
   obtain ⟨c6, H⟩ := H
   have c6b0 := eq_true c6
   have c6b1 := decide_eq_true c6
   have c6b2 := nf c6
   try (have c6b3 := c6b2; simp only [ByteArray.size_append, show (⟨#[32]⟩ : ByteArray).size = 1 from rfl] at c6b3)
   replace H := oa H
   obtain ⟨t608, A7, H⟩ := H
   replace H := ip H
   obtain ⟨c8, H⟩ := H
   have c8b0 := eq_true c8
   have c8b1 := decide_eq_true c8
   have c8b2 := nf c8
   try (have c8b3 := c8b2; simp only [ByteArray.size_append, show (⟨#[32]⟩ : ByteArray).size = 1 from rfl, show (⟨#[58]⟩ : ByteArray).size = 1 from rfl] at c8b3)
   replace H := ip H
   obtain ⟨c9, H⟩ := H
   have c9b0 := eq_true c9
   have c9b1 := decide_eq_true c9
   have c9b2 := nf c9
   try (have c9b3 := c9b2; simp only [ByteArray.size_append, show (⟨#[32]⟩ : ByteArray).size = 1 from rfl, show (⟨#[58]⟩ : ByteArray).size = 1 from rfl] at c9b3)
   replace H := oa H
   obtain ⟨t610, A10, H⟩ := H
   replace H := ip H
   obtain ⟨c11, H⟩ := H
   have c11b0 := eq_true c11
   have c11b1 := decide_eq_true c11
   have c11b2 := nf c11
   try (have c11b3 := c11b2; simp only [ByteArray.size_append, show (⟨#[32]⟩ : ByteArray).size = 1 from rfl, show (⟨#[58]⟩ : ByteArray).size = 1 from rfl] at c11b3)
   have H' := Aside0.mk H
   clear H
   try go_wp2
   replace HB := am (below_drew1 HB.out)
   have p606 : 0 ≤ (x4_1 : Int) := of_decide_eq_true xA
   have q606 : x4_1 < (l0.length : Int) := of_decide_eq_true xA
   obtain ⟨ad606, e606, hx606_0, hx606_1, hx606_2⟩ := at_T93 HR0.out x4_1 p606 q606
   have hw606_2 := hx606_2
   have hw606_1 := hx606_1
   have hw606_0 := hx606_0
   cases e606
   replace hx606_0 := hc HB hx606_0
   replace hx606_1 := hc HB hx606_1
   replace hx606_2 := hc HB hx606_2
   replace p606 := eq_true p606
   replace q606 := eq_true q606
   have p607 : 0 ≤ (x4_1 : Int) := of_decide_eq_true xA
   have q607 : x4_1 < (l0.length : Int) := of_decide_eq_true xA
   obtain ⟨ad607, e607, hx607_0, hx607_1, hx607_2⟩ := at_T93 HR0.out x4_1 p607 q607
   have hw607_2 := hx607_2
   have hw607_1 := hx607_1
   have hw607_0 := hx607_0
   obtain rfl : ad606 = ad607 := (by injection e607)
   replace hx607_0 := hc HB hx607_0
   replace hx607_1 := hc HB hx607_1
   replace hx607_2 := hc HB hx607_2
   replace p607 := eq_true p607
   replace q607 := eq_true q607
   have p609 : 0 ≤ (x4_1 : Int) := of_decide_eq_true xA
   have q609 : x4_1 < (l0.length : Int) := of_decide_eq_true xA
   obtain ⟨ad609, e609, hx609_0, hx609_1, hx609_2⟩ := at_T93 HR0.out x4_1 p609 q609
   have hw609_2 := hx609_2
   have hw609_1 := hx609_1
   have hw609_0 := hx609_0
   obtain rfl : ad606 = ad609 := (by injection e609)
   replace hx609_0 := hc HB hx609_0
   replace hx609_1 := hc HB hx609_1
   replace hx609_2 := hc HB hx609_2
   replace p609 := eq_true p609
   replace q609 := eq_true q609
   refine start_ (n := 25) (S := fun w' => w'.cell? (ad606.add ((x4_1).toNat * 3)) = some (.string ((rd_T93 l0 x4_1).f0)) ∧ w'.cell? ⟨(ad606.add ((x4_1).toNat * 3)).block, (ad606.add ((x4_1).toNat * 3)).off + 1, none⟩ = some (.int .i64 ((rd_T93 l0 x4_1).f1)) ∧ w'.cell? ⟨(ad606.add ((x4_1).toNat * 3)).block, (ad606.add ((x4_1).toNat * 3)).off + 2, none⟩ = some (.int .i64 ((rd_T93 l0 x4_1).f2)) ∧ w'.cell? (ad606.add ((x4_1).toNat * 3)) = some (.string ((rd_T93 l0 x4_1).f0)) ∧ w'.cell? ⟨(ad606.add ((x4_1).toNat * 3)).block, (ad606.add ((x4_1).toNat * 3)).off + 1, none⟩ = some (.int .i64 ((rd_T93 l0 x4_1).f1)) ∧ w'.cell? ⟨(ad606.add ((x4_1).toNat * 3)).block, (ad606.add ((x4_1).toNat * 3)).off + 2, none⟩ = some (.int .i64 ((rd_T93 l0 x4_1).f2)) ∧ w'.cell? (ad606.add ((x4_1).toNat * 3)) = some (.string ((rd_T93 l0 x4_1).f0)) ∧ w'.cell? ⟨(ad606.add ((x4_1).toNat * 3)).block, (ad606.add ((x4_1).toNat * 3)).off + 1, none⟩ = some (.int .i64 ((rd_T93 l0 x4_1).f1)) ∧ w'.cell? ⟨(ad606.add ((x4_1).toNat * 3)).block, (ad606.add ((x4_1).toNat * 3)).off + 2, none⟩ = some (.int .i64 ((rd_T93 l0 x4_1).f2))) (ds := []) (bm 25 0) (by kernel_rfl) rfl rfl ⟨(hd HB hw606_0), (hd HB hw606_1), (hd HB hw606_2), (hd HB hw607_0), (hd HB hw607_1), (hd HB hw607_2), (hd HB hw609_0), (hd HB hw609_1), (hd HB hw609_2)⟩ (fun hHeld => ?_); refine with_tabW spec_l9Peaks.tab5 spec_l9Peaks.bits5 (fun HT_ HW_ => ?_)
   generalize wr.drew = w12 at HB hx606_0 hx606_1 hx606_2 hx607_0 hx607_1 hx607_2 hx609_0 hx609_1 hx609_2 hHeld ⊢
   refine pA 0 11 (bm 25 1) HT_ ?_
   refine pA 1 12 (bm 25 3) HT_ ?_
   refine pA 2 13 (bm 25 7) HT_ ?_
   refine pA 3 14 (bm 25 15) HT_ ?_
   refine pA 4 15 (bm 25 31) HT_ ?_
   refine pA 5 16 (bm 25 63) HT_ ?_
   refine pA 9 20 (bm 25 575) HT_ ?_
   refine pA 10 21 (bm 25 1599) HT_ ?_
   refine pA 11 22 (bm 25 3647) HT_ ?_
   refine pA 12 23 (bm 25 7743) HT_ ?_
   refine pA 17 28 (bm 25 138815) HT_ ?_
   refine pA 18 29 (bm 25 400959) HT_ ?_
   refine pA 19 30 (bm 25 925247) HT_ ?_
   refine pA 20 31 (bm 25 1973823) HT_ ?_
   refine tA 6 17 (bm 25 1973887) HT_ HW_ hHeld ?_
   refine pA 7 18 (bm 25 1974015) HT_ ?_
   refine pA 8 19 (bm 25 1974271) HT_ ?_
   refine tA 13 24 (bm 25 1982463) HT_ HW_ hHeld ?_
   refine tA 21 32 (bm 25 4079615) HT_ HW_ hHeld ?_
   refine oA 14 (some 25) (bm 25 4095999) HT_ fun K hK => ?_
   refine gA Tryz.func59 #[.int .i64 ((rd_T93 l0 x4_1).f1)] ?_
   with_reducible refine (spec_l1Dec.calls k1 ((rd_T93 l0 x4_1).f1) t608 _ A7.out).mono ?_
   rintro e w13 ⟨rfl, hb⟩
   refine ⟨_, rfl, ?_⟩
   replace HB := kH HB hb
   (try clear hb)
   (try clear hb2)
   (try clear hk)
   (try clear hi)
   refine hK.out _ _ ⟨(hd HB hw606_0), (hd HB hw606_1), (hd HB hw606_2), (hd HB hw607_0), (hd HB hw607_1), (hd HB hw607_2), (hd HB hw609_0), (hd HB hw609_1), (hd HB hw609_2)⟩ (fun hHeld => ?_)
   clear hK K
   refine nA (some 25) ?_
   refine pA 15 26 (bm 25 4128767) HT_ ?_
   refine pA 16 27 (bm 25 4194303) HT_ ?_
   refine oA 22 (some 33) (bm 25 8388607) HT_ fun K hK => ?_
   refine gA Tryz.func59 #[.int .i64 ((rd_T93 l0 x4_1).f2)] ?_
   with_reducible refine (spec_l1Dec.calls k1 ((rd_T93 l0 x4_1).f2) t610 _ A10.out).mono ?_
   rintro e w14 ⟨rfl, hb⟩
   refine ⟨_, rfl, ?_⟩
   replace HB := kH HB hb
   (try clear hb)
   (try clear hb2)
   (try clear hk)
   (try clear hi)
   refine hK.out _ _ ⟨(hd HB hw606_0), (hd HB hw606_1), (hd HB hw606_2), (hd HB hw607_0), (hd HB hw607_1), (hd HB hw607_2), (hd HB hw609_0), (hd HB hw609_1), (hd HB hw609_2)⟩ (fun hHeld => ?_)
   clear hK K
   refine nA (some 33) ?_
   refine pA 23 34 (bm 25 16777215) HT_ ?_
   refine pA 24 3 (bm 25 33554431) HT_ ?_
   refine done_ (done_of HT_.out (by kernel_rfl)) ?_
   try go_wp2
   go_roundg k1
   case measure => have := HK1.out; omega
   case rel => exact ⟨((((((x3_1 ++ (⟨#[32]⟩ : ByteArray)) ++ ((rd_T93 l0 x4_1).f0)) ++ (⟨#[58]⟩ : ByteArray)) ++ t608) ++ (⟨#[58]⟩ : ByteArray)) ++ t610), (wrap64 (x4_1 + 1)), xR, xR, H', ⟨xL HK1⟩, ⟨bl HB⟩⟩
def spec_l9Sides.l0 : Nat → List (S48) → ByteArray → Int → Option (ByteArray)
 | 0, _, _, _ => none
 | k + 1, x0, x3, x4 => if x4 < (x0.length : Int) then (if 0 ≤ x4 then (if (rd_T48 x0 x4).f1 = true then (if x3.size + 1 ≤ 9223372036854775807 then (if (x3 ++ (⟨#[32]⟩ : ByteArray)).size + 1 ≤ 9223372036854775807 then (if ((x3 ++ (⟨#[32]⟩ : ByteArray)) ++ (⟨#[108]⟩ : ByteArray)).size + ((rd_T48 x0 x4).f0).size ≤ 9223372036854775807 then (spec_l9Sides.l0 k x0 (((x3 ++ (⟨#[32]⟩ : ByteArray)) ++ (⟨#[108]⟩ : ByteArray)) ++ ((rd_T48 x0 x4).f0)) (wrap64 (x4 + 1))) else (none)) else (none)) else (none)) else (if x3.size + 1 ≤ 9223372036854775807 then (if (x3 ++ (⟨#[32]⟩ : ByteArray)).size + 1 ≤ 9223372036854775807 then (if ((x3 ++ (⟨#[32]⟩ : ByteArray)) ++ (⟨#[114]⟩ : ByteArray)).size + ((rd_T48 x0 x4).f0).size ≤ 9223372036854775807 then (spec_l9Sides.l0 k x0 (((x3 ++ (⟨#[32]⟩ : ByteArray)) ++ (⟨#[114]⟩ : ByteArray)) ++ ((rd_T48 x0 x4).f0)) (wrap64 (x4 + 1))) else (none)) else (none)) else (none))) else (none)) else (some x3)
def spec_l9Sides.f (k : Nat) (l0 : List (S48)) : Option (ByteArray) := spec_l9Sides.l0 k l0 (⟨#[]⟩ : ByteArray) 0
theorem spec_l9Sides.mono_l : ∀ k, (∀ y0 y1 y2, LeO (spec_l9Sides.l0 k y0 y1 y2) (spec_l9Sides.l0 (k + 1) y0 y1 y2))
 | 0 => fun _ _ _ r h => by simp [spec_l9Sides.l0] at h
 | k + 1 => by
  have ih0 := spec_l9Sides.mono_l k
  ·intro y0 y1 y2
   unfold spec_l9Sides.l0
   exact mo1 ih0
theorem spec_l9Sides.mono : ∀ a0 k, LeO (spec_l9Sides.f k a0) (spec_l9Sides.f (k + 1) a0) := by
 intro a0 k
 have ih0 := spec_l9Sides.mono_l k
 unfold spec_l9Sides.f
 exact mo1 ih0
theorem spec_l9Sides.calls (k : Nat) (A0 : Option Addr) (c0 : Nat) (l0 : List (S48)) (r : ByteArray) (w : World) (hr0 : Kd.C k48 w A0 l0.length l0) (hc0 : l0.length ≤ c0) (h : spec_l9Sides.f k l0 = some r) :
  Calls Tryz.prog 62 #[.slice A0 l0.length c0] w fun e w' => e = .returned (.string r) ∧ Drawn0 w w' := by
 have HR0 := Aside0.mk hr0
 have HC0 := Aside0.mk hc0
 clear hr0 hc0
 have H : (spec_l9Sides.l0 k l0 (⟨#[]⟩ : ByteArray) 0) = some r := h
 clear h
 have H' := Aside0.mk H
 clear H
 go_enter Tryz.func62, Tryz.ntmps62
 go_wp2
 go_loopg [3, 4] k (fun kq v3 v4 w' => ∃ (x3_1 : ByteArray) (x4_1 : Int), v3 = .string x3_1 ∧ v4 = .int .i64 x4_1 ∧ Aside0 (spec_l9Sides.l0 kq l0 x3_1 x4_1 = some r) ∧ Aside0 (kq ≤ k) ∧ Drawn0 w w')
 case atStart => exact ⟨((⟨#[]⟩ : ByteArray)), (0), xR, xR, H', ⟨Nat.le_refl _⟩, xW⟩
 case round =>
  clear H'
  obtain ⟨x3_1, x4_1, rfl, rfl, HA, HK1, ⟨m1, rfl⟩⟩ := hrel
  cases gk with
  | zero => exact absurd HA.out (by simp [spec_l9Sides.l0])
  | succ k1 =>
   have H := HA.out
   clear HA
   simp only [spec_l9Sides.l0] at H
   by_cases c2 : x4_1 < (l0.length : Int)
   rotate_left
   ·rw [if_neg c2] at H
    have c2b0 := decide_eq_false c2
    clear c2
    obtain rfl := Option.some.inj H
    go_wp2
    go_ret
    exact ⟨xR, xW⟩
   rw [if_pos c2] at H
   have c2b0 := decide_eq_true c2
   clear c2
   replace H := ipd H
   obtain ⟨c3b0, H⟩ := H
   obtain ⟨bq4, hbq4⟩ : ∃ b_ : Bool, b_ = ((rd_T48 l0 x4_1).f1) := ⟨_, rfl⟩
   replace H : (if bq4 = true then (if x3_1.size + 1 ≤ 9223372036854775807 then (if (x3_1 ++ (⟨#[32]⟩ : ByteArray)).size + 1 ≤ 9223372036854775807 then (if ((x3_1 ++ (⟨#[32]⟩ : ByteArray)) ++ (⟨#[108]⟩ : ByteArray)).size + ((rd_T48 l0 x4_1).f0).size ≤ 9223372036854775807 then (spec_l9Sides.l0 k1 l0 (((x3_1 ++ (⟨#[32]⟩ : ByteArray)) ++ (⟨#[108]⟩ : ByteArray)) ++ ((rd_T48 l0 x4_1).f0)) (wrap64 (x4_1 + 1))) else (none)) else (none)) else (none)) else (if x3_1.size + 1 ≤ 9223372036854775807 then (if (x3_1 ++ (⟨#[32]⟩ : ByteArray)).size + 1 ≤ 9223372036854775807 then (if ((x3_1 ++ (⟨#[32]⟩ : ByteArray)) ++ (⟨#[114]⟩ : ByteArray)).size + ((rd_T48 l0 x4_1).f0).size ≤ 9223372036854775807 then (spec_l9Sides.l0 k1 l0 (((x3_1 ++ (⟨#[32]⟩ : ByteArray)) ++ (⟨#[114]⟩ : ByteArray)) ++ ((rd_T48 l0 x4_1).f0)) (wrap64 (x4_1 + 1))) else (none)) else (none)) else (none))) = some r := by rw [← hbq4] at H; exact H
   have Nbq4 := Aside0.mk hbq4
   clear hbq4
   have p611 : 0 ≤ (x4_1 : Int) := of_decide_eq_true xA
   have q611 : x4_1 < (l0.length : Int) := of_decide_eq_true xA
   obtain ⟨ad611, e611, hx611_0, hx611_1⟩ := at_T48 HR0.out x4_1 p611 q611
   (try rw [← Nbq4.out] at hx611_1)
   cases e611
   replace p611 := eq_true p611
   replace q611 := eq_true q611
   by_cases c5 : bq4 = true
   ·subst c5
    rw [if_pos rfl] at H
    replace H := ip H
    obtain ⟨c6, H⟩ := H
    have c6b0 := eq_true c6
    have c6b1 := decide_eq_true c6
    have c6b2 := nf c6
    replace H := ip H
    obtain ⟨c7, H⟩ := H
    have c7b0 := eq_true c7
    have c7b1 := decide_eq_true c7
    have c7b2 := nf c7
    try (have c7b3 := c7b2; simp only [ByteArray.size_append, show (⟨#[32]⟩ : ByteArray).size = 1 from rfl] at c7b3)
    replace H := ip H
    obtain ⟨c8, H⟩ := H
    have c8b0 := eq_true c8
    have c8b1 := decide_eq_true c8
    have c8b2 := nf c8
    try (have c8b3 := c8b2; simp only [ByteArray.size_append, show (⟨#[108]⟩ : ByteArray).size = 1 from rfl, show (⟨#[32]⟩ : ByteArray).size = 1 from rfl] at c8b3)
    have H' := Aside0.mk H
    clear H
    have p612 : 0 ≤ (x4_1 : Int) := of_decide_eq_true xA
    have q612 : x4_1 < (l0.length : Int) := of_decide_eq_true xA
    obtain ⟨ad612, e612, hx612_0, hx612_1⟩ := at_T48 HR0.out x4_1 p612 q612
    (try rw [← Nbq4.out] at hx612_1)
    obtain rfl : ad611 = ad612 := (by injection e612)
    replace p612 := eq_true p612
    replace q612 := eq_true q612
    go_wp2
    go_roundg k1
    case measure => have := HK1.out; omega
    case rel => exact ⟨(((x3_1 ++ (⟨#[32]⟩ : ByteArray)) ++ (⟨#[108]⟩ : ByteArray)) ++ ((rd_T48 l0 x4_1).f0)), (wrap64 (x4_1 + 1)), xR, xR, H', ⟨xL HK1⟩, xW⟩
   replace c5 := Bool.eq_false_iff.mpr c5
   subst c5
   rw [if_neg (show ¬ (false = true) by decide)] at H
   replace H := ip H
   obtain ⟨c9, H⟩ := H
   have c9b0 := eq_true c9
   have c9b1 := decide_eq_true c9
   have c9b2 := nf c9
   replace H := ip H
   obtain ⟨c10, H⟩ := H
   have c10b0 := eq_true c10
   have c10b1 := decide_eq_true c10
   have c10b2 := nf c10
   try (have c10b3 := c10b2; simp only [ByteArray.size_append, show (⟨#[32]⟩ : ByteArray).size = 1 from rfl] at c10b3)
   replace H := ip H
   obtain ⟨c11, H⟩ := H
   have c11b0 := eq_true c11
   have c11b1 := decide_eq_true c11
   have c11b2 := nf c11
   try (have c11b3 := c11b2; simp only [ByteArray.size_append, show (⟨#[114]⟩ : ByteArray).size = 1 from rfl, show (⟨#[32]⟩ : ByteArray).size = 1 from rfl] at c11b3)
   have H' := Aside0.mk H
   clear H
   have p613 : 0 ≤ (x4_1 : Int) := of_decide_eq_true xA
   have q613 : x4_1 < (l0.length : Int) := of_decide_eq_true xA
   obtain ⟨ad613, e613, hx613_0, hx613_1⟩ := at_T48 HR0.out x4_1 p613 q613
   (try rw [← Nbq4.out] at hx613_1)
   obtain rfl : ad611 = ad613 := (by injection e613)
   replace p613 := eq_true p613
   replace q613 := eq_true q613
   go_wp2
   go_roundg k1
   case measure => have := HK1.out; omega
   case rel => exact ⟨(((x3_1 ++ (⟨#[32]⟩ : ByteArray)) ++ (⟨#[114]⟩ : ByteArray)) ++ ((rd_T48 l0 x4_1).f0)), (wrap64 (x4_1 + 1)), xR, xR, H', ⟨xL HK1⟩, xW⟩
def spec_l9Put.f (k : Nat) (a0_0 : Int) (a0_1 : ByteArray) (a0_2 : ByteArray) (a0_3 : Int) (a0_4 : Int) (a0_5 : Int) (l0_6 : List (S93)) (l0_7 : List (S93)) (l0_8 : List (S48)) : Option (ByteArray) := (spec_l1Dec.f k a0_0).bind fun t615 => (if t615.size + 1 ≤ 9223372036854775807 then ((spec_l3Put.f k a0_1 a0_2 a0_3 a0_4 a0_5).bind fun t616 => (if (t615 ++ (⟨#[32]⟩ : ByteArray)).size + t616.size ≤ 9223372036854775807 then (if ((t615 ++ (⟨#[32]⟩ : ByteArray)) ++ t616).size + 6 ≤ 9223372036854775807 then ((spec_l9Peaks.f k l0_6).bind fun t617 => (if (((t615 ++ (⟨#[32]⟩ : ByteArray)) ++ t616) ++ (⟨#[10, 112, 101, 97, 107, 115]⟩ : ByteArray)).size + t617.size ≤ 9223372036854775807 then (if ((((t615 ++ (⟨#[32]⟩ : ByteArray)) ++ t616) ++ (⟨#[10, 112, 101, 97, 107, 115]⟩ : ByteArray)) ++ t617).size + 6 ≤ 9223372036854775807 then ((spec_l9Peaks.f k l0_7).bind fun t618 => (if (((((t615 ++ (⟨#[32]⟩ : ByteArray)) ++ t616) ++ (⟨#[10, 112, 101, 97, 107, 115]⟩ : ByteArray)) ++ t617) ++ (⟨#[10, 115, 116, 101, 112, 115]⟩ : ByteArray)).size + t618.size ≤ 9223372036854775807 then (if ((((((t615 ++ (⟨#[32]⟩ : ByteArray)) ++ t616) ++ (⟨#[10, 112, 101, 97, 107, 115]⟩ : ByteArray)) ++ t617) ++ (⟨#[10, 115, 116, 101, 112, 115]⟩ : ByteArray)) ++ t618).size + 6 ≤ 9223372036854775807 then ((spec_l9Sides.f k l0_8).bind fun t619 => (if (((((((t615 ++ (⟨#[32]⟩ : ByteArray)) ++ t616) ++ (⟨#[10, 112, 101, 97, 107, 115]⟩ : ByteArray)) ++ t617) ++ (⟨#[10, 115, 116, 101, 112, 115]⟩ : ByteArray)) ++ t618) ++ (⟨#[10, 115, 105, 100, 101, 115]⟩ : ByteArray)).size + t619.size ≤ 9223372036854775807 then (if ((((((((t615 ++ (⟨#[32]⟩ : ByteArray)) ++ t616) ++ (⟨#[10, 112, 101, 97, 107, 115]⟩ : ByteArray)) ++ t617) ++ (⟨#[10, 115, 116, 101, 112, 115]⟩ : ByteArray)) ++ t618) ++ (⟨#[10, 115, 105, 100, 101, 115]⟩ : ByteArray)) ++ t619).size + 1 ≤ 9223372036854775807 then (some (((((((((t615 ++ (⟨#[32]⟩ : ByteArray)) ++ t616) ++ (⟨#[10, 112, 101, 97, 107, 115]⟩ : ByteArray)) ++ t617) ++ (⟨#[10, 115, 116, 101, 112, 115]⟩ : ByteArray)) ++ t618) ++ (⟨#[10, 115, 105, 100, 101, 115]⟩ : ByteArray)) ++ t619) ++ (⟨#[10]⟩ : ByteArray))) else (none)) else (none))) else (none)) else (none))) else (none)) else (none))) else (none)) else (none))) else (none))
theorem spec_l9Put.mono : ∀ a0 a1 a2 a3 a4 a5 a6 a7 a8 k, LeO (spec_l9Put.f k a0 a1 a2 a3 a4 a5 a6 a7 a8) (spec_l9Put.f (k + 1) a0 a1 a2 a3 a4 a5 a6 a7 a8) := by
 intro a0 a1 a2 a3 a4 a5 a6 a7 a8 k
 unfold spec_l9Put.f
 exact mo4 spec_l1Dec.mono spec_l3Put.mono spec_l9Peaks.mono spec_l9Sides.mono
def spec_l9Put.T1 : Bool × List (List Nat × List Nat) := (true, [([], []), ([0], [0]), ([1], [1]), ([2], [2]), ([], []), ([4], [4]), ([5, 2], [5]), ([3, 6], [3, 6]), ([7], [7]), ([], []), ([9], [9]), ([10], [10]), ([11, 6], [11]), ([8, 12], [8, 12]), ([13], [13]), ([], []), ([15], [15]), ([16], [16]), ([17, 12], [17]), ([14, 18], [14, 18]), ([19], [19]), ([], []), ([21], [21]), ([22, 18], [22]), ([20, 23], [20, 23]), ([24], [24]), ([25, 23, 0, 1, 2, 3, 4, 5, 6, 7, 8, 9, 10, 11, 12, 13, 14, 15, 16, 17, 18, 19, 20, 21, 22, 23, 24, 25], [25])])
def spec_l9Put.B1 : List Nat := [0, 1, 3, 7, 0, 16, 55, 127, 255, 0, 512, 1536, 3703, 8191, 16383, 0, 32768, 98304, 237175, 524287, 1048575, 0, 2097152, 6790775, 16777215, 33554431, 67108863]
theorem spec_l9Put.tab1 : rtab .any (opsOf Tryz.f23 1) = spec_l9Put.T1 := by kernel_rfl
theorem spec_l9Put.bits1 : waitsOk spec_l9Put.T1.2 spec_l9Put.B1 = true := by kernel_rfl
theorem spec_l9Put.calls (k : Nat) (a0_0 : Int) (a0_1 : ByteArray) (a0_2 : ByteArray) (a0_3 : Int) (a0_4 : Int) (a0_5 : Int) (A0_6 : Option Addr) (c0_6 : Nat) (l0_6 : List (S93)) (A0_7 : Option Addr) (c0_7 : Nat) (l0_7 : List (S93)) (A0_8 : Option Addr) (c0_8 : Nat) (l0_8 : List (S48)) (r : ByteArray) (w : World) (hr0_6 : Kd.C k93 w A0_6 l0_6.length l0_6) (hc0_6 : l0_6.length ≤ c0_6) (hr0_7 : Kd.C k93 w A0_7 l0_7.length l0_7) (hc0_7 : l0_7.length ≤ c0_7) (hr0_8 : Kd.C k48 w A0_8 l0_8.length l0_8) (hc0_8 : l0_8.length ≤ c0_8) (h : spec_l9Put.f k a0_0 a0_1 a0_2 a0_3 a0_4 a0_5 l0_6 l0_7 l0_8 = some r) :
  Calls Tryz.prog 23 #[.agg #[.int .i64 a0_0, .string a0_1, .string a0_2, .int .i64 a0_3, .int .i64 a0_4, .int .i64 a0_5, .slice A0_6 l0_6.length c0_6, .slice A0_7 l0_7.length c0_7, .slice A0_8 l0_8.length c0_8]] w fun e w' => e = .returned (.string r) ∧ Below w.heap.size w w' := by
 have hu30 := Tryz.underlying30
 have hu24 := Tryz.underlying24
 have HR0_6 := Aside0.mk hr0_6
 have HC0_6 := Aside0.mk hc0_6
 clear hr0_6 hc0_6
 have HR0_7 := Aside0.mk hr0_7
 have HC0_7 := Aside0.mk hc0_7
 clear hr0_7 hc0_7
 have HR0_8 := Aside0.mk hr0_8
 have HC0_8 := Aside0.mk hc0_8
 clear hr0_8 hc0_8
 have HB := Aside0.mk (Below.refl w.heap.size w)
 have H : ((spec_l1Dec.f k a0_0).bind fun t615 => (if t615.size + 1 ≤ 9223372036854775807 then ((spec_l3Put.f k a0_1 a0_2 a0_3 a0_4 a0_5).bind fun t616 => (if (t615 ++ (⟨#[32]⟩ : ByteArray)).size + t616.size ≤ 9223372036854775807 then (if ((t615 ++ (⟨#[32]⟩ : ByteArray)) ++ t616).size + 6 ≤ 9223372036854775807 then ((spec_l9Peaks.f k l0_6).bind fun t617 => (if (((t615 ++ (⟨#[32]⟩ : ByteArray)) ++ t616) ++ (⟨#[10, 112, 101, 97, 107, 115]⟩ : ByteArray)).size + t617.size ≤ 9223372036854775807 then (if ((((t615 ++ (⟨#[32]⟩ : ByteArray)) ++ t616) ++ (⟨#[10, 112, 101, 97, 107, 115]⟩ : ByteArray)) ++ t617).size + 6 ≤ 9223372036854775807 then ((spec_l9Peaks.f k l0_7).bind fun t618 => (if (((((t615 ++ (⟨#[32]⟩ : ByteArray)) ++ t616) ++ (⟨#[10, 112, 101, 97, 107, 115]⟩ : ByteArray)) ++ t617) ++ (⟨#[10, 115, 116, 101, 112, 115]⟩ : ByteArray)).size + t618.size ≤ 9223372036854775807 then (if ((((((t615 ++ (⟨#[32]⟩ : ByteArray)) ++ t616) ++ (⟨#[10, 112, 101, 97, 107, 115]⟩ : ByteArray)) ++ t617) ++ (⟨#[10, 115, 116, 101, 112, 115]⟩ : ByteArray)) ++ t618).size + 6 ≤ 9223372036854775807 then ((spec_l9Sides.f k l0_8).bind fun t619 => (if (((((((t615 ++ (⟨#[32]⟩ : ByteArray)) ++ t616) ++ (⟨#[10, 112, 101, 97, 107, 115]⟩ : ByteArray)) ++ t617) ++ (⟨#[10, 115, 116, 101, 112, 115]⟩ : ByteArray)) ++ t618) ++ (⟨#[10, 115, 105, 100, 101, 115]⟩ : ByteArray)).size + t619.size ≤ 9223372036854775807 then (if ((((((((t615 ++ (⟨#[32]⟩ : ByteArray)) ++ t616) ++ (⟨#[10, 112, 101, 97, 107, 115]⟩ : ByteArray)) ++ t617) ++ (⟨#[10, 115, 116, 101, 112, 115]⟩ : ByteArray)) ++ t618) ++ (⟨#[10, 115, 105, 100, 101, 115]⟩ : ByteArray)) ++ t619).size + 1 ≤ 9223372036854775807 then (some (((((((((t615 ++ (⟨#[32]⟩ : ByteArray)) ++ t616) ++ (⟨#[10, 112, 101, 97, 107, 115]⟩ : ByteArray)) ++ t617) ++ (⟨#[10, 115, 116, 101, 112, 115]⟩ : ByteArray)) ++ t618) ++ (⟨#[10, 115, 105, 100, 101, 115]⟩ : ByteArray)) ++ t619) ++ (⟨#[10]⟩ : ByteArray))) else (none)) else (none))) else (none)) else (none))) else (none)) else (none))) else (none)) else (none))) else (none))) = some r := h
 clear h
 replace H := oa H
 obtain ⟨t615, A2, H⟩ := H
 replace H := ip H
 obtain ⟨c3, H⟩ := H
 have c3b0 := eq_true c3
 have c3b1 := decide_eq_true c3
 have c3b2 := nf c3
 replace H := oa H
 obtain ⟨t616, A4, H⟩ := H
 replace H := ip H
 obtain ⟨c5, H⟩ := H
 have c5b0 := eq_true c5
 have c5b1 := decide_eq_true c5
 have c5b2 := nf c5
 try (have c5b3 := c5b2; simp only [ByteArray.size_append, show (⟨#[32]⟩ : ByteArray).size = 1 from rfl] at c5b3)
 replace H := ip H
 obtain ⟨c6, H⟩ := H
 have c6b0 := eq_true c6
 have c6b1 := decide_eq_true c6
 have c6b2 := nf c6
 try (have c6b3 := c6b2; simp only [ByteArray.size_append, show (⟨#[32]⟩ : ByteArray).size = 1 from rfl] at c6b3)
 replace H := oa H
 obtain ⟨t617, A7, H⟩ := H
 replace H := ip H
 obtain ⟨c8, H⟩ := H
 have c8b0 := eq_true c8
 have c8b1 := decide_eq_true c8
 have c8b2 := nf c8
 try (have c8b3 := c8b2; simp only [ByteArray.size_append, show (⟨#[10, 112, 101, 97, 107, 115]⟩ : ByteArray).size = 6 from rfl, show (⟨#[32]⟩ : ByteArray).size = 1 from rfl] at c8b3)
 replace H := ip H
 obtain ⟨c9, H⟩ := H
 have c9b0 := eq_true c9
 have c9b1 := decide_eq_true c9
 have c9b2 := nf c9
 try (have c9b3 := c9b2; simp only [ByteArray.size_append, show (⟨#[10, 112, 101, 97, 107, 115]⟩ : ByteArray).size = 6 from rfl, show (⟨#[32]⟩ : ByteArray).size = 1 from rfl] at c9b3)
 replace H := oa H
 obtain ⟨t618, A10, H⟩ := H
 replace H := ip H
 obtain ⟨c11, H⟩ := H
 have c11b0 := eq_true c11
 have c11b1 := decide_eq_true c11
 have c11b2 := nf c11
 try (have c11b3 := c11b2; simp only [ByteArray.size_append, show (⟨#[10, 112, 101, 97, 107, 115]⟩ : ByteArray).size = 6 from rfl, show (⟨#[10, 115, 116, 101, 112, 115]⟩ : ByteArray).size = 6 from rfl, show (⟨#[32]⟩ : ByteArray).size = 1 from rfl] at c11b3)
 replace H := ip H
 obtain ⟨c12, H⟩ := H
 have c12b0 := eq_true c12
 have c12b1 := decide_eq_true c12
 have c12b2 := nf c12
 try (have c12b3 := c12b2; simp only [ByteArray.size_append, show (⟨#[10, 112, 101, 97, 107, 115]⟩ : ByteArray).size = 6 from rfl, show (⟨#[10, 115, 116, 101, 112, 115]⟩ : ByteArray).size = 6 from rfl, show (⟨#[32]⟩ : ByteArray).size = 1 from rfl] at c12b3)
 replace H := oa H
 obtain ⟨t619, A13, H⟩ := H
 replace H := ip H
 obtain ⟨c14, H⟩ := H
 have c14b0 := eq_true c14
 have c14b1 := decide_eq_true c14
 have c14b2 := nf c14
 try (have c14b3 := c14b2; simp only [ByteArray.size_append, show (⟨#[10, 112, 101, 97, 107, 115]⟩ : ByteArray).size = 6 from rfl, show (⟨#[10, 115, 105, 100, 101, 115]⟩ : ByteArray).size = 6 from rfl, show (⟨#[10, 115, 116, 101, 112, 115]⟩ : ByteArray).size = 6 from rfl, show (⟨#[32]⟩ : ByteArray).size = 1 from rfl] at c14b3)
 replace H := ip H
 obtain ⟨c15, H⟩ := H
 have c15b0 := eq_true c15
 have c15b1 := decide_eq_true c15
 have c15b2 := nf c15
 try (have c15b3 := c15b2; simp only [ByteArray.size_append, show (⟨#[10, 112, 101, 97, 107, 115]⟩ : ByteArray).size = 6 from rfl, show (⟨#[10, 115, 105, 100, 101, 115]⟩ : ByteArray).size = 6 from rfl, show (⟨#[10, 115, 116, 101, 112, 115]⟩ : ByteArray).size = 6 from rfl, show (⟨#[32]⟩ : ByteArray).size = 1 from rfl] at c15b3)
 obtain rfl := Option.some.inj H
 go_enter Tryz.func23, Tryz.ntmps23
 try go_wp2_with ((with_reducible refine gg ?_); first | (refine bE 1 #[.int .i64 a0_0, .string a0_1, .string a0_2, .int .i64 a0_3, .int .i64 a0_4, .int .i64 a0_5, .slice A0_6 l0_6.length c0_6, .slice A0_7 l0_7.length c0_7, .slice A0_8 l0_8.length c0_8] 30 ?_; intro gb614 hg w16 hbox hb; have BK614 := am (hbox); have GW614 := zB hg HB; have GE614 := zB hg HB; replace HB := kH HB hb; clear hb hbox hg) | (refine store_event (t := 30) (p := 1) (v := ?vo_) (w1 := ?wo_) ?hg ?ho ?hn ?hr ?_; (case ho => rfl); (case hg => rfl); (case hn => rfl); (case hr => go_simp; rfl); intro wq_ hW_; have BQ_ := am hW_; have hzq_ := am hW_; replace hW_ := am hW_))
 replace BK614 := am (blk_drew BK614.out)
 replace HB := am (below_drew1 HB.out)
 (try (clear hzq_ BQ_; obtain ⟨hW_⟩ := hW_; subst hW_))
 refine start_ (n := 27) (S := cs9 gb614 (.int .i64 a0_0) (.string a0_1) (.string a0_2) (.int .i64 a0_3) (.int .i64 a0_4) (.int .i64 a0_5) (.slice A0_6 l0_6.length c0_6) (.slice A0_7 l0_7.length c0_7) (.slice A0_8 l0_8.length c0_8)) (ds := []) (bm 27 0) (by kernel_rfl) rfl rfl (bz9 BK614) (fun hHeld => ?_); refine with_tabW spec_l9Put.tab1 spec_l9Put.bits1 (fun HT_ HW_ => ?_)
 generalize w16.drew = w17 at BK614 HB hHeld ⊢
 refine pA 0 3 (bm 27 1) HT_ ?_
 refine pA 4 7 (bm 27 17) HT_ ?_
 refine pA 9 12 (bm 27 529) HT_ ?_
 refine pA 10 13 (bm 27 1553) HT_ ?_
 refine pA 15 18 (bm 27 34321) HT_ ?_
 refine pA 16 19 (bm 27 99857) HT_ ?_
 refine pA 21 24 (bm 27 2197009) HT_ ?_
 refine tA 1 4 (bm 27 2197011) HT_ HW_ hHeld ?_
 refine tA 5 8 (bm 27 2197043) HT_ HW_ hHeld ?_
 refine tA 11 14 (bm 27 2199091) HT_ HW_ hHeld ?_
 refine tA 17 20 (bm 27 2330163) HT_ HW_ hHeld ?_
 refine tA 22 25 (bm 27 6524467) HT_ HW_ hHeld ?_
 refine oA 2 (some 5) (bm 27 6524471) HT_ fun K hK => ?_
 refine gA Tryz.func59 #[.int .i64 a0_0] ?_
 with_reducible refine (spec_l1Dec.calls k a0_0 t615 _ A2.out).mono ?_
 rintro e w18 ⟨rfl, hb⟩
 refine ⟨_, rfl, ?_⟩
 replace BK614 := kP _ BK614 hb
 replace HB := kH HB hb
 (try clear hb)
 (try clear hb2)
 (try clear hk)
 (try clear hi)
 refine hK.out _ _ (bz9 BK614) (fun hHeld => ?_)
 clear hK K
 refine nA (some 5) ?_
 refine pA 3 6 (bm 27 6524479) HT_ ?_
 refine oA 6 (some 9) (bm 27 6524543) HT_ fun K hK => ?_
 refine gA Tryz.func60 #[.agg #[.string a0_1, .string a0_2, .int .i64 a0_3, .int .i64 a0_4, .int .i64 a0_5]] ?_
 with_reducible refine (spec_l3Put.calls k a0_1 a0_2 a0_3 a0_4 a0_5 t616 _ A4.out).mono ?_
 rintro e w19 ⟨rfl, hb⟩
 refine ⟨_, rfl, ?_⟩
 replace BK614 := kP _ BK614 hb
 replace HB := kH HB hb
 (try clear hb)
 (try clear hb2)
 (try clear hk)
 (try clear hi)
 refine hK.out _ _ (bz9 BK614) (fun hHeld => ?_)
 clear hK K
 refine nA (some 9) ?_
 refine pA 7 10 (bm 27 6524671) HT_ ?_
 refine pA 8 11 (bm 27 6524927) HT_ ?_
 refine oA 12 (some 15) (bm 27 6529023) HT_ fun K hK => ?_
 refine gA Tryz.func61 #[.slice A0_6 l0_6.length c0_6] ?_
 with_reducible refine (spec_l9Peaks.calls k _ _ l0_6 t617 _ ?side1 ?side2 A7.out).mono ?_
 (case side1 => exact cb HR0_6 HB)
 (case side2 => exact HC0_6.out)
 rintro e w20 ⟨rfl, hb⟩
 refine ⟨_, rfl, ?_⟩
 replace BK614 := kP _ BK614 hb
 replace HB := kH HB hb
 (try clear hb)
 (try clear hb2)
 (try clear hk)
 (try clear hi)
 refine hK.out _ _ (bz9 BK614) (fun hHeld => ?_)
 clear hK K
 refine nA (some 15) ?_
 refine pA 13 16 (bm 27 6537215) HT_ ?_
 refine pA 14 17 (bm 27 6553599) HT_ ?_
 refine oA 18 (some 21) (bm 27 6815743) HT_ fun K hK => ?_
 refine gA Tryz.func61 #[.slice A0_7 l0_7.length c0_7] ?_
 with_reducible refine (spec_l9Peaks.calls k _ _ l0_7 t618 _ ?side1 ?side2 A10.out).mono ?_
 (case side1 => exact cb HR0_7 HB)
 (case side2 => exact HC0_7.out)
 rintro e w21 ⟨rfl, hb⟩
 refine ⟨_, rfl, ?_⟩
 replace BK614 := kP _ BK614 hb
 replace HB := kH HB hb
 (try clear hb)
 (try clear hb2)
 (try clear hk)
 (try clear hi)
 refine hK.out _ _ (bz9 BK614) (fun hHeld => ?_)
 clear hK K
 refine nA (some 21) ?_
 refine pA 19 22 (bm 27 7340031) HT_ ?_
 refine pA 20 23 (bm 27 8388607) HT_ ?_
 refine oA 23 (some 26) (bm 27 16777215) HT_ fun K hK => ?_
 refine gA Tryz.func62 #[.slice A0_8 l0_8.length c0_8] ?_
 with_reducible refine (spec_l9Sides.calls k _ _ l0_8 t619 _ ?side1 ?side2 A13.out).mono ?_
 (case side1 => exact cb HR0_8 HB)
 (case side2 => exact HC0_8.out)
 rintro e w' ⟨rfl, ⟨nd, rfl⟩⟩
 refine ⟨_, rfl, ?_⟩
 refine hK.out _ _ (bz9 BK614) (fun hHeld => ?_)
 clear hK K
 refine nA (some 26) ?_
 refine pA 24 27 (bm 27 33554431) HT_ ?_
 refine pA 25 28 (bm 27 67108863) HT_ ?_
 refine pA 26 2 (bm 27 134217727) HT_ ?_
 refine done_ (done_of HT_.out (by kernel_rfl)) ?_
 try go_wp2
 (try (clear hzq_ BQ_; obtain ⟨hW_⟩ := hW_; subst hW_))
 go_ret
 exact ⟨xE, xB HB⟩
def spec_PaidPut.f (k : Nat) (a0_0 : Int) (a0_1 : ByteArray) (a0_2 : ByteArray) (a0_3 : Int) (a0_4 : Int) (a0_5 : Int) (l0_6 : List (S93)) (l0_7 : List (S93)) (l0_8 : List (S48)) : Option (ByteArray) := (spec_l9Ok.f k a0_0 a0_1 a0_2 a0_3 a0_4 a0_5 l0_6 l0_7 l0_8).bind fun t621 => (if t621 = true then ((spec_l9Put.f k a0_0 a0_1 a0_2 a0_3 a0_4 a0_5 l0_6 l0_7 l0_8).bind fun t622 => (some t622)) else (some (⟨#[]⟩ : ByteArray)))
theorem spec_PaidPut.mono : ∀ a0 a1 a2 a3 a4 a5 a6 a7 a8 k, LeO (spec_PaidPut.f k a0 a1 a2 a3 a4 a5 a6 a7 a8) (spec_PaidPut.f (k + 1) a0 a1 a2 a3 a4 a5 a6 a7 a8) := by
 intro a0 a1 a2 a3 a4 a5 a6 a7 a8 k
 unfold spec_PaidPut.f
 exact mo2 spec_l9Ok.mono spec_l9Put.mono
theorem spec_PaidPut.calls (k : Nat) (a0_0 : Int) (a0_1 : ByteArray) (a0_2 : ByteArray) (a0_3 : Int) (a0_4 : Int) (a0_5 : Int) (A0_6 : Option Addr) (c0_6 : Nat) (l0_6 : List (S93)) (A0_7 : Option Addr) (c0_7 : Nat) (l0_7 : List (S93)) (A0_8 : Option Addr) (c0_8 : Nat) (l0_8 : List (S48)) (r : ByteArray) (w : World) (hr0_6 : Kd.C k93 w A0_6 l0_6.length l0_6) (hc0_6 : l0_6.length ≤ c0_6) (hr0_7 : Kd.C k93 w A0_7 l0_7.length l0_7) (hc0_7 : l0_7.length ≤ c0_7) (hr0_8 : Kd.C k48 w A0_8 l0_8.length l0_8) (hc0_8 : l0_8.length ≤ c0_8) (h : spec_PaidPut.f k a0_0 a0_1 a0_2 a0_3 a0_4 a0_5 l0_6 l0_7 l0_8 = some r) :
  Calls Tryz.prog 7 #[.agg #[.int .i64 a0_0, .string a0_1, .string a0_2, .int .i64 a0_3, .int .i64 a0_4, .int .i64 a0_5, .slice A0_6 l0_6.length c0_6, .slice A0_7 l0_7.length c0_7, .slice A0_8 l0_8.length c0_8]] w fun e w' => e = .returned (.string r) ∧ Below w.heap.size w w' := by
 have hu30 := Tryz.underlying30
 have HR0_6 := Aside0.mk hr0_6
 have HC0_6 := Aside0.mk hc0_6
 clear hr0_6 hc0_6
 have HR0_7 := Aside0.mk hr0_7
 have HC0_7 := Aside0.mk hc0_7
 clear hr0_7 hc0_7
 have HR0_8 := Aside0.mk hr0_8
 have HC0_8 := Aside0.mk hc0_8
 clear hr0_8 hc0_8
 have HB := Aside0.mk (Below.refl w.heap.size w)
 have H : ((spec_l9Ok.f k a0_0 a0_1 a0_2 a0_3 a0_4 a0_5 l0_6 l0_7 l0_8).bind fun t621 => (if t621 = true then ((spec_l9Put.f k a0_0 a0_1 a0_2 a0_3 a0_4 a0_5 l0_6 l0_7 l0_8).bind fun t622 => (some t622)) else (some (⟨#[]⟩ : ByteArray)))) = some r := h
 clear h
 replace H := oa H
 obtain ⟨t621, A2, H⟩ := H
 go_enter Tryz.func7, Tryz.ntmps7
 go_upto_if 5 with ((with_reducible refine gg ?_); first | (refine bE 1 #[.int .i64 a0_0, .string a0_1, .string a0_2, .int .i64 a0_3, .int .i64 a0_4, .int .i64 a0_5, .slice A0_6 l0_6.length c0_6, .slice A0_7 l0_7.length c0_7, .slice A0_8 l0_8.length c0_8] 30 ?_; intro gb620 hg w5 hbox hb; have BK620 := am (hbox); have GW620 := zB hg HB; have GE620 := zB hg HB; replace HB := kH HB hb; clear hb hbox hg; have hz6 := bc9 BK620) | (refine gL 4 Tryz.func22 #[.agg #[.int .i64 a0_0, .string a0_1, .string a0_2, .int .i64 a0_3, .int .i64 a0_4, .int .i64 a0_5, .slice A0_6 l0_6.length c0_6, .slice A0_7 l0_7.length c0_7, .slice A0_8 l0_8.length c0_8]] ?_; (with_reducible refine (spec_l9Ok.calls k a0_0 a0_1 a0_2 a0_3 a0_4 a0_5 _ _ l0_6 _ _ l0_7 _ _ l0_8 t621 _ ?side1 ?side2 ?side3 ?side4 ?side5 ?side6 A2.out).mono ?_); (case side1 => exact cb HR0_6 HB); (case side2 => exact HC0_6.out); (case side3 => exact cb HR0_7 HB); (case side4 => exact HC0_7.out); (case side5 => exact cb HR0_8 HB); (case side6 => exact HC0_8.out); rintro e w7 ⟨rfl, hb⟩; refine ⟨_, rfl, ?_⟩; replace BK620 := kP _ BK620 hb; replace HB := kH HB hb; (try clear hb)))
 by_cases c3 : t621 = true
 rotate_left
 ·replace c3 := Bool.eq_false_iff.mpr c3
  subst c3
  try simp only [Bool.not_true, Bool.not_false]
  rw [if_neg (show ¬ (false = true) by decide)] at H
  obtain rfl := Option.some.inj H
  go_wp2
  go_ret
  exact ⟨xE, xB HB⟩
 subst c3
 try simp only [Bool.not_true, Bool.not_false]
 rw [if_pos rfl] at H
 replace H := oa H
 obtain ⟨t622, A4, H⟩ := H
 obtain rfl := Option.some.inj H
 have hz8 := bc9 BK620
 go_wp2_with ((with_reducible refine gg ?_); refine gL 7 Tryz.func23 #[.agg #[.int .i64 a0_0, .string a0_1, .string a0_2, .int .i64 a0_3, .int .i64 a0_4, .int .i64 a0_5, .slice A0_6 l0_6.length c0_6, .slice A0_7 l0_7.length c0_7, .slice A0_8 l0_8.length c0_8]] ?_; (with_reducible refine (spec_l9Put.calls k a0_0 a0_1 a0_2 a0_3 a0_4 a0_5 _ _ l0_6 _ _ l0_7 _ _ l0_8 t622 _ ?side1 ?side2 ?side3 ?side4 ?side5 ?side6 A4.out).mono ?_); (case side1 => exact cb HR0_6 HB); (case side2 => exact HC0_6.out); (case side3 => exact cb HR0_7 HB); (case side4 => exact HC0_7.out); (case side5 => exact cb HR0_8 HB); (case side6 => exact HC0_8.out); rintro e w9 ⟨rfl, hb⟩; refine ⟨_, rfl, ?_⟩; replace BK620 := kP _ BK620 hb; replace HB := kH HB hb; (try clear hb))
 go_ret
 exact ⟨xE, xB HB⟩
-- NOT PRINTED: function 103 (utf8_RuneCountInString)
-- NOT PRINTED: function 117 (utf8_decodeRuneInStringSlow)
-- NOT PRINTED: function 104 (utf8_DecodeRuneInString)
-- NOT PRINTED: function 80 (strings_explode)
-- NOT PRINTED: function 118 (bytealg_IndexByteString)
-- NOT PRINTED: function 106 (stringslite_IndexByte)
-- NOT PRINTED: function 107 (bytealg_IndexString)
-- NOT PRINTED: function 108 (bytealg_Cutover)
-- NOT PRINTED: function 119 (bytealg_hashStr_string)
-- NOT PRINTED: function 109 (bytealg_IndexRabinKarp_string)
-- NOT PRINTED: function 83 (stringslite_Index)
-- NOT PRINTED: function 82 (strings_Index)
-- NOT PRINTED: function 105 (bytealg_CountString)
-- NOT PRINTED: function 81 (strings_Count)
-- NOT PRINTED: function 63 (strings_genSplit)
def strings_Split.f (a0 : ByteArray) (a1 : ByteArray) : Option (List ByteArray) := if a0.size < 4294967281 ∧ 1 ≤ a1.size then some (Sh.splitS a0 a1) else none
theorem strings_Split.calls (a0 : ByteArray) (a1 : ByteArray) (r : List ByteArray) (w : World) (h : strings_Split.f a0 a1 = some r) (PQM_ : Aside0 (Sh.HasM w)) :
  Calls Tryz.prog 24 #[.string a0, .string a1] w fun e w' => ∃ v0_ : Value, e = .returned (v0_) ∧ Kd.R Kd.string 9 w' w.heap.size (fun _ => True) v0_ r ∧ Below w.heap.size w w' := by
 unfold strings_Split.f at h
 by_cases hm : a0.size < 4294967281 ∧ 1 ≤ a1.size
 rotate_left
 ·rw [if_neg hm] at h
  exact absurd h (by simp)
 rw [if_pos hm] at h
 obtain rfl := Option.some.inj h
 exact Sh.split_calls a0 a1 hm.1 hm.2 w PQM_.out
-- NOT PRINTED: function 64 (stringslite_Cut)
def strings_Cut.f (a0 : ByteArray) (a1 : ByteArray) : Option (ByteArray × ByteArray × Bool) := if a0.size < 4294967281 then some (Sh.cutS a0 a1) else none
theorem strings_Cut.calls (a0 : ByteArray) (a1 : ByteArray) (r1 : ByteArray) (r2 : ByteArray) (r3 : Bool) (w : World) (h : strings_Cut.f a0 a1 = some (r1, r2, r3)) (PQM_ : Aside0 (Sh.HasM w)) :
  Calls Tryz.prog 25 #[.string a0, .string a1] w fun e w' => e = .returned (.tuple #[.string r1, .string r2, .bool r3]) ∧ Below w.heap.size w w' := by
 unfold strings_Cut.f at h
 by_cases hm : a0.size < 4294967281
 rotate_left
 ·rw [if_neg hm] at h
  exact absurd h (by simp)
 rw [if_pos hm] at h
 have e := Option.some.inj h
 have := Sh.cut_calls a0 a1 hm w PQM_.out
 rw [e] at this
 exact this
mutual
def impl_number.j0 : Nat → ByteArray → Bool → Option (Int × Bool)
 | 0, _, _ => none
 | k + 1, x0, x19 => if x19 = true then (some (0, false)) else (impl_number.l0 k x0 0 0)
def impl_number.l0 : Nat → ByteArray → Int → Int → Option (Int × Bool)
 | 0, _, _, _ => none
 | k + 1, x0, x4, x5 => if x5 < (x0.size : Int) then (if 0 ≤ x5 then ((impl_in.f (wrap64 (bt x0 x5)) 48 57).bind fun t624 => (if t624 = true then (impl_number.l0 k x0 (wrap64 ((wrap64 (10 * x4)) + (((bt x0 x5) - 48) % 256))) (wrap64 (x5 + 1))) else (some (0, false)))) else (none)) else (some (x4, true))
end
def impl_number.f (k : Nat) (a0 : ByteArray) : Option (Int × Bool) := (impl_in.f (a0.size : Int) 1 9).bind fun t623 => (if t623 = true then (if 0 < (a0.size : Int) then (if (bt a0 0) = 48 then (impl_number.j0 k a0 (decide ((a0.size : Int) > 1))) else (impl_number.j0 k a0 false)) else (none)) else (impl_number.j0 k a0 true))
theorem impl_number.mono_l : ∀ k, (∀ y0 y1, LeO (impl_number.j0 k y0 y1) (impl_number.j0 (k + 1) y0 y1)) ∧ (∀ y0 y1 y2, LeO (impl_number.l0 k y0 y1 y2) (impl_number.l0 (k + 1) y0 y1 y2))
 | 0 => ⟨fun _ _ r h => by simp [impl_number.j0] at h, fun _ _ _ r h => by simp [impl_number.l0] at h⟩
 | k + 1 => by
  obtain ⟨ih0, ih1⟩ := impl_number.mono_l k
  refine ⟨?_, ?_⟩
  ·intro y0 y1
   unfold impl_number.j0
   exact mo2 ih0 ih1
  ·intro y0 y1 y2
   unfold impl_number.l0
   exact mo2 ih0 ih1
theorem impl_number.mono : ∀ a0 k, LeO (impl_number.f k a0) (impl_number.f (k + 1) a0) := by
 intro a0 k
 obtain ⟨ih0, ih1⟩ := impl_number.mono_l k
 unfold impl_number.f
 exact mo2 ih0 ih1
theorem impl_number.calls (k : Nat) (a0 : ByteArray) (r1 : Int) (r2 : Bool) (w : World) (h : impl_number.f k a0 = some (r1, r2)) :
  Calls Tryz.prog 26 #[.string a0] w fun e w' => e = .returned (.tuple #[.int .i64 r1, .bool r2]) ∧ Drawn0 w w' := by
 have H : ((impl_in.f (a0.size : Int) 1 9).bind fun t623 => (if t623 = true then (if 0 < (a0.size : Int) then (if (bt a0 0) = 48 then (impl_number.j0 k a0 (decide ((a0.size : Int) > 1))) else (impl_number.j0 k a0 false)) else (none)) else (impl_number.j0 k a0 true))) = some (r1, r2) := h
 clear h
 have HC2 := Aside0.mk H
 clear H
 go_enter Tryz.func26, Tryz.ntmps26
 go_upto_region 1 with (fail)
 go_cut [19] (fun v19 wc => ∃ (kq : Nat) (x19_1 : Bool), v19 = .bool x19_1 ∧ Aside0 (impl_number.j0 kq a0 x19_1 = some (r1, r2)) ∧ Aside0 (kq ≤ k) ∧ Drawn0 w wc)
 case first =>
  have H := HC2.out
  clear HC2
  replace H := oa H
  obtain ⟨t623, A3, H⟩ := H
  by_cases c4 : t623 = true
  rotate_left
  ·replace c4 := Bool.eq_false_iff.mpr c4
   subst c4
   rw [if_neg (show ¬ (false = true) by decide)] at H
   have H' := Aside0.mk H
   clear H
   go_wp2_with ((with_reducible refine gg ?_); refine gL 8 Tryz.func33 #[.int .i64 (a0.size : Int), .int .i64 1, .int .i64 9] ?_; (with_reducible refine (impl_in.calls (a0.size : Int) 1 9 false _ A3.out).mono ?_); rintro e w' ⟨rfl, ⟨nd, rfl⟩⟩; refine ⟨_, rfl, ?_⟩)
   go_meet
   case rel => exact ⟨_, (true), xR, H', ⟨xO⟩, xW⟩
  subst c4
  rw [if_pos rfl] at H
  replace H := ip H
  obtain ⟨c5, H⟩ := H
  have c5b0 := decide_eq_true c5
  have c5b1 : decide (0 < a0.size) = true := decide_eq_true (by omega)
  clear c5
  (first | rw [c5b0] | rw [c5b1] | (simp only [i64_w, i32_w]; rw [c5b0]) | skip)
  by_cases c7 : (bt a0 0) = 48
  rotate_left
  ·rw [if_neg c7] at H
   have c7b0 := beq_eq_false_iff_ne.mpr c7
   have c7b1 := bne_iff_ne.mpr c7
   have H' := Aside0.mk H
   clear H
   go_wp2_with ((with_reducible refine gg ?_); refine gL 8 Tryz.func33 #[.int .i64 (a0.size : Int), .int .i64 1, .int .i64 9] ?_; (with_reducible refine (impl_in.calls (a0.size : Int) 1 9 true _ A3.out).mono ?_); rintro e w' ⟨rfl, ⟨nd, rfl⟩⟩; refine ⟨_, rfl, ?_⟩; have p6 : 0 ≤ (0 : Int) := (by omega); have q6 : 0 < a0.size := (by have : (0 : Int) < (a0.size : Int) := of_decide_eq_true xA; omega); have hx6 : ∀ h : 0 < a0.size, ((a0[0]'h).toNat : Int) = bt a0 0 := bt_at a0 0; clear p6; have qi6 : (0 < (a0.size : Int)) = True := eq_true (of_decide_eq_true xA); replace q6 := eq_true q6)
   go_meet
   case rel => exact ⟨_, (false), xR, H', ⟨xO⟩, xW⟩
  rw [if_pos c7] at H
  have c7b0 := beq_iff_eq.mpr c7
  have c7b1 := bne_eq_false_iff_eq.mpr c7
  clear c7
  have H' := Aside0.mk H
  clear H
  go_wp2_with ((with_reducible refine gg ?_); refine gL 8 Tryz.func33 #[.int .i64 (a0.size : Int), .int .i64 1, .int .i64 9] ?_; (with_reducible refine (impl_in.calls (a0.size : Int) 1 9 true _ A3.out).mono ?_); rintro e w' ⟨rfl, ⟨nd, rfl⟩⟩; refine ⟨_, rfl, ?_⟩; have p6 : 0 ≤ (0 : Int) := (by omega); have q6 : 0 < a0.size := (by have : (0 : Int) < (a0.size : Int) := of_decide_eq_true xA; omega); have hx6 : ∀ h : 0 < a0.size, ((a0[0]'h).toNat : Int) = bt a0 0 := bt_at a0 0; clear p6; have qi6 : (0 < (a0.size : Int)) = True := eq_true (of_decide_eq_true xA); replace q6 := eq_true q6)
  go_meet
  case rel => exact ⟨_, (decide ((a0.size : Int) > 1)), xR, H', ⟨xO⟩, xW⟩
 case rest =>
  clear HC2
  try clear c2
  try clear p2
  try clear c3
  try clear c4
  try clear c5
  try clear c5b0
  try clear c5b1
  try clear p6
  try clear q6
  try clear hx6
  try clear qi6
  try clear c7
  try clear c7b0
  try clear c7b1
  try clear p6
  try clear q6
  obtain ⟨kq, x19_1, rfl, HA, HJ1, ⟨mc1, rfl⟩⟩ := hcut
  cases kq with
  | zero => exact absurd HA.out (by simp [impl_number.j0])
  | succ kj1 =>
   have H := HA.out
   clear HA
   simp only [impl_number.j0] at H
   by_cases c8 : x19_1 = true
   ·subst c8
    rw [if_pos rfl] at H
    simp only [Option.some.injEq, Prod.mk.injEq] at H
    obtain ⟨rfl, rfl⟩ := H
    go_wp2
    go_ret2
    exact ⟨xR, xW⟩
   replace c8 := Bool.eq_false_iff.mpr c8
   subst c8
   rw [if_neg (show ¬ (false = true) by decide)] at H
   have H' := Aside0.mk H
   clear H
   go_wp2
   go_loopg [4, 5] kj1 (fun kq v4 v5 w' => ∃ (x4_2 : Int) (x5_2 : Int), v4 = .int .i64 x4_2 ∧ v5 = .int .i64 x5_2 ∧ Aside0 (impl_number.l0 kq a0 x4_2 x5_2 = some (r1, r2)) ∧ Aside0 (kq ≤ kj1) ∧ Drawn0 w w')
   case atStart => exact ⟨(0), (0), xR, xR, H', ⟨Nat.le_refl _⟩, xW⟩
   case round =>
    clear H'
    try clear c1
    try clear c2
    try clear p2
    try clear c3
    try clear c4
    try clear c5
    try clear c5b0
    try clear c5b1
    try clear p6
    try clear q6
    try clear hx6
    try clear qi6
    try clear c7
    try clear c7b0
    try clear c7b1
    try clear c8
    try clear p2
    try clear p6
    try clear q6
    obtain ⟨x4_2, x5_2, rfl, rfl, HA, HK2, ⟨m2, rfl⟩⟩ := hrel
    cases gk with
    | zero => exact absurd HA.out (by simp [impl_number.l0])
    | succ k2 =>
     have H := HA.out
     clear HA
     simp only [impl_number.l0] at H
     by_cases c9 : x5_2 < (a0.size : Int)
     rotate_left
     ·rw [if_neg c9] at H
      have c9b0 := decide_eq_false c9
      clear c9
      simp only [Option.some.injEq, Prod.mk.injEq] at H
      obtain ⟨rfl, rfl⟩ := H
      go_wp2
      go_ret2
      exact ⟨xR, xW⟩
     rw [if_pos c9] at H
     have c9b0 := decide_eq_true c9
     clear c9
     replace H := ipd H
     obtain ⟨c10b0, H⟩ := H
     replace H := oa H
     obtain ⟨t624, A12, H⟩ := H
     have p11 : 0 ≤ (x5_2 : Int) := of_decide_eq_true xA
     have q11 : x5_2 < (a0.size : Int) := of_decide_eq_true xA
     have hx11 := bt_at a0 x5_2
     replace p11 := eq_true p11
     replace q11 := eq_true q11
     go_upto_if 31 with ((with_reducible refine gg ?_); refine gL 30 Tryz.func33 #[.int .i64 (wrap64 (bt a0 x5_2)), .int .i64 48, .int .i64 57] ?_; (with_reducible refine (impl_in.calls (wrap64 (bt a0 x5_2)) 48 57 t624 _ A12.out).mono ?_); rintro e w' ⟨rfl, ⟨nd, rfl⟩⟩; refine ⟨_, rfl, ?_⟩)
     by_cases c13 : t624 = true
     rotate_left
     ·replace c13 := Bool.eq_false_iff.mpr c13
      subst c13
      try simp only [Bool.not_true, Bool.not_false]
      rw [if_neg (show ¬ (false = true) by decide)] at H
      simp only [Option.some.injEq, Prod.mk.injEq] at H
      obtain ⟨rfl, rfl⟩ := H
      go_wp2
      go_ret2
      exact ⟨xR, xW⟩
     subst c13
     try simp only [Bool.not_true, Bool.not_false]
     rw [if_pos rfl] at H
     have H' := Aside0.mk H
     clear H
     have p14 : 0 ≤ (x5_2 : Int) := of_decide_eq_true xA
     have q14 : x5_2 < (a0.size : Int) := of_decide_eq_true xA
     have hx14 := bt_at a0 x5_2
     replace p14 := eq_true p14
     replace q14 := eq_true q14
     go_wp2
     go_roundg k2
     case measure => have := HJ1.out; have := HK2.out; omega
     case rel => exact ⟨(wrap64 ((wrap64 (10 * x4_2)) + (((bt a0 x5_2) - 48) % 256))), (wrap64 (x5_2 + 1)), xR, xR, H', ⟨by have := HJ1.out; have := HK2.out; omega⟩, xW⟩

end Go.Proofs.YtgjljbaadglpnaaGreatDoor.PFnPaidPut
