/- Functions of the program and what each answers: the kit's print, shortened (wip/press2.py). -/
import Derived.Test.YtgjljbaadglpnaaGreatDoorPFnPaidPutx0
import Derived.Test.YtgjljbaadglpnaaGreatDoorPFnPaidPutx19
namespace Go.Proofs.YtgjljbaadglpnaaGreatDoor.PFnPaidPut
open Go.Proofs.YtgjljbaadglpnaaGreatDoor.Sq Go.RowKit Go.Proofs.YtgjljbaadglpnaaGreatDoorW.PrintWords Go.Proofs.YtgjljbaadglpnaaGreatDoorW.PrintLast Go.Proofs.YtgjljbaadglpnaaGreatDoorW.PrintMore
attribute [local go_sem] max2_int min2_int max_two min_two max_three min_three max_four min_four   -- for this text's walks alone
set_option linter.unusedVariables false
set_option linter.unusedSimpArgs false
set_option maxHeartbeats 64000000
set_option maxRecDepth 100000
def impl_RangeOk.l0 : Nat → List (S93) → Int → List (S93) → Int → Int → Option (Bool)
 | 0, _, _, _, _, _ => none
 | k + 1, x0, x3, x6, x7, x8 => if x8 < x7 then (if 0 ≤ x8 then (if x8 < (x6.length : Int) then ((impl_peakOk.f k ((rd_T93 x6 x8).f0) ((rd_T93 x6 x8).f1) ((rd_T93 x6 x8).f2)).bind fun t550 => (if t550 = true then (if (Go.bits .and .i64 ((rd_T93 x6 x8).f2) (wrap64 (((rd_T93 x6 x8).f2) - 1))) = 0 then (if x8 > 0 then (if 0 ≤ (wrap64 (x8 - 1)) then (if (wrap64 (x8 - 1)) < (x0.length : Int) then (if ((rd_T93 x6 x8).f2) ≥ ((rd_T93 x0 (wrap64 (x8 - 1))).f2) then (some false) else (impl_RangeOk.l0 k x0 (wrap64 (x3 + ((rd_T93 x6 x8).f2))) x6 x7 (wrap64 (x8 + 1)))) else (none)) else (none)) else (impl_RangeOk.l0 k x0 (wrap64 (x3 + ((rd_T93 x6 x8).f2))) x6 x7 (wrap64 (x8 + 1)))) else (some false)) else (some false))) else (none)) else (none)) else (some (decide (x3 ≤ 20)))
def impl_RangeOk.f (k : Nat) (l0 : List (S93)) : Option (Bool) := impl_RangeOk.l0 k l0 0 l0 (l0.length : Int) 0
theorem impl_RangeOk.mono_l : ∀ k, (∀ y0 y1 y2 y3 y4, LeO (impl_RangeOk.l0 k y0 y1 y2 y3 y4) (impl_RangeOk.l0 (k + 1) y0 y1 y2 y3 y4))
 | 0 => fun _ _ _ _ _ r h => by simp [impl_RangeOk.l0] at h
 | k + 1 => by
  have ih0 := impl_RangeOk.mono_l k
  ·intro y0 y1 y2 y3 y4
   unfold impl_RangeOk.l0
   exact mo2 ih0 impl_peakOk.mono
theorem impl_RangeOk.mono : ∀ a0 k, LeO (impl_RangeOk.f k a0) (impl_RangeOk.f (k + 1) a0) := by
 intro a0 k
 have ih0 := impl_RangeOk.mono_l k
 unfold impl_RangeOk.f
 exact mo2 ih0 impl_peakOk.mono
def impl_RangeOk.T5 : Bool × List (List Nat × List Nat) := (true, [([], []), ([0], [0]), ([1], [1]), ([2, 1], [2]), ([3], [3]), ([4, 3], [3, 4]), ([3], [3]), ([6, 3], [3, 6]), ([7, 3], [3, 7]), ([5, 8, 3], [3, 5, 8]), ([9, 3], [3, 9]), ([3, 10], [3, 10]), ([11, 3], [11]), ([12], [12]), ([13, 12], [12, 13]), ([14, 12, 12], [12, 14]), ([15], [15]), ([16, 15], [15, 16]), ([15], [15]), ([15], [15]), ([19, 15], [15, 19]), ([18, 20, 15], [15, 18, 20]), ([21, 15], [15, 21]), ([22, 15], [15, 22]), ([17, 23, 15], [15, 17, 23]), ([15, 24, 12], [12, 15, 24]), ([12, 25], [12, 25])])
def impl_RangeOk.B5 : List Nat := [0, 1, 3, 7, 15, 31, 15, 79, 207, 511, 1023, 2047, 4095, 8191, 16383, 32767, 65535, 131071, 65535, 65535, 589823, 1900543, 3997695, 8191999, 16777215, 33554431, 67108863]
theorem impl_RangeOk.tab5 : rtab .any (opsOf Tryz.f50 5) = impl_RangeOk.T5 := by kernel_rfl
theorem impl_RangeOk.bits5 : waitsOk impl_RangeOk.T5.2 impl_RangeOk.B5 = true := by kernel_rfl
theorem impl_RangeOk.calls (k : Nat) (A0 : Option Addr) (c0 : Nat) (l0 : List (S93)) (r : Bool) (w : World) (hr0 : Kd.C k93 w A0 l0.length l0) (hc0 : l0.length ≤ c0) (h : impl_RangeOk.f k l0 = some r) :
  Calls Tryz.prog 50 #[.slice A0 l0.length c0] w fun e w' => e = .returned (.bool r) ∧ Below w.heap.size w w' := by
 have hu93 := Tryz.underlying93
 have HR0 := Aside0.mk hr0
 have HC0 := Aside0.mk hc0
 clear hr0 hc0
 have HB := Aside0.mk (Below.refl w.heap.size w)
 have H : (impl_RangeOk.l0 k l0 0 l0 (l0.length : Int) 0) = some r := h
 clear h
 have H' := Aside0.mk H
 clear H
 go_enter Tryz.func50, Tryz.ntmps50
 go_wp2
 go_loopg [3, 8] k (fun kq v3 v8 w' => ∃ (x3_1 : Int) (x8_1 : Int), v3 = .int .i64 x3_1 ∧ v8 = .int .i64 x8_1 ∧ Aside0 (impl_RangeOk.l0 kq l0 x3_1 l0 (l0.length : Int) x8_1 = some r) ∧ Aside0 (kq ≤ k) ∧ Aside0 (Below w.heap.size w w'))
 case atStart => exact ⟨(0), (0), xR, xR, H', ⟨Nat.le_refl _⟩, ⟨bl HB⟩⟩
 case round =>
  clear H'
  obtain ⟨x3_1, x8_1, rfl, rfl, HA, HK1, HB⟩ := hrel
  cases gk with
  | zero => exact absurd HA.out (by simp [impl_RangeOk.l0])
  | succ k1 =>
   have H := HA.out
   clear HA
   simp only [impl_RangeOk.l0] at H
   by_cases c2 : x8_1 < (l0.length : Int)
   rotate_left
   ·rw [if_neg c2] at H
    have c2b0 := decide_eq_false c2
    clear c2
    obtain rfl := Option.some.inj H
    go_wp2
    go_ret
    exact ⟨xE, bl HB⟩
   rw [if_pos c2] at H
   have c2b0 := decide_eq_true c2
   clear c2
   replace H := ipd H
   obtain ⟨c3b0, H⟩ := H
   replace H := ipd H
   obtain ⟨c4b0, H⟩ := H
   replace H := oa H
   obtain ⟨t550, A5, H⟩ := H
   by_cases c6 : t550 = true
   rotate_left
   ·replace c6 := Bool.eq_false_iff.mpr c6
    subst c6
    rw [if_neg (show ¬ (false = true) by decide)] at H
    obtain rfl := Option.some.inj H
    have p548 : 0 ≤ (x8_1 : Int) := of_decide_eq_true xA
    have q548 : x8_1 < (l0.length : Int) := of_decide_eq_true xA
    obtain ⟨ad548, e548, hx548_0, hx548_1, hx548_2⟩ := at_T93 HR0.out x8_1 p548 q548
    cases e548
    replace hx548_0 := hc HB hx548_0
    replace hx548_1 := hc HB hx548_1
    replace hx548_2 := hc HB hx548_2
    replace p548 := eq_true p548
    replace q548 := eq_true q548
    try go_wp2_with ((with_reducible refine gg ?_); refine bE 5 #[.string (⟨#[]⟩ : ByteArray), .int .i64 0, .int .i64 0] 93 ?_; intro gb549 hg w35 hbox hb; have BK549 := am (hbox); have GW549 := zB hg HB; have GE549 := zB hg HB; replace HB := kH HB hb; clear hb hbox hg; have hz36 := bc3 BK549)
    have n0_ : Aside0 ((((w35.setCell ⟨gb549, 0, none⟩ (.string ((rd_T93 l0 x8_1).f0))).setCell ⟨gb549, 1, none⟩ (.int .i64 ((rd_T93 l0 x8_1).f1))).setCell ⟨gb549, 2, none⟩ (.int .i64 ((rd_T93 l0 x8_1).f2))).heap[gb549]? = some (.cells #[.string ((rd_T93 l0 x8_1).f0), .int .i64 ((rd_T93 l0 x8_1).f1), .int .i64 ((rd_T93 l0 x8_1).f2)] 93 (0, 0))) := ⟨fb BK549⟩
    have n1_ : Aside0 (Below w.heap.size w (((w35.setCell ⟨gb549, 0, none⟩ (.string ((rd_T93 l0 x8_1).f0))).setCell ⟨gb549, 1, none⟩ (.int .i64 ((rd_T93 l0 x8_1).f1))).setCell ⟨gb549, 2, none⟩ (.int .i64 ((rd_T93 l0 x8_1).f2)))) := ⟨xB HB⟩
    (try clear BK549)
    (try clear HB)
    generalize (((w35.setCell ⟨gb549, 0, none⟩ (.string ((rd_T93 l0 x8_1).f0))).setCell ⟨gb549, 1, none⟩ (.int .i64 ((rd_T93 l0 x8_1).f1))).setCell ⟨gb549, 2, none⟩ (.int .i64 ((rd_T93 l0 x8_1).f2))) = w37 at n0_ n1_ ⊢
    have BK549 := n0_
    have HB := n1_
    clear n0_ n1_
    replace BK549 := am (blk_drew BK549.out)
    replace HB := am (below_drew1 HB.out)
    refine start_ (n := 27) (S := cs3 gb549 (.string ((rd_T93 l0 x8_1).f0)) (.int .i64 ((rd_T93 l0 x8_1).f1)) (.int .i64 ((rd_T93 l0 x8_1).f2))) (ds := []) (bm 27 0) (by kernel_rfl) rfl rfl (bz3 BK549) (fun hHeld => ?_); refine with_tabW impl_RangeOk.tab5 impl_RangeOk.bits5 (fun HT_ HW_ => ?_)
    generalize w37.drew = w38 at BK549 HB hHeld ⊢
    refine tA 0 13 (bm 27 1) HT_ HW_ hHeld ?_
    refine oA 1 (some 14) (bm 27 3) HT_ fun K hK => ?_
    refine gA Tryz.func51 #[.agg #[.string ((rd_T93 l0 x8_1).f0), .int .i64 ((rd_T93 l0 x8_1).f1), .int .i64 ((rd_T93 l0 x8_1).f2)]] ?_
    with_reducible refine (impl_peakOk.calls k1 ((rd_T93 l0 x8_1).f0) ((rd_T93 l0 x8_1).f1) ((rd_T93 l0 x8_1).f2) false _ A5.out).mono ?_
    rintro e w39 ⟨rfl, hb⟩
    refine ⟨_, rfl, ?_⟩
    replace BK549 := kP _ BK549 hb
    replace HB := kH HB hb
    (try clear hb)
    (try clear hb2)
    (try clear hk)
    (try clear hi)
    refine hK.out _ _ (bz3 BK549) (fun hHeld => ?_)
    clear hK K
    refine nA (some 14) ?_
    refine pA 2 15 (bm 27 7) HT_ ?_
    refine pA 3 16 (bm 27 15) HT_ ?_
    refine pU 4 17 (bm 27 31) HT_ ?_
    refine pU 5 18 (bm 27 63) HT_ ?_
    refine pU 6 19 (bm 27 127) HT_ ?_
    refine pU 7 20 (bm 27 255) HT_ ?_
    refine pU 8 21 (bm 27 511) HT_ ?_
    refine pU 9 22 (bm 27 1023) HT_ ?_
    refine pU 10 23 (bm 27 2047) HT_ ?_
    refine pA 11 24 (bm 27 4095) HT_ ?_
    refine pA 12 25 (bm 27 8191) HT_ ?_
    refine pU 13 26 (bm 27 16383) HT_ ?_
    refine pU 14 27 (bm 27 32767) HT_ ?_
    refine pU 15 28 (bm 27 65535) HT_ ?_
    refine pU 16 29 (bm 27 131071) HT_ ?_
    refine pU 17 30 (bm 27 262143) HT_ ?_
    refine pU 18 31 (bm 27 524287) HT_ ?_
    refine pU 19 32 (bm 27 1048575) HT_ ?_
    refine pU 20 33 (bm 27 2097151) HT_ ?_
    refine pU 21 34 (bm 27 4194303) HT_ ?_
    refine pU 22 35 (bm 27 8388607) HT_ ?_
    refine pU 23 36 (bm 27 16777215) HT_ ?_
    refine pU 24 37 (bm 27 33554431) HT_ ?_
    refine pU 25 38 (bm 27 67108863) HT_ ?_
    refine pA 26 39 (bm 27 134217727) HT_ ?_
    refine done_ (done_of HT_.out (by kernel_rfl)) ?_
    try go_wp2
    go_ret
    exact ⟨xE, xB HB⟩
   subst c6
   rw [if_pos rfl] at H
   by_cases c7 : (Go.bits .and .i64 ((rd_T93 l0 x8_1).f2) (wrap64 (((rd_T93 l0 x8_1).f2) - 1))) = 0
   rotate_left
   ·rw [if_neg c7] at H
    have c7b0 := beq_eq_false_iff_ne.mpr c7
    have c7b1 := bne_iff_ne.mpr c7
    obtain rfl := Option.some.inj H
    have p548 : 0 ≤ (x8_1 : Int) := of_decide_eq_true xA
    have q548 : x8_1 < (l0.length : Int) := of_decide_eq_true xA
    obtain ⟨ad548, e548, hx548_0, hx548_1, hx548_2⟩ := at_T93 HR0.out x8_1 p548 q548
    cases e548
    replace hx548_0 := hc HB hx548_0
    replace hx548_1 := hc HB hx548_1
    replace hx548_2 := hc HB hx548_2
    replace p548 := eq_true p548
    replace q548 := eq_true q548
    try go_wp2_with ((with_reducible refine gg ?_); refine bE 5 #[.string (⟨#[]⟩ : ByteArray), .int .i64 0, .int .i64 0] 93 ?_; intro gb549 hg w30 hbox hb; have BK549 := am (hbox); have GW549 := zB hg HB; have GE549 := zB hg HB; replace HB := kH HB hb; clear hb hbox hg; have hz31 := bc3 BK549)
    have n0_ : Aside0 ((((w30.setCell ⟨gb549, 0, none⟩ (.string ((rd_T93 l0 x8_1).f0))).setCell ⟨gb549, 1, none⟩ (.int .i64 ((rd_T93 l0 x8_1).f1))).setCell ⟨gb549, 2, none⟩ (.int .i64 ((rd_T93 l0 x8_1).f2))).heap[gb549]? = some (.cells #[.string ((rd_T93 l0 x8_1).f0), .int .i64 ((rd_T93 l0 x8_1).f1), .int .i64 ((rd_T93 l0 x8_1).f2)] 93 (0, 0))) := ⟨fb BK549⟩
    have n1_ : Aside0 (Below w.heap.size w (((w30.setCell ⟨gb549, 0, none⟩ (.string ((rd_T93 l0 x8_1).f0))).setCell ⟨gb549, 1, none⟩ (.int .i64 ((rd_T93 l0 x8_1).f1))).setCell ⟨gb549, 2, none⟩ (.int .i64 ((rd_T93 l0 x8_1).f2)))) := ⟨xB HB⟩
    (try clear BK549)
    (try clear HB)
    generalize (((w30.setCell ⟨gb549, 0, none⟩ (.string ((rd_T93 l0 x8_1).f0))).setCell ⟨gb549, 1, none⟩ (.int .i64 ((rd_T93 l0 x8_1).f1))).setCell ⟨gb549, 2, none⟩ (.int .i64 ((rd_T93 l0 x8_1).f2))) = w32 at n0_ n1_ ⊢
    have BK549 := n0_
    have HB := n1_
    clear n0_ n1_
    replace BK549 := am (blk_drew BK549.out)
    replace HB := am (below_drew1 HB.out)
    refine start_ (n := 27) (S := cs3 gb549 (.string ((rd_T93 l0 x8_1).f0)) (.int .i64 ((rd_T93 l0 x8_1).f1)) (.int .i64 ((rd_T93 l0 x8_1).f2))) (ds := []) (bm 27 0) (by kernel_rfl) rfl rfl (bz3 BK549) (fun hHeld => ?_); refine with_tabW impl_RangeOk.tab5 impl_RangeOk.bits5 (fun HT_ HW_ => ?_)
    generalize w32.drew = w33 at BK549 HB hHeld ⊢
    refine tA 0 13 (bm 27 1) HT_ HW_ hHeld ?_
    refine oA 1 (some 14) (bm 27 3) HT_ fun K hK => ?_
    refine gA Tryz.func51 #[.agg #[.string ((rd_T93 l0 x8_1).f0), .int .i64 ((rd_T93 l0 x8_1).f1), .int .i64 ((rd_T93 l0 x8_1).f2)]] ?_
    with_reducible refine (impl_peakOk.calls k1 ((rd_T93 l0 x8_1).f0) ((rd_T93 l0 x8_1).f1) ((rd_T93 l0 x8_1).f2) true _ A5.out).mono ?_
    rintro e w34 ⟨rfl, hb⟩
    refine ⟨_, rfl, ?_⟩
    replace BK549 := kP _ BK549 hb
    replace HB := kH HB hb
    (try clear hb)
    (try clear hb2)
    (try clear hk)
    (try clear hi)
    refine hK.out _ _ (bz3 BK549) (fun hHeld => ?_)
    clear hK K
    refine nA (some 14) ?_
    refine pA 2 15 (bm 27 7) HT_ ?_
    refine pA 3 16 (bm 27 15) HT_ ?_
    refine pA 4 17 (bm 27 31) HT_ ?_
    refine pA 6 19 (bm 27 95) HT_ ?_
    refine tA 5 18 (bm 27 127) HT_ HW_ hHeld ?_
    refine tA 7 20 (bm 27 255) HT_ HW_ hHeld ?_
    refine pA 8 21 (bm 27 511) HT_ ?_
    refine pA 9 22 (bm 27 1023) HT_ ?_
    refine pA 10 23 (bm 27 2047) HT_ ?_
    refine pA 11 24 (bm 27 4095) HT_ ?_
    refine pA 12 25 (bm 27 8191) HT_ ?_
    refine pU 13 26 (bm 27 16383) HT_ ?_
    refine pU 14 27 (bm 27 32767) HT_ ?_
    refine pU 15 28 (bm 27 65535) HT_ ?_
    refine pU 16 29 (bm 27 131071) HT_ ?_
    refine pU 17 30 (bm 27 262143) HT_ ?_
    refine pU 18 31 (bm 27 524287) HT_ ?_
    refine pU 19 32 (bm 27 1048575) HT_ ?_
    refine pU 20 33 (bm 27 2097151) HT_ ?_
    refine pU 21 34 (bm 27 4194303) HT_ ?_
    refine pU 22 35 (bm 27 8388607) HT_ ?_
    refine pU 23 36 (bm 27 16777215) HT_ ?_
    refine pU 24 37 (bm 27 33554431) HT_ ?_
    refine pU 25 38 (bm 27 67108863) HT_ ?_
    refine pA 26 39 (bm 27 134217727) HT_ ?_
    refine done_ (done_of HT_.out (by kernel_rfl)) ?_
    try go_wp2
    go_ret
    exact ⟨xE, xB HB⟩
   rw [if_pos c7] at H
   have c7b0 := beq_iff_eq.mpr c7
   have c7b1 := bne_eq_false_iff_eq.mpr c7
   clear c7
   by_cases c8 : x8_1 > 0
   rotate_left
   ·rw [if_neg c8] at H
    have c8b0 := decide_eq_false c8
    clear c8
    have H' := Aside0.mk H
    clear H
    have p548 : 0 ≤ (x8_1 : Int) := of_decide_eq_true xA
    have q548 : x8_1 < (l0.length : Int) := of_decide_eq_true xA
    obtain ⟨ad548, e548, hx548_0, hx548_1, hx548_2⟩ := at_T93 HR0.out x8_1 p548 q548
    cases e548
    replace hx548_0 := hc HB hx548_0
    replace hx548_1 := hc HB hx548_1
    replace hx548_2 := hc HB hx548_2
    replace p548 := eq_true p548
    replace q548 := eq_true q548
    try go_wp2_with ((with_reducible refine gg ?_); refine bE 5 #[.string (⟨#[]⟩ : ByteArray), .int .i64 0, .int .i64 0] 93 ?_; intro gb549 hg w24 hbox hb; have BK549 := am (hbox); have GW549 := zB hg HB; have GE549 := zB hg HB; replace HB := kH HB hb; clear hb hbox hg; have hz25 := bc3 BK549)
    have n0_ : Aside0 ((((w24.setCell ⟨gb549, 0, none⟩ (.string ((rd_T93 l0 x8_1).f0))).setCell ⟨gb549, 1, none⟩ (.int .i64 ((rd_T93 l0 x8_1).f1))).setCell ⟨gb549, 2, none⟩ (.int .i64 ((rd_T93 l0 x8_1).f2))).heap[gb549]? = some (.cells #[.string ((rd_T93 l0 x8_1).f0), .int .i64 ((rd_T93 l0 x8_1).f1), .int .i64 ((rd_T93 l0 x8_1).f2)] 93 (0, 0))) := ⟨fb BK549⟩
    have n1_ : Aside0 (Below w.heap.size w (((w24.setCell ⟨gb549, 0, none⟩ (.string ((rd_T93 l0 x8_1).f0))).setCell ⟨gb549, 1, none⟩ (.int .i64 ((rd_T93 l0 x8_1).f1))).setCell ⟨gb549, 2, none⟩ (.int .i64 ((rd_T93 l0 x8_1).f2)))) := ⟨xB HB⟩
    (try clear BK549)
    (try clear HB)
    generalize (((w24.setCell ⟨gb549, 0, none⟩ (.string ((rd_T93 l0 x8_1).f0))).setCell ⟨gb549, 1, none⟩ (.int .i64 ((rd_T93 l0 x8_1).f1))).setCell ⟨gb549, 2, none⟩ (.int .i64 ((rd_T93 l0 x8_1).f2))) = w26 at n0_ n1_ ⊢
    have BK549 := n0_
    have HB := n1_
    clear n0_ n1_
    replace BK549 := am (blk_drew BK549.out)
    replace HB := am (below_drew1 HB.out)
    refine start_ (n := 27) (S := cs3 gb549 (.string ((rd_T93 l0 x8_1).f0)) (.int .i64 ((rd_T93 l0 x8_1).f1)) (.int .i64 ((rd_T93 l0 x8_1).f2))) (ds := []) (bm 27 0) (by kernel_rfl) rfl rfl (bz3 BK549) (fun hHeld => ?_); refine with_tabW impl_RangeOk.tab5 impl_RangeOk.bits5 (fun HT_ HW_ => ?_)
    generalize w26.drew = w27 at BK549 HB hHeld ⊢
    refine tA 0 13 (bm 27 1) HT_ HW_ hHeld ?_
    refine oA 1 (some 14) (bm 27 3) HT_ fun K hK => ?_
    refine gA Tryz.func51 #[.agg #[.string ((rd_T93 l0 x8_1).f0), .int .i64 ((rd_T93 l0 x8_1).f1), .int .i64 ((rd_T93 l0 x8_1).f2)]] ?_
    with_reducible refine (impl_peakOk.calls k1 ((rd_T93 l0 x8_1).f0) ((rd_T93 l0 x8_1).f1) ((rd_T93 l0 x8_1).f2) true _ A5.out).mono ?_
    rintro e w28 ⟨rfl, hb⟩
    refine ⟨_, rfl, ?_⟩
    replace BK549 := kP _ BK549 hb
    replace HB := kH HB hb
    (try clear hb)
    (try clear hb2)
    (try clear hk)
    (try clear hi)
    refine hK.out _ _ (bz3 BK549) (fun hHeld => ?_)
    clear hK K
    refine nA (some 14) ?_
    refine pA 2 15 (bm 27 7) HT_ ?_
    refine pA 3 16 (bm 27 15) HT_ ?_
    refine pA 4 17 (bm 27 31) HT_ ?_
    refine pA 6 19 (bm 27 95) HT_ ?_
    refine tA 5 18 (bm 27 127) HT_ HW_ hHeld ?_
    refine tA 7 20 (bm 27 255) HT_ HW_ hHeld ?_
    refine pA 8 21 (bm 27 511) HT_ ?_
    refine pA 9 22 (bm 27 1023) HT_ ?_
    refine pA 10 23 (bm 27 2047) HT_ ?_
    refine pA 11 24 (bm 27 4095) HT_ ?_
    refine pA 12 25 (bm 27 8191) HT_ ?_
    refine pA 13 26 (bm 27 16383) HT_ ?_
    refine pA 14 27 (bm 27 32767) HT_ ?_
    refine pA 15 28 (bm 27 65535) HT_ ?_
    refine pU 16 29 (bm 27 131071) HT_ ?_
    refine pU 17 30 (bm 27 262143) HT_ ?_
    refine pU 18 31 (bm 27 524287) HT_ ?_
    refine pU 19 32 (bm 27 1048575) HT_ ?_
    refine pU 20 33 (bm 27 2097151) HT_ ?_
    refine pU 21 34 (bm 27 4194303) HT_ ?_
    refine pU 22 35 (bm 27 8388607) HT_ ?_
    refine pU 23 36 (bm 27 16777215) HT_ ?_
    refine pU 24 37 (bm 27 33554431) HT_ ?_
    refine pA 25 38 (bm 27 67108863) HT_ ?_
    refine pA 26 39 (bm 27 134217727) HT_ ?_
    refine done_ (done_of HT_.out (by kernel_rfl)) ?_
    have hz29 := bc3 BK549
    try go_wp2
    go_roundg k1
    case measure => have := HK1.out; omega
    case rel => exact ⟨(wrap64 (x3_1 + ((rd_T93 l0 x8_1).f2))), (wrap64 (x8_1 + 1)), xR, xR, H', ⟨xL HK1⟩, ⟨xB HB⟩⟩
   rw [if_pos c8] at H
   have c8b0 := decide_eq_true c8
   clear c8
   obtain ⟨ji9, hji9⟩ := je (wrap64 (x8_1 - 1))
   first | rw [hji9] at H | simp only [hji9] at H
   (try rw [hji9] at A5)
   have hji9w : (IntKind.i64.wrap (x8_1 - 1)) = ji9 := (i64_w _).trans hji9
   replace H := ipd H
   obtain ⟨c10b0, H⟩ := H
   replace H := ipd H
   obtain ⟨c11b0, H⟩ := H
   have p548 : 0 ≤ (x8_1 : Int) := of_decide_eq_true xA
   have q548 : x8_1 < (l0.length : Int) := of_decide_eq_true xA
   obtain ⟨ad548, e548, hx548_0, hx548_1, hx548_2⟩ := at_T93 HR0.out x8_1 p548 q548
   cases e548
   replace hx548_0 := hc HB hx548_0
   replace hx548_1 := hc HB hx548_1
   replace hx548_2 := hc HB hx548_2
   replace p548 := eq_true p548
   replace q548 := eq_true q548
   try go_wp2_with ((with_reducible refine gg ?_); refine bE 5 #[.string (⟨#[]⟩ : ByteArray), .int .i64 0, .int .i64 0] 93 ?_; intro gb549 hg w13 hbox hb; have BK549 := am (hbox); have GW549 := zB hg HB; have GE549 := zB hg HB; replace HB := kH HB hb; clear hb hbox hg; have hz14 := bc3 BK549)
   have n0_ : Aside0 ((((w13.setCell ⟨gb549, 0, none⟩ (.string ((rd_T93 l0 x8_1).f0))).setCell ⟨gb549, 1, none⟩ (.int .i64 ((rd_T93 l0 x8_1).f1))).setCell ⟨gb549, 2, none⟩ (.int .i64 ((rd_T93 l0 x8_1).f2))).heap[gb549]? = some (.cells #[.string ((rd_T93 l0 x8_1).f0), .int .i64 ((rd_T93 l0 x8_1).f1), .int .i64 ((rd_T93 l0 x8_1).f2)] 93 (0, 0))) := ⟨fb BK549⟩
   have n1_ : Aside0 (Below w.heap.size w (((w13.setCell ⟨gb549, 0, none⟩ (.string ((rd_T93 l0 x8_1).f0))).setCell ⟨gb549, 1, none⟩ (.int .i64 ((rd_T93 l0 x8_1).f1))).setCell ⟨gb549, 2, none⟩ (.int .i64 ((rd_T93 l0 x8_1).f2)))) := ⟨xB HB⟩
   (try clear BK549)
   (try clear HB)
   generalize (((w13.setCell ⟨gb549, 0, none⟩ (.string ((rd_T93 l0 x8_1).f0))).setCell ⟨gb549, 1, none⟩ (.int .i64 ((rd_T93 l0 x8_1).f1))).setCell ⟨gb549, 2, none⟩ (.int .i64 ((rd_T93 l0 x8_1).f2))) = w15 at n0_ n1_ ⊢
   have BK549 := n0_
   have HB := n1_
   clear n0_ n1_
   replace BK549 := am (blk_drew BK549.out)
   replace HB := am (below_drew1 HB.out)
   have p551 : 0 ≤ ((ji9) : Int) := of_decide_eq_true xA
   have q551 : (ji9) < (l0.length : Int) := of_decide_eq_true xA
   obtain ⟨ad551, e551, hx551_0, hx551_1, hx551_2⟩ := at_T93 HR0.out (ji9) p551 q551
   have hw551_2 := hx551_2
   have hw551_1 := hx551_1
   have hw551_0 := hx551_0
   obtain rfl : ad548 = ad551 := (by injection e551)
   replace hx551_0 := hc HB hx551_0
   replace hx551_1 := hc HB hx551_1
   replace hx551_2 := hc HB hx551_2
   replace p551 := eq_true p551
   replace q551 := eq_true q551
   refine start_ (n := 27) (S := fun w' => w'.cell? ⟨gb549, 0, none⟩ = some (.string ((rd_T93 l0 x8_1).f0)) ∧ w'.cell? ⟨gb549, 1, none⟩ = some (.int .i64 ((rd_T93 l0 x8_1).f1)) ∧ w'.cell? ⟨gb549, 2, none⟩ = some (.int .i64 ((rd_T93 l0 x8_1).f2)) ∧ w'.cell? (ad548.add (((ji9)).toNat * 3)) = some (.string ((rd_T93 l0 (ji9)).f0)) ∧ w'.cell? ⟨(ad548.add (((ji9)).toNat * 3)).block, (ad548.add (((ji9)).toNat * 3)).off + 1, none⟩ = some (.int .i64 ((rd_T93 l0 (ji9)).f1)) ∧ w'.cell? ⟨(ad548.add (((ji9)).toNat * 3)).block, (ad548.add (((ji9)).toNat * 3)).off + 2, none⟩ = some (.int .i64 ((rd_T93 l0 (ji9)).f2))) (ds := []) (bm 27 0) (by kernel_rfl) rfl rfl ⟨(blk_cell BK549.out 0).trans rfl, (blk_cell BK549.out 1).trans rfl, (blk_cell BK549.out 2).trans rfl, (hd HB hw551_0), (hd HB hw551_1), (hd HB hw551_2)⟩ (fun hHeld => ?_); refine with_tabW impl_RangeOk.tab5 impl_RangeOk.bits5 (fun HT_ HW_ => ?_)
   generalize w15.drew = w16 at BK549 HB hx551_0 hx551_1 hx551_2 hHeld ⊢
   refine tA 0 13 (bm 27 1) HT_ HW_ hHeld ?_
   refine oA 1 (some 14) (bm 27 3) HT_ fun K hK => ?_
   refine gA Tryz.func51 #[.agg #[.string ((rd_T93 l0 x8_1).f0), .int .i64 ((rd_T93 l0 x8_1).f1), .int .i64 ((rd_T93 l0 x8_1).f2)]] ?_
   with_reducible refine (impl_peakOk.calls k1 ((rd_T93 l0 x8_1).f0) ((rd_T93 l0 x8_1).f1) ((rd_T93 l0 x8_1).f2) true _ A5.out).mono ?_
   rintro e w17 ⟨rfl, hb⟩
   refine ⟨_, rfl, ?_⟩
   replace BK549 := kP _ BK549 hb
   replace HB := kH HB hb
   (try clear hb)
   (try clear hb2)
   (try clear hk)
   (try clear hi)
   refine hK.out _ _ ⟨(blk_cell BK549.out 0).trans rfl, (blk_cell BK549.out 1).trans rfl, (blk_cell BK549.out 2).trans rfl, (hd HB hw551_0), (hd HB hw551_1), (hd HB hw551_2)⟩ (fun hHeld => ?_)
   clear hK K
   refine nA (some 14) ?_
   refine pA 2 15 (bm 27 7) HT_ ?_
   refine pA 3 16 (bm 27 15) HT_ ?_
   refine pA 4 17 (bm 27 31) HT_ ?_
   refine pA 6 19 (bm 27 95) HT_ ?_
   refine tA 5 18 (bm 27 127) HT_ HW_ hHeld ?_
   refine tA 7 20 (bm 27 255) HT_ HW_ hHeld ?_
   refine pA 8 21 (bm 27 511) HT_ ?_
   refine pA 9 22 (bm 27 1023) HT_ ?_
   refine pA 10 23 (bm 27 2047) HT_ ?_
   refine pA 11 24 (bm 27 4095) HT_ ?_
   refine pA 12 25 (bm 27 8191) HT_ ?_
   refine pA 13 26 (bm 27 16383) HT_ ?_
   refine pA 14 27 (bm 27 32767) HT_ ?_
   refine pA 15 28 (bm 27 65535) HT_ ?_
   refine pA 16 29 (bm 27 131071) HT_ ?_
   refine pA 18 31 (bm 27 393215) HT_ ?_
   refine pA 19 32 (bm 27 917503) HT_ ?_
   refine pA 20 33 (bm 27 1966079) HT_ ?_
   refine pA 21 34 (bm 27 4063231) HT_ ?_
   refine pA 22 35 (bm 27 8257535) HT_ ?_
   refine tA 17 30 (bm 27 8388607) HT_ HW_ hHeld ?_
   refine tA 23 36 (bm 27 16777215) HT_ HW_ hHeld ?_
   refine pA 24 37 (bm 27 33554431) HT_ ?_
   refine pA 25 38 (bm 27 67108863) HT_ ?_
   refine pA 26 39 (bm 27 134217727) HT_ ?_
   refine done_ (done_of HT_.out (by kernel_rfl)) ?_
   by_cases c12 : ((rd_T93 l0 x8_1).f2) ≥ ((rd_T93 l0 (ji9)).f2)
   ·rw [if_pos c12] at H
    have c12b0 := decide_eq_true c12
    try simp only [c12b0, Bool.not_true, Bool.not_false]
    clear c12
    obtain rfl := Option.some.inj H
    try go_wp2
    go_ret
    exact ⟨by first | rfl | (simp [errW_none, errW_some] <;> rfl) | (simp only [← hji9]; first | rfl | (simp [errW_none, errW_some] <;> rfl)) | (simp [*, errW_none, errW_some] <;> rfl), xB HB⟩
   rw [if_neg c12] at H
   have c12b0 := decide_eq_false c12
   try simp only [c12b0, Bool.not_true, Bool.not_false]
   clear c12
   have H' := Aside0.mk H
   clear H
   have hz23 := bc3 BK549
   try go_wp2
   go_roundg k1
   case measure => have := HK1.out; omega
   case rel => exact ⟨(wrap64 (x3_1 + ((rd_T93 l0 x8_1).f2))), (wrap64 (x8_1 + 1)), xR, xR, H', ⟨xL HK1⟩, ⟨xB HB⟩⟩
mutual
def impl_paidOk.j0 : Nat → Bool → Int → ByteArray → ByteArray → Int → Int → Int → List (S93) → List (S93) → List (S48) → Option (Bool)
 | 0, _, _, _, _, _, _, _, _, _, _ => none
 | k + 1, x36, x553000, x553001, x553002, x553003, x553004, x553005, x553006, x553007, x553008 => if x36 = true then (some false) else (impl_paidOk.l0 k x553007 (x553007.length : Int) 0 x553000 x553001 x553002 x553003 x553004 x553005 x553006 x553007 x553008)
def impl_paidOk.l0 : Nat → List (S93) → Int → Int → Int → ByteArray → ByteArray → Int → Int → Int → List (S93) → List (S93) → List (S48) → Option (Bool)
 | 0, _, _, _, _, _, _, _, _, _, _, _, _ => none
 | k + 1, x39, x40, x41, x553000, x553001, x553002, x553003, x553004, x553005, x553006, x553007, x553008 => if x41 < x40 then (if 0 ≤ x41 then (if x41 < (x39.length : Int) then ((impl_peakOk.f k ((rd_T93 x39 x41).f0) ((rd_T93 x39 x41).f1) ((rd_T93 x39 x41).f2)).bind fun t558 => (if t558 = true then (impl_paidOk.l0 k x39 x40 (wrap64 (x41 + 1)) x553000 x553001 x553002 x553003 x553004 x553005 x553006 x553007 x553008) else (some false))) else (none)) else (none)) else (impl_paidOk.l1 k x553008 (x553008.length : Int) 0)
def impl_paidOk.l1 : Nat → List (S48) → Int → Int → Option (Bool)
 | 0, _, _, _ => none
 | k + 1, x50, x51, x52 => if x52 < x51 then (if 0 ≤ x52 then (if x52 < (x50.length : Int) then ((impl_isSum.f k ((rd_T48 x50 x52).f0)).bind fun t561 => (if t561 = true then (impl_paidOk.l1 k x50 x51 (wrap64 (x52 + 1))) else (some false))) else (none)) else (none)) else (some true)
end
def impl_paidOk.f (k : Nat) (a0_0 : Int) (a0_1 : ByteArray) (a0_2 : ByteArray) (a0_3 : Int) (a0_4 : Int) (a0_5 : Int) (l0_6 : List (S93)) (l0_7 : List (S93)) (l0_8 : List (S48)) : Option (Bool) := (impl_in.f a0_0 0 19).bind fun t553 => (if t553 = true then ((impl_headOk.f k a0_1 a0_2 a0_3 a0_4 a0_5).bind fun t554 => (if t554 = true then ((impl_RangeOk.f k l0_6).bind fun t555 => (if t555 = true then (if (l0_7.length : Int) > 8 then (impl_paidOk.j0 k true a0_0 a0_1 a0_2 a0_3 a0_4 a0_5 l0_6 l0_7 l0_8) else (impl_paidOk.j0 k (decide ((l0_8.length : Int) > 8)) a0_0 a0_1 a0_2 a0_3 a0_4 a0_5 l0_6 l0_7 l0_8)) else (impl_paidOk.j0 k true a0_0 a0_1 a0_2 a0_3 a0_4 a0_5 l0_6 l0_7 l0_8))) else (impl_paidOk.j0 k true a0_0 a0_1 a0_2 a0_3 a0_4 a0_5 l0_6 l0_7 l0_8))) else (impl_paidOk.j0 k true a0_0 a0_1 a0_2 a0_3 a0_4 a0_5 l0_6 l0_7 l0_8))
theorem impl_paidOk.mono_l : ∀ k, (∀ y0 y1 y2 y3 y4 y5 y6 y7 y8 y9, LeO (impl_paidOk.j0 k y0 y1 y2 y3 y4 y5 y6 y7 y8 y9) (impl_paidOk.j0 (k + 1) y0 y1 y2 y3 y4 y5 y6 y7 y8 y9)) ∧ (∀ y0 y1 y2 y3 y4 y5 y6 y7 y8 y9 y10 y11, LeO (impl_paidOk.l0 k y0 y1 y2 y3 y4 y5 y6 y7 y8 y9 y10 y11) (impl_paidOk.l0 (k + 1) y0 y1 y2 y3 y4 y5 y6 y7 y8 y9 y10 y11)) ∧ (∀ y0 y1 y2, LeO (impl_paidOk.l1 k y0 y1 y2) (impl_paidOk.l1 (k + 1) y0 y1 y2))
 | 0 => ⟨fun _ _ _ _ _ _ _ _ _ _ r h => by simp [impl_paidOk.j0] at h, fun _ _ _ _ _ _ _ _ _ _ _ _ r h => by simp [impl_paidOk.l0] at h, fun _ _ _ r h => by simp [impl_paidOk.l1] at h⟩
 | k + 1 => by
  obtain ⟨ih0, ih1, ih2⟩ := impl_paidOk.mono_l k
  refine ⟨?_, ?_, ?_⟩
  ·intro y0 y1 y2 y3 y4 y5 y6 y7 y8 y9
   unfold impl_paidOk.j0
   exact mo7 ih0 ih1 ih2 impl_RangeOk.mono impl_headOk.mono impl_isSum.mono impl_peakOk.mono
  ·intro y0 y1 y2 y3 y4 y5 y6 y7 y8 y9 y10 y11
   unfold impl_paidOk.l0
   exact mo7 ih0 ih1 ih2 impl_RangeOk.mono impl_headOk.mono impl_isSum.mono impl_peakOk.mono
  ·intro y0 y1 y2
   unfold impl_paidOk.l1
   exact mo7 ih0 ih1 ih2 impl_RangeOk.mono impl_headOk.mono impl_isSum.mono impl_peakOk.mono
theorem impl_paidOk.mono : ∀ a0 a1 a2 a3 a4 a5 a6 a7 a8 k, LeO (impl_paidOk.f k a0 a1 a2 a3 a4 a5 a6 a7 a8) (impl_paidOk.f (k + 1) a0 a1 a2 a3 a4 a5 a6 a7 a8) := by
 intro a0 a1 a2 a3 a4 a5 a6 a7 a8 k
 obtain ⟨ih0, ih1, ih2⟩ := impl_paidOk.mono_l k
 unfold impl_paidOk.f
 exact mo7 ih0 ih1 ih2 impl_RangeOk.mono impl_headOk.mono impl_isSum.mono impl_peakOk.mono
theorem impl_paidOk.calls (k : Nat) (a0_0 : Int) (a0_1 : ByteArray) (a0_2 : ByteArray) (a0_3 : Int) (a0_4 : Int) (a0_5 : Int) (A0_6 : Option Addr) (c0_6 : Nat) (l0_6 : List (S93)) (A0_7 : Option Addr) (c0_7 : Nat) (l0_7 : List (S93)) (A0_8 : Option Addr) (c0_8 : Nat) (l0_8 : List (S48)) (r : Bool) (w : World) (hr0_6 : Kd.C k93 w A0_6 l0_6.length l0_6) (hc0_6 : l0_6.length ≤ c0_6) (hr0_7 : Kd.C k93 w A0_7 l0_7.length l0_7) (hc0_7 : l0_7.length ≤ c0_7) (hr0_8 : Kd.C k48 w A0_8 l0_8.length l0_8) (hc0_8 : l0_8.length ≤ c0_8) (h : impl_paidOk.f k a0_0 a0_1 a0_2 a0_3 a0_4 a0_5 l0_6 l0_7 l0_8 = some r) :
  Calls Tryz.prog 18 #[.agg #[.int .i64 a0_0, .string a0_1, .string a0_2, .int .i64 a0_3, .int .i64 a0_4, .int .i64 a0_5, .slice A0_6 l0_6.length c0_6, .slice A0_7 l0_7.length c0_7, .slice A0_8 l0_8.length c0_8]] w fun e w' => e = .returned (.bool r) ∧ Below w.heap.size w w' := by
 have hu30 := Tryz.underlying30
 have hu24 := Tryz.underlying24
 have hu93 := Tryz.underlying93
 have hu48 := Tryz.underlying48
 have HR0_6 := Aside0.mk hr0_6
 have HC0_6 := Aside0.mk hc0_6
 clear hr0_6 hc0_6
 have HR0_7 := Aside0.mk hr0_7
 have HC0_7 := Aside0.mk hc0_7
 clear hr0_7 hc0_7
 have HR0_8 := Aside0.mk hr0_8
 have HC0_8 := Aside0.mk hc0_8
 clear hr0_8 hc0_8
 have HB := Aside0.mk (Below.refl w.heap.size w)
 have H : ((impl_in.f a0_0 0 19).bind fun t553 => (if t553 = true then ((impl_headOk.f k a0_1 a0_2 a0_3 a0_4 a0_5).bind fun t554 => (if t554 = true then ((impl_RangeOk.f k l0_6).bind fun t555 => (if t555 = true then (if (l0_7.length : Int) > 8 then (impl_paidOk.j0 k true a0_0 a0_1 a0_2 a0_3 a0_4 a0_5 l0_6 l0_7 l0_8) else (impl_paidOk.j0 k (decide ((l0_8.length : Int) > 8)) a0_0 a0_1 a0_2 a0_3 a0_4 a0_5 l0_6 l0_7 l0_8)) else (impl_paidOk.j0 k true a0_0 a0_1 a0_2 a0_3 a0_4 a0_5 l0_6 l0_7 l0_8))) else (impl_paidOk.j0 k true a0_0 a0_1 a0_2 a0_3 a0_4 a0_5 l0_6 l0_7 l0_8))) else (impl_paidOk.j0 k true a0_0 a0_1 a0_2 a0_3 a0_4 a0_5 l0_6 l0_7 l0_8))) = some r := h
 clear h
 have HC2 := Aside0.mk H
 clear H
 go_enter Tryz.func18, Tryz.ntmps18
 go_upto_region 1 with ((with_reducible refine gate_dst (N := 1) rfl ?_); (try (refine gate_guard (by rfl) ?_; dsimp only)); refine box_event ?hg (N := 1) ?hd (cs := #[.int .i64 a0_0, .string a0_1, .string a0_2, .int .i64 a0_3, .int .i64 a0_4, .int .i64 a0_5, .slice A0_6 l0_6.length c0_6, .slice A0_7 l0_7.length c0_7, .slice A0_8 l0_8.length c0_8]) (t := 30) ?hr ?_; (case hd => rfl); (case hg => rfl); (case hr => first | (go_simp; done) | (go_simp; rfl)); intro gb552 hg w3 hbox hb; have BK552 := am (hbox); have GW552 := zB hg HB; have GE552 := zB hg HB; replace HB := kH HB hb; clear hb hbox hg)
 (try simp only [Act.put, sa, s0, s1])
 go_cut [36] (fun v36 wc => ∃ (kq : Nat) (x36_1 : Bool), v36 = .bool x36_1 ∧ Aside0 (impl_paidOk.j0 kq x36_1 a0_0 a0_1 a0_2 a0_3 a0_4 a0_5 l0_6 l0_7 l0_8 = some r) ∧ Aside0 (kq ≤ k) ∧ Aside0 (wc.heap[gb552]? = some (.cells #[.int .i64 a0_0, .string a0_1, .string a0_2, .int .i64 a0_3, .int .i64 a0_4, .int .i64 a0_5, (.slice A0_6 l0_6.length c0_6), (.slice A0_7 l0_7.length c0_7), (.slice A0_8 l0_8.length c0_8)] 30 (0, 0))) ∧ Aside0 (Below w.heap.size w wc))
 case first =>
  have H := HC2.out
  clear HC2
  replace H := oa H
  obtain ⟨t553, A4, H⟩ := H
  by_cases c5 : t553 = true
  rotate_left
  ·replace c5 := Bool.eq_false_iff.mpr c5
   subst c5
   rw [if_neg (show ¬ (false = true) by decide)] at H
   have H' := Aside0.mk H
   clear H
   have hz27 := bc9 BK552
   go_wp2_with ((with_reducible refine gg ?_); refine gL 9 Tryz.func33 #[.int .i64 a0_0, .int .i64 0, .int .i64 19] ?_; (with_reducible refine (impl_in.calls a0_0 0 19 false _ A4.out).mono ?_); rintro e w' ⟨rfl, ⟨nd, rfl⟩⟩; refine ⟨_, rfl, ?_⟩)
   go_meet
   case rel => exact ⟨_, (true), xR, H', ⟨xO⟩, ⟨kb BK552⟩, ⟨xB HB⟩⟩
  subst c5
  rw [if_pos rfl] at H
  replace H := oa H
  obtain ⟨t554, A6, H⟩ := H
  by_cases c7 : t554 = true
  rotate_left
  ·replace c7 := Bool.eq_false_iff.mpr c7
   subst c7
   rw [if_neg (show ¬ (false = true) by decide)] at H
   have H' := Aside0.mk H
   clear H
   have hz25 := bc9 BK552
   go_wp2_with (first | ((with_reducible refine gg ?_); refine gL 9 Tryz.func33 #[.int .i64 a0_0, .int .i64 0, .int .i64 19] ?_; (with_reducible refine (impl_in.calls a0_0 0 19 true _ A4.out).mono ?_); rintro e w' ⟨rfl, ⟨nd, rfl⟩⟩; refine ⟨_, rfl, ?_⟩) | (go_at_call 49; (with_reducible refine (impl_headOk.calls k a0_1 a0_2 a0_3 a0_4 a0_5 false _ A6.out).mono ?_); rintro e w26 ⟨rfl, hb⟩; replace BK552 := kP _ BK552 hb; replace HB := kH HB hb; (try clear hb)))
   go_meet
   case rel => exact ⟨_, (true), xR, H', ⟨xO⟩, ⟨kb BK552⟩, ⟨xB HB⟩⟩
  subst c7
  rw [if_pos rfl] at H
  replace H := oa H
  obtain ⟨t555, A8, H⟩ := H
  by_cases c9 : t555 = true
  rotate_left
  ·replace c9 := Bool.eq_false_iff.mpr c9
   subst c9
   rw [if_neg (show ¬ (false = true) by decide)] at H
   have H' := Aside0.mk H
   clear H
   have hz21 := bc9 BK552
   go_wp2_with (first | ((with_reducible refine gg ?_); refine gL 9 Tryz.func33 #[.int .i64 a0_0, .int .i64 0, .int .i64 19] ?_; (with_reducible refine (impl_in.calls a0_0 0 19 true _ A4.out).mono ?_); rintro e w' ⟨rfl, ⟨nd, rfl⟩⟩; refine ⟨_, rfl, ?_⟩) | (go_at_call 49; (with_reducible refine (impl_headOk.calls k a0_1 a0_2 a0_3 a0_4 a0_5 true _ A6.out).mono ?_); rintro e w22 ⟨rfl, hb⟩; replace BK552 := kP _ BK552 hb; replace HB := kH HB hb; (try clear hb); have hz23 := bc9 BK552) | (go_at_call 50; (with_reducible refine (impl_RangeOk.calls k _ _ l0_6 false _ ?side1 ?side2 A8.out).mono ?_); (case side1 => exact cb HR0_6 HB); (case side2 => exact HC0_6.out); rintro e w24 ⟨rfl, hb⟩; replace BK552 := kP _ BK552 hb; replace HB := kH HB hb; (try clear hb)))
   go_meet
   case rel => exact ⟨_, (true), xR, H', ⟨xO⟩, ⟨kb BK552⟩, ⟨xB HB⟩⟩
  subst c9
  rw [if_pos rfl] at H
  by_cases c10 : (l0_7.length : Int) > 8
  ·rw [if_pos c10] at H
   have c10b0 := decide_eq_true c10
   have c10b1 : decide (8 < l0_7.length) = true := decide_eq_true (by omega)
   clear c10
   (first | rw [c10b0] | rw [c10b1] | (simp only [i64_w, i32_w]; rw [c10b0]) | skip)
   have H' := Aside0.mk H
   clear H
   have hz11 := bc9 BK552
   go_wp2_with (first | ((with_reducible refine gg ?_); refine gL 9 Tryz.func33 #[.int .i64 a0_0, .int .i64 0, .int .i64 19] ?_; (with_reducible refine (impl_in.calls a0_0 0 19 true _ A4.out).mono ?_); rintro e w' ⟨rfl, ⟨nd, rfl⟩⟩; refine ⟨_, rfl, ?_⟩) | (go_at_call 49; (with_reducible refine (impl_headOk.calls k a0_1 a0_2 a0_3 a0_4 a0_5 true _ A6.out).mono ?_); rintro e w12 ⟨rfl, hb⟩; replace BK552 := kP _ BK552 hb; replace HB := kH HB hb; (try clear hb); have hz13 := bc9 BK552) | (go_at_call 50; (with_reducible refine (impl_RangeOk.calls k _ _ l0_6 true _ ?side1 ?side2 A8.out).mono ?_); (case side1 => exact cb HR0_6 HB); (case side2 => exact HC0_6.out); rintro e w14 ⟨rfl, hb⟩; replace BK552 := kP _ BK552 hb; replace HB := kH HB hb; (try clear hb); have hz15 := bc9 BK552))
   go_meet
   case rel => exact ⟨_, (true), xR, H', ⟨xO⟩, ⟨kb BK552⟩, ⟨xB HB⟩⟩
  rw [if_neg c10] at H
  have c10b0 := decide_eq_false c10
  have c10b1 : decide (8 < l0_7.length) = false := decide_eq_false (by omega)
  clear c10
  (first | rw [c10b0] | rw [c10b1] | (simp only [i64_w, i32_w]; rw [c10b0]) | skip)
  have H' := Aside0.mk H
  clear H
  have hz16 := bc9 BK552
  go_wp2_with (first | ((with_reducible refine gg ?_); refine gL 9 Tryz.func33 #[.int .i64 a0_0, .int .i64 0, .int .i64 19] ?_; (with_reducible refine (impl_in.calls a0_0 0 19 true _ A4.out).mono ?_); rintro e w' ⟨rfl, ⟨nd, rfl⟩⟩; refine ⟨_, rfl, ?_⟩) | (go_at_call 49; (with_reducible refine (impl_headOk.calls k a0_1 a0_2 a0_3 a0_4 a0_5 true _ A6.out).mono ?_); rintro e w17 ⟨rfl, hb⟩; replace BK552 := kP _ BK552 hb; replace HB := kH HB hb; (try clear hb); have hz18 := bc9 BK552) | (go_at_call 50; (with_reducible refine (impl_RangeOk.calls k _ _ l0_6 true _ ?side1 ?side2 A8.out).mono ?_); (case side1 => exact cb HR0_6 HB); (case side2 => exact HC0_6.out); rintro e w19 ⟨rfl, hb⟩; replace BK552 := kP _ BK552 hb; replace HB := kH HB hb; (try clear hb); have hz20 := bc9 BK552))
  go_meet
  case rel => exact ⟨_, (decide ((l0_8.length : Int) > 8)), xR, H', ⟨xO⟩, ⟨kb BK552⟩, ⟨xB HB⟩⟩
 case rest =>
  clear HC2
  try clear c1
  try clear p2
  try clear c3
  try clear c5
  try clear c7
  try clear c9
  try clear c10
  try clear c10b0
  try clear c10b1
  try clear c18
  try clear hz11
  try clear hz13
  try clear hz15
  try clear hz16
  try clear hz18
  try clear hz20
  try clear hz21
  try clear hz23
  try clear hz25
  try clear hz27
  obtain ⟨kq, x36_1, rfl, HA, HJ1, BK552, HB⟩ := hcut
  cases kq with
  | zero => exact absurd HA.out (by simp [impl_paidOk.j0])
  | succ kj1 =>
   have H := HA.out
   clear HA
   simp only [impl_paidOk.j0] at H
   by_cases c28 : x36_1 = true
   ·subst c28
    rw [if_pos rfl] at H
    obtain rfl := Option.some.inj H
    go_wp2
    go_ret
    exact ⟨xE, xB HB⟩
   replace c28 := Bool.eq_false_iff.mpr c28
   subst c28
   rw [if_neg (show ¬ (false = true) by decide)] at H
   have H' := Aside0.mk H
   clear H
   have hz29 := bc9 BK552
   go_wp2
   go_loopg [41] kj1 (fun kq v41 w' => ∃ (x41_2 : Int), v41 = .int .i64 x41_2 ∧ Aside0 (impl_paidOk.l0 kq l0_7 (l0_7.length : Int) x41_2 a0_0 a0_1 a0_2 a0_3 a0_4 a0_5 l0_6 l0_7 l0_8 = some r) ∧ Aside0 (kq ≤ kj1) ∧ Aside0 (w'.heap[gb552]? = some (.cells #[.int .i64 a0_0, .string a0_1, .string a0_2, .int .i64 a0_3, .int .i64 a0_4, .int .i64 a0_5, (.slice A0_6 l0_6.length c0_6), (.slice A0_7 l0_7.length c0_7), (.slice A0_8 l0_8.length c0_8)] 30 (0, 0))) ∧ Aside0 (Below w.heap.size w w'))
   case atStart => exact ⟨(0), xR, H', ⟨Nat.le_refl _⟩, ⟨kb BK552⟩, ⟨xB HB⟩⟩
   case round =>
    clear H'
    try clear c1
    try clear c2
    try clear p2
    try clear c3
    try clear c5
    try clear c7
    try clear c9
    try clear c10
    try clear c10b0
    try clear c10b1
    try clear c18
    try clear c28
    try clear hz11
    try clear hz13
    try clear hz15
    try clear hz16
    try clear hz18
    try clear hz20
    try clear hz21
    try clear hz23
    try clear hz25
    try clear hz27
    try clear hz29
    try clear p2
    obtain ⟨x41_2, rfl, HA, HK2, BK552, HB⟩ := hrel
    cases gk with
    | zero => exact absurd HA.out (by simp [impl_paidOk.l0])
    | succ k2 =>
     have H := HA.out
     clear HA
     simp only [impl_paidOk.l0] at H
     by_cases c30 : x41_2 < (l0_7.length : Int)
     ·rw [if_pos c30] at H
      have c30b0 := decide_eq_true c30
      clear c30
      replace H := ipd H
      obtain ⟨c31b0, H⟩ := H
      replace H := ipd H
      obtain ⟨c32b0, H⟩ := H
      replace H := oa H
      obtain ⟨t558, A33, H⟩ := H
      have p556 : 0 ≤ (x41_2 : Int) := of_decide_eq_true xA
      have q556 : x41_2 < (l0_7.length : Int) := of_decide_eq_true xA
      obtain ⟨ad556, e556, hx556_0, hx556_1, hx556_2⟩ := at_T93 HR0_7.out x41_2 p556 q556
      cases e556
      replace hx556_0 := hc HB hx556_0
      replace hx556_1 := hc HB hx556_1
      replace hx556_2 := hc HB hx556_2
      replace p556 := eq_true p556
      replace q556 := eq_true q556
      go_upto_if 47 with (first | ((with_reducible refine gate_dst (N := 4) rfl ?_); (try (refine gate_guard (by rfl) ?_; dsimp only)); refine box_event ?hg (N := 4) ?hd (cs := #[.string (⟨#[]⟩ : ByteArray), .int .i64 0, .int .i64 0]) (t := 93) ?hr ?_; (case hd => rfl); (case hg => rfl); (case hr => first | (go_simp; done) | (go_simp; rfl)); intro gb557 hg w35 hbox hb; have BK557 := am (hbox); have GW557 := zB hg HB; have GE557 := zB hg HB; replace HB := kH HB hb; have NB552_557 := nl hg (kb BK552); have NB557_552 := ng hg (kb BK552); replace BK552 := kP _ BK552 hb; clear hb hbox hg; have hnb36 := NB557_552.out; have hnc36 := NB552_557.out; have hz37 := bc3 BK557) | ((with_reducible refine gg ?_); refine gL 46 Tryz.func51 #[.agg #[.string ((rd_T93 l0_7 x41_2).f0), .int .i64 ((rd_T93 l0_7 x41_2).f1), .int .i64 ((rd_T93 l0_7 x41_2).f2)]] ?_; (with_reducible refine (impl_peakOk.calls k2 ((rd_T93 l0_7 x41_2).f0) ((rd_T93 l0_7 x41_2).f1) ((rd_T93 l0_7 x41_2).f2) t558 _ A33.out).mono ?_); rintro e w38 ⟨rfl, hb⟩; refine ⟨_, rfl, ?_⟩; replace BK552 := kP _ BK552 hb; replace BK557 := kP (.cells #[.string ((rd_T93 l0_7 x41_2).f0), .int .i64 ((rd_T93 l0_7 x41_2).f1), .int .i64 ((rd_T93 l0_7 x41_2).f2)] 93 (0, 0)) BK557 hb; replace HB := kH HB hb; (try clear hb)))
      by_cases c34 : t558 = true
      rotate_left
      ·replace c34 := Bool.eq_false_iff.mpr c34
       subst c34
       try simp only [Bool.not_true, Bool.not_false]
       rw [if_neg (show ¬ (false = true) by decide)] at H
       obtain rfl := Option.some.inj H
       go_wp2
       go_ret
       exact ⟨xE, xB HB⟩
      subst c34
      try simp only [Bool.not_true, Bool.not_false]
      rw [if_pos rfl] at H
      have H' := Aside0.mk H
      clear H
      go_wp2
      go_roundg k2
      case measure => have := HJ1.out; have := HK2.out; omega
      case rel => exact ⟨(wrap64 (x41_2 + 1)), xR, H', ⟨by have := HJ1.out; have := HK2.out; omega⟩, ⟨kb BK552⟩, ⟨xB HB⟩⟩
     rw [if_neg c30] at H
     have c30b0 := decide_eq_false c30
     clear c30
     have H' := Aside0.mk H
     clear H
     have hz43 := bc9 BK552
     go_wp2
     go_loopg [52] k2 (fun kq v52 w' => ∃ (x52_3 : Int), v52 = .int .i64 x52_3 ∧ Aside0 (impl_paidOk.l1 kq l0_8 (l0_8.length : Int) x52_3 = some r) ∧ Aside0 (kq ≤ k2) ∧ Aside0 (w'.heap[gb552]? = some (.cells #[.int .i64 a0_0, .string a0_1, .string a0_2, .int .i64 a0_3, .int .i64 a0_4, .int .i64 a0_5, (.slice A0_6 l0_6.length c0_6), (.slice A0_7 l0_7.length c0_7), (.slice A0_8 l0_8.length c0_8)] 30 (0, 0))) ∧ Aside0 (Below w.heap.size w w'))
     case atStart => exact ⟨(0), xR, H', ⟨Nat.le_refl _⟩, ⟨kb BK552⟩, ⟨xB HB⟩⟩
     case round =>
      clear H'
      try clear c1
      try clear c2
      try clear p2
      try clear c3
      try clear c4
      try clear c5
      try clear p5
      try clear q5
      try clear hx5
      try clear p6
      try clear c7
      try clear c9
      try clear c10
      try clear c10b0
      try clear c10b1
      try clear c18
      try clear c28
      try clear c30
      try clear c30b0
      try clear c31
      try clear c31b0
      try clear c32
      try clear c32b0
      try clear c33
      try clear c34
      try clear c36
      try clear c40
      try clear hz11
      try clear hz13
      try clear hz15
      try clear hz16
      try clear hz18
      try clear hz20
      try clear hz21
      try clear hz23
      try clear hz25
      try clear hz27
      try clear hz29
      try clear hz37
      try clear hz41
      try clear hz43
      try clear hx556_0
      try clear hx556_1
      try clear hx556_2
      try clear p2
      try clear p556
      try clear q556
      obtain ⟨x52_3, rfl, HA, HK3, BK552, HB⟩ := hrel
      cases gk with
      | zero => exact absurd HA.out (by simp [impl_paidOk.l1])
      | succ k3 =>
       have H := HA.out
       clear HA
       simp only [impl_paidOk.l1] at H
       by_cases c44 : x52_3 < (l0_8.length : Int)
       rotate_left
       ·rw [if_neg c44] at H
        have c44b0 := decide_eq_false c44
        clear c44
        obtain rfl := Option.some.inj H
        go_wp2
        go_ret
        exact ⟨xE, xB HB⟩
       rw [if_pos c44] at H
       have c44b0 := decide_eq_true c44
       clear c44
       replace H := ipd H
       obtain ⟨c45b0, H⟩ := H
       replace H := ipd H
       obtain ⟨c46b0, H⟩ := H
       replace H := oa H
       obtain ⟨t561, A47, H⟩ := H
       have p559 : 0 ≤ (x52_3 : Int) := of_decide_eq_true xA
       have q559 : x52_3 < (l0_8.length : Int) := of_decide_eq_true xA
       obtain ⟨ad559, e559, hx559_0, hx559_1⟩ := at_T48 HR0_8.out x52_3 p559 q559
       cases e559
       replace hx559_0 := hc HB hx559_0
       replace hx559_1 := hc HB hx559_1
       replace p559 := eq_true p559
       replace q559 := eq_true q559
       go_upto_if 59 with (first | ((with_reducible refine gate_dst (N := 6) rfl ?_); (try (refine gate_guard (by rfl) ?_; dsimp only)); refine box_event ?hg (N := 6) ?hd (cs := #[.string (⟨#[]⟩ : ByteArray), .bool false]) (t := 48) ?hr ?_; (case hd => rfl); (case hg => rfl); (case hr => first | (go_simp; done) | (go_simp; rfl)); intro gb560 hg w49 hbox hb; have BK560 := am (hbox); have GW560 := zB hg HB; have GE560 := zB hg HB; replace HB := kH HB hb; have NB552_560 := nl hg (kb BK552); have NB560_552 := ng hg (kb BK552); replace BK552 := kP _ BK552 hb; clear hb hbox hg; have hnb50 := NB560_552.out; have hnc50 := NB552_560.out; have hz51 := bc2 BK560) | ((with_reducible refine gg ?_); refine gL 58 Tryz.func52 #[.string ((rd_T48 l0_8 x52_3).f0)] ?_; (with_reducible refine (impl_isSum.calls k3 ((rd_T48 l0_8 x52_3).f0) t561 _ A47.out).mono ?_); rintro e w' ⟨rfl, ⟨nd, rfl⟩⟩; refine ⟨_, rfl, ?_⟩))
       by_cases c48 : t561 = true
       rotate_left
       ·replace c48 := Bool.eq_false_iff.mpr c48
        subst c48
        try simp only [Bool.not_true, Bool.not_false]
        rw [if_neg (show ¬ (false = true) by decide)] at H
        obtain rfl := Option.some.inj H
        go_wp2
        go_ret
        exact ⟨xE, xB HB⟩
       subst c48
       try simp only [Bool.not_true, Bool.not_false]
       rw [if_pos rfl] at H
       have H' := Aside0.mk H
       clear H
       go_wp2
       go_roundg k3
       case measure => have := HJ1.out; have := HK2.out; have := HK3.out; omega
       case rel => exact ⟨(wrap64 (x52_3 + 1)), xR, H', ⟨by have := HJ1.out; have := HK2.out; have := HK3.out; omega⟩, ⟨fb BK552⟩, ⟨xB HB⟩⟩
-- NOT PRINTED: function 99 (strconv_small)
-- NOT PRINTED: function 112 (strconv_log10Pow2)
-- NOT PRINTED: function 113 (bits_Len64)
-- NOT PRINTED: function 114 (strconv_bool2_int)
-- NOT PRINTED: function 100 (strconv_numDigits)
-- NOT PRINTED: function 101 (strconv_formatBase10)
-- NOT PRINTED: function 115 (strconv_isPowerOfTwo)
-- NOT PRINTED: function 121 (bits_TrailingZeros32)
-- NOT PRINTED: function 122 (bits_TrailingZeros64)
-- NOT PRINTED: function 116 (bits_TrailingZeros)
-- NOT PRINTED: function 102 (strconv_formatBits)
-- NOT PRINTED: function 78 (strconv_FormatInt)
-- NOT PRINTED: function 53 (strconv_Itoa_53)
def strconv_Itoa_19.f (a0 : Int) : Option (ByteArray) := if -9223372036854775808 ≤ a0 ∧ a0 ≤ 9223372036854775807 then some (Sh.itoaS a0) else none
theorem strconv_Itoa_19.calls (a0 : Int) (r : ByteArray) (w : World) (h : strconv_Itoa_19.f a0 = some r) (PQT_ : Aside0 (Sh.HasT w)) :
  Calls Tryz.prog 19 #[.int .i64 a0] w fun e w' => e = .returned (.string r) ∧ Below w.heap.size w w' := by
 unfold strconv_Itoa_19.f at h
 by_cases hm : -9223372036854775808 ≤ a0 ∧ a0 ≤ 9223372036854775807
 rotate_left
 ·rw [if_neg hm] at h
  exact absurd h (by simp)
 rw [if_pos hm] at h
 obtain rfl := Option.some.inj h
 exact Sh.itoa_calls a0 hm.1 hm.2 w PQT_.out
def impl_HeadPut.f (k : Nat) (a0_0 : ByteArray) (a0_1 : ByteArray) (a0_2 : Int) (a0_3 : Int) (a0_4 : Int) : Option (ByteArray) := (impl_headOk.f k a0_0 a0_1 a0_2 a0_3 a0_4).bind fun t563 => (if t563 = true then (if a0_0.size + 1 ≤ 9223372036854775807 then (if (a0_0 ++ (⟨#[32]⟩ : ByteArray)).size + a0_1.size ≤ 9223372036854775807 then (if ((a0_0 ++ (⟨#[32]⟩ : ByteArray)) ++ a0_1).size + 1 ≤ 9223372036854775807 then ((strconv_Itoa_19.f a0_2).bind fun t564 => (if (((a0_0 ++ (⟨#[32]⟩ : ByteArray)) ++ a0_1) ++ (⟨#[32]⟩ : ByteArray)).size + t564.size ≤ 9223372036854775807 then (if ((((a0_0 ++ (⟨#[32]⟩ : ByteArray)) ++ a0_1) ++ (⟨#[32]⟩ : ByteArray)) ++ t564).size + 1 ≤ 9223372036854775807 then ((strconv_Itoa_19.f a0_3).bind fun t565 => (if (((((a0_0 ++ (⟨#[32]⟩ : ByteArray)) ++ a0_1) ++ (⟨#[32]⟩ : ByteArray)) ++ t564) ++ (⟨#[32]⟩ : ByteArray)).size + t565.size ≤ 9223372036854775807 then (if ((((((a0_0 ++ (⟨#[32]⟩ : ByteArray)) ++ a0_1) ++ (⟨#[32]⟩ : ByteArray)) ++ t564) ++ (⟨#[32]⟩ : ByteArray)) ++ t565).size + 1 ≤ 9223372036854775807 then ((strconv_Itoa_19.f a0_4).bind fun t566 => (if (((((((a0_0 ++ (⟨#[32]⟩ : ByteArray)) ++ a0_1) ++ (⟨#[32]⟩ : ByteArray)) ++ t564) ++ (⟨#[32]⟩ : ByteArray)) ++ t565) ++ (⟨#[32]⟩ : ByteArray)).size + t566.size ≤ 9223372036854775807 then (some ((((((((a0_0 ++ (⟨#[32]⟩ : ByteArray)) ++ a0_1) ++ (⟨#[32]⟩ : ByteArray)) ++ t564) ++ (⟨#[32]⟩ : ByteArray)) ++ t565) ++ (⟨#[32]⟩ : ByteArray)) ++ t566)) else (none))) else (none)) else (none))) else (none)) else (none))) else (none)) else (none)) else (none)) else (some (⟨#[]⟩ : ByteArray)))
theorem impl_HeadPut.mono : ∀ a0 a1 a2 a3 a4 k, LeO (impl_HeadPut.f k a0 a1 a2 a3 a4) (impl_HeadPut.f (k + 1) a0 a1 a2 a3 a4) := by
 intro a0 a1 a2 a3 a4 k
 unfold impl_HeadPut.f
 exact mo1 impl_headOk.mono
def impl_HeadPut.T3 : Bool × List (List Nat × List Nat) := (true, [([], []), ([0], [0]), ([1], [1]), ([], []), ([3], [3]), ([2, 4], [2, 4]), ([5], [5]), ([], []), ([7], [7]), ([8], [8]), ([6, 9], [6, 9]), ([10], [10]), ([], []), ([12], [12]), ([13, 9], [13]), ([11, 14], [11, 14]), ([15], [15]), ([], []), ([17], [17]), ([18, 14], [18]), ([16, 19], [16, 19]), ([20, 19, 0, 1, 2, 3, 4, 5, 6, 7, 8, 9, 10, 11, 12, 13, 14, 15, 16, 17, 18, 19, 20], [20])])
def impl_HeadPut.B3 : List Nat := [0, 1, 3, 0, 8, 31, 63, 0, 128, 384, 1023, 2047, 0, 4096, 13184, 32767, 65535, 0, 131072, 422784, 1048575, 2097151]
theorem impl_HeadPut.tab3 : rtab .any (opsOf Tryz.f20 3) = impl_HeadPut.T3 := by kernel_rfl
theorem impl_HeadPut.bits3 : waitsOk impl_HeadPut.T3.2 impl_HeadPut.B3 = true := by kernel_rfl
theorem impl_HeadPut.calls (k : Nat) (a0_0 : ByteArray) (a0_1 : ByteArray) (a0_2 : Int) (a0_3 : Int) (a0_4 : Int) (r : ByteArray) (w : World) (h : impl_HeadPut.f k a0_0 a0_1 a0_2 a0_3 a0_4 = some r) (PQT_ : Aside0 (Sh.HasT w)) :
  Calls Tryz.prog 20 #[.agg #[.string a0_0, .string a0_1, .int .i64 a0_2, .int .i64 a0_3, .int .i64 a0_4]] w fun e w' => e = .returned (.string r) ∧ Below w.heap.size w w' := by
 have hu24 := Tryz.underlying24
 have HB := Aside0.mk (Below.refl w.heap.size w)
 have H : ((impl_headOk.f k a0_0 a0_1 a0_2 a0_3 a0_4).bind fun t563 => (if t563 = true then (if a0_0.size + 1 ≤ 9223372036854775807 then (if (a0_0 ++ (⟨#[32]⟩ : ByteArray)).size + a0_1.size ≤ 9223372036854775807 then (if ((a0_0 ++ (⟨#[32]⟩ : ByteArray)) ++ a0_1).size + 1 ≤ 9223372036854775807 then ((strconv_Itoa_19.f a0_2).bind fun t564 => (if (((a0_0 ++ (⟨#[32]⟩ : ByteArray)) ++ a0_1) ++ (⟨#[32]⟩ : ByteArray)).size + t564.size ≤ 9223372036854775807 then (if ((((a0_0 ++ (⟨#[32]⟩ : ByteArray)) ++ a0_1) ++ (⟨#[32]⟩ : ByteArray)) ++ t564).size + 1 ≤ 9223372036854775807 then ((strconv_Itoa_19.f a0_3).bind fun t565 => (if (((((a0_0 ++ (⟨#[32]⟩ : ByteArray)) ++ a0_1) ++ (⟨#[32]⟩ : ByteArray)) ++ t564) ++ (⟨#[32]⟩ : ByteArray)).size + t565.size ≤ 9223372036854775807 then (if ((((((a0_0 ++ (⟨#[32]⟩ : ByteArray)) ++ a0_1) ++ (⟨#[32]⟩ : ByteArray)) ++ t564) ++ (⟨#[32]⟩ : ByteArray)) ++ t565).size + 1 ≤ 9223372036854775807 then ((strconv_Itoa_19.f a0_4).bind fun t566 => (if (((((((a0_0 ++ (⟨#[32]⟩ : ByteArray)) ++ a0_1) ++ (⟨#[32]⟩ : ByteArray)) ++ t564) ++ (⟨#[32]⟩ : ByteArray)) ++ t565) ++ (⟨#[32]⟩ : ByteArray)).size + t566.size ≤ 9223372036854775807 then (some ((((((((a0_0 ++ (⟨#[32]⟩ : ByteArray)) ++ a0_1) ++ (⟨#[32]⟩ : ByteArray)) ++ t564) ++ (⟨#[32]⟩ : ByteArray)) ++ t565) ++ (⟨#[32]⟩ : ByteArray)) ++ t566)) else (none))) else (none)) else (none))) else (none)) else (none))) else (none)) else (none)) else (none)) else (some (⟨#[]⟩ : ByteArray)))) = some r := h
 clear h
 replace H := oa H
 obtain ⟨t563, A2, H⟩ := H
 go_enter Tryz.func20, Tryz.ntmps20
 go_upto_if 5 with ((with_reducible refine gg ?_); first | (refine bE 1 #[.string a0_0, .string a0_1, .int .i64 a0_2, .int .i64 a0_3, .int .i64 a0_4] 24 ?_; intro gb562 hg w15 hbox hb; have BK562 := am (hbox); have GW562 := zB hg HB; have GE562 := zB hg HB; replace HB := kH HB hb; clear hb hbox hg; have hz16 := bc5 BK562) | (refine store_event (t := 24) (p := 1) (v := ?vo_) (w1 := ?wo_) ?hg ?ho ?hn ?hr ?_; (case ho => rfl); (case hg => rfl); (case hn => rfl); (case hr => go_simp; rfl); intro wq_ hW_; have BQ_ := am hW_; have hzq_ := am hW_; replace hW_ := am hW_) | (refine gL 4 Tryz.func49 #[.agg #[.string a0_0, .string a0_1, .int .i64 a0_2, .int .i64 a0_3, .int .i64 a0_4]] ?_; (try (clear hzq_ BQ_; obtain ⟨hW_⟩ := hW_; subst hW_)); (with_reducible refine (impl_headOk.calls k a0_0 a0_1 a0_2 a0_3 a0_4 t563 _ A2.out).mono ?_); rintro e w17 ⟨rfl, hb⟩; refine ⟨_, rfl, ?_⟩; replace BK562 := kP _ BK562 hb; replace HB := kH HB hb; (try clear hb)))
 by_cases c3 : t563 = true
 rotate_left
 ·replace c3 := Bool.eq_false_iff.mpr c3
  subst c3
  try simp only [Bool.not_true, Bool.not_false]
  rw [if_neg (show ¬ (false = true) by decide)] at H
  obtain rfl := Option.some.inj H
  go_wp2
  (try (clear hzq_ BQ_; obtain ⟨hW_⟩ := hW_; subst hW_))
  go_ret
  exact ⟨xE, xB HB⟩
 subst c3
 try simp only [Bool.not_true, Bool.not_false]
 rw [if_pos rfl] at H
 replace H := ip H
 obtain ⟨c4, H⟩ := H
 have c4b0 := eq_true c4
 have c4b1 := decide_eq_true c4
 have c4b2 := nf c4
 replace H := ip H
 obtain ⟨c5, H⟩ := H
 have c5b0 := eq_true c5
 have c5b1 := decide_eq_true c5
 have c5b2 := nf c5
 try (have c5b3 := c5b2; simp only [ByteArray.size_append, show (⟨#[32]⟩ : ByteArray).size = 1 from rfl] at c5b3)
 replace H := ip H
 obtain ⟨c6, H⟩ := H
 have c6b0 := eq_true c6
 have c6b1 := decide_eq_true c6
 have c6b2 := nf c6
 try (have c6b3 := c6b2; simp only [ByteArray.size_append, show (⟨#[32]⟩ : ByteArray).size = 1 from rfl] at c6b3)
 replace H := oa H
 obtain ⟨t564, A7, H⟩ := H
 replace H := ip H
 obtain ⟨c8, H⟩ := H
 have c8b0 := eq_true c8
 have c8b1 := decide_eq_true c8
 have c8b2 := nf c8
 try (have c8b3 := c8b2; simp only [ByteArray.size_append, show (⟨#[32]⟩ : ByteArray).size = 1 from rfl] at c8b3)
 replace H := ip H
 obtain ⟨c9, H⟩ := H
 have c9b0 := eq_true c9
 have c9b1 := decide_eq_true c9
 have c9b2 := nf c9
 try (have c9b3 := c9b2; simp only [ByteArray.size_append, show (⟨#[32]⟩ : ByteArray).size = 1 from rfl] at c9b3)
 replace H := oa H
 obtain ⟨t565, A10, H⟩ := H
 replace H := ip H
 obtain ⟨c11, H⟩ := H
 have c11b0 := eq_true c11
 have c11b1 := decide_eq_true c11
 have c11b2 := nf c11
 try (have c11b3 := c11b2; simp only [ByteArray.size_append, show (⟨#[32]⟩ : ByteArray).size = 1 from rfl] at c11b3)
 replace H := ip H
 obtain ⟨c12, H⟩ := H
 have c12b0 := eq_true c12
 have c12b1 := decide_eq_true c12
 have c12b2 := nf c12
 try (have c12b3 := c12b2; simp only [ByteArray.size_append, show (⟨#[32]⟩ : ByteArray).size = 1 from rfl] at c12b3)
 replace H := oa H
 obtain ⟨t566, A13, H⟩ := H
 replace H := ip H
 obtain ⟨c14, H⟩ := H
 have c14b0 := eq_true c14
 have c14b1 := decide_eq_true c14
 have c14b2 := nf c14
 try (have c14b3 := c14b2; simp only [ByteArray.size_append, show (⟨#[32]⟩ : ByteArray).size = 1 from rfl] at c14b3)
 obtain rfl := Option.some.inj H
 try go_wp2
 replace BK562 := am (blk_drew BK562.out)
 replace HB := am (below_drew1 HB.out)
 (try (clear hzq_ BQ_; obtain ⟨hW_⟩ := hW_; subst hW_))
 refine start_ (n := 22) (S := cs5 gb562 (.string a0_0) (.string a0_1) (.int .i64 a0_2) (.int .i64 a0_3) (.int .i64 a0_4)) (ds := []) (bm 22 0) (by kernel_rfl) rfl rfl (bz5 BK562) (fun hHeld => ?_); refine with_tabW impl_HeadPut.tab3 impl_HeadPut.bits3 (fun HT_ HW_ => ?_)
 generalize w17.drew = w18 at BK562 HB hHeld ⊢
 refine pA 0 6 (bm 22 1) HT_ ?_
 refine pA 3 9 (bm 22 9) HT_ ?_
 refine pA 7 13 (bm 22 137) HT_ ?_
 refine pA 12 18 (bm 22 4233) HT_ ?_
 refine pA 17 23 (bm 22 135305) HT_ ?_
 refine tA 1 7 (bm 22 135307) HT_ HW_ hHeld ?_
 refine pA 2 8 (bm 22 135311) HT_ ?_
 refine tA 4 10 (bm 22 135327) HT_ HW_ hHeld ?_
 refine pA 5 11 (bm 22 135359) HT_ ?_
 refine pA 6 12 (bm 22 135423) HT_ ?_
 refine tA 8 14 (bm 22 135679) HT_ HW_ hHeld ?_
 refine tA 13 19 (bm 22 143871) HT_ HW_ hHeld ?_
 refine tA 18 24 (bm 22 406015) HT_ HW_ hHeld ?_
 refine oA 9 (some 15) (bm 22 406527) HT_ fun K hK => ?_
 refine gA Tryz.func19 #[.int .i64 a0_2] ?_
 with_reducible refine (strconv_Itoa_19.calls a0_2 t564 _ A7.out (Aside0.mk (Sh.hasT_of PQT_ (bl HB)))).mono ?_
 rintro e w19 ⟨rfl, hb⟩
 refine ⟨_, rfl, ?_⟩
 replace BK562 := kP _ BK562 hb
 replace HB := kH HB hb
 (try clear hb)
 (try clear hb2)
 (try clear hk)
 (try clear hi)
 refine hK.out _ _ (bz5 BK562) (fun hHeld => ?_)
 clear hK K
 refine nA (some 15) ?_
 refine pA 10 16 (bm 22 407551) HT_ ?_
 refine pA 11 17 (bm 22 409599) HT_ ?_
 refine oA 14 (some 20) (bm 22 425983) HT_ fun K hK => ?_
 refine gA Tryz.func19 #[.int .i64 a0_3] ?_
 with_reducible refine (strconv_Itoa_19.calls a0_3 t565 _ A10.out (Aside0.mk (Sh.hasT_of PQT_ (bl HB)))).mono ?_
 rintro e w20 ⟨rfl, hb⟩
 refine ⟨_, rfl, ?_⟩
 replace BK562 := kP _ BK562 hb
 replace HB := kH HB hb
 (try clear hb)
 (try clear hb2)
 (try clear hk)
 (try clear hi)
 refine hK.out _ _ (bz5 BK562) (fun hHeld => ?_)
 clear hK K
 refine nA (some 20) ?_
 refine pA 15 21 (bm 22 458751) HT_ ?_
 refine pA 16 22 (bm 22 524287) HT_ ?_
 refine oA 19 (some 25) (bm 22 1048575) HT_ fun K hK => ?_
 refine gA Tryz.func19 #[.int .i64 a0_4] ?_
 with_reducible refine (strconv_Itoa_19.calls a0_4 t566 _ A13.out (Aside0.mk (Sh.hasT_of PQT_ (bl HB)))).mono ?_
 rintro e w21 ⟨rfl, hb⟩
 refine ⟨_, rfl, ?_⟩
 replace BK562 := kP _ BK562 hb
 replace HB := kH HB hb
 (try clear hb)
 (try clear hb2)
 (try clear hk)
 (try clear hi)
 refine hK.out _ _ (bz5 BK562) (fun hHeld => ?_)
 clear hK K
 refine nA (some 25) ?_
 refine pA 20 26 (bm 22 2097151) HT_ ?_
 refine pA 21 2 (bm 22 4194303) HT_ ?_
 refine done_ (done_of HT_.out (by kernel_rfl)) ?_
 try go_wp2
 (try (clear hzq_ BQ_; obtain ⟨hW_⟩ := hW_; subst hW_))
 go_ret
 exact ⟨xE, xB HB⟩
def impl_peaksPut.l0 : Nat → ByteArray → List (S93) → Int → Int → Option (ByteArray)
 | 0, _, _, _, _ => none
 | k + 1, x5, x9, x10, x11 => if x11 < x10 then (if 0 ≤ x11 then (if x11 < (x9.length : Int) then (if 1 + ((rd_T93 x9 x11).f0).size ≤ 9223372036854775807 then (if ((⟨#[32]⟩ : ByteArray) ++ ((rd_T93 x9 x11).f0)).size + 1 ≤ 9223372036854775807 then ((strconv_Itoa_19.f ((rd_T93 x9 x11).f1)).bind fun t569 => (if (((⟨#[32]⟩ : ByteArray) ++ ((rd_T93 x9 x11).f0)) ++ (⟨#[58]⟩ : ByteArray)).size + t569.size ≤ 9223372036854775807 then (if ((((⟨#[32]⟩ : ByteArray) ++ ((rd_T93 x9 x11).f0)) ++ (⟨#[58]⟩ : ByteArray)) ++ t569).size + 1 ≤ 9223372036854775807 then ((strconv_Itoa_19.f ((rd_T93 x9 x11).f2)).bind fun t570 => (if (((((⟨#[32]⟩ : ByteArray) ++ ((rd_T93 x9 x11).f0)) ++ (⟨#[58]⟩ : ByteArray)) ++ t569) ++ (⟨#[58]⟩ : ByteArray)).size + t570.size ≤ 9223372036854775807 then (if x5.size + ((((((⟨#[32]⟩ : ByteArray) ++ ((rd_T93 x9 x11).f0)) ++ (⟨#[58]⟩ : ByteArray)) ++ t569) ++ (⟨#[58]⟩ : ByteArray)) ++ t570).size ≤ 9223372036854775807 then (impl_peaksPut.l0 k (x5 ++ ((((((⟨#[32]⟩ : ByteArray) ++ ((rd_T93 x9 x11).f0)) ++ (⟨#[58]⟩ : ByteArray)) ++ t569) ++ (⟨#[58]⟩ : ByteArray)) ++ t570)) x9 x10 (wrap64 (x11 + 1))) else (none)) else (none))) else (none)) else (none))) else (none)) else (none)) else (none)) else (none)) else (if x5.size + 1 ≤ 9223372036854775807 then (some (x5 ++ (⟨#[10]⟩ : ByteArray))) else (none))
def impl_peaksPut.f (k : Nat) (a0 : ByteArray) (l1 : List (S93)) : Option (ByteArray) := impl_peaksPut.l0 k a0 l1 (l1.length : Int) 0
theorem impl_peaksPut.mono_l : ∀ k, (∀ y0 y1 y2 y3, LeO (impl_peaksPut.l0 k y0 y1 y2 y3) (impl_peaksPut.l0 (k + 1) y0 y1 y2 y3))
 | 0 => fun _ _ _ _ r h => by simp [impl_peaksPut.l0] at h
 | k + 1 => by
  have ih0 := impl_peaksPut.mono_l k
  ·intro y0 y1 y2 y3
   unfold impl_peaksPut.l0
   exact mo1 ih0
theorem impl_peaksPut.mono : ∀ a0 a1 k, LeO (impl_peaksPut.f k a0 a1) (impl_peaksPut.f (k + 1) a0 a1) := by
 intro a0 a1 k
 have ih0 := impl_peaksPut.mono_l k
 unfold impl_peaksPut.f
 exact mo1 ih0
def impl_peaksPut.T5 : Bool × List (List Nat × List Nat) := (true, [([], []), ([], []), ([1], [1]), ([2], [2]), ([3], [3]), ([], []), ([5], [5]), ([6], [6]), ([4, 7], [4, 7]), ([8], [8]), ([], []), ([10], [10]), ([11, 7], [11]), ([9, 12], [9, 12]), ([0, 13], [0, 13]), ([14, 12, 0, 1, 2, 3, 4, 5, 6, 7, 8, 9, 10, 11, 12, 13, 14], [0, 14])])
def impl_peaksPut.B5 : List Nat := [0, 0, 2, 6, 14, 0, 32, 96, 254, 510, 0, 1024, 3296, 8190, 16383, 32767]
theorem impl_peaksPut.tab5 : rtab .any (opsOf Tryz.f21 5) = impl_peaksPut.T5 := by kernel_rfl
theorem impl_peaksPut.bits5 : waitsOk impl_peaksPut.T5.2 impl_peaksPut.B5 = true := by kernel_rfl
theorem impl_peaksPut.calls (k : Nat) (a0 : ByteArray) (A1 : Option Addr) (c1 : Nat) (l1 : List (S93)) (r : ByteArray) (w : World) (hr1 : Kd.C k93 w A1 l1.length l1) (hc1 : l1.length ≤ c1) (h : impl_peaksPut.f k a0 l1 = some r) (PQT_ : Aside0 (Sh.HasT w)) :
  Calls Tryz.prog 21 #[.string a0, .slice A1 l1.length c1] w fun e w' => e = .returned (.string r) ∧ Below w.heap.size w w' := by
 have hu93 := Tryz.underlying93
 have HR1 := Aside0.mk hr1
 have HC1 := Aside0.mk hc1
 clear hr1 hc1
 have HB := Aside0.mk (Below.refl w.heap.size w)
 have H : (impl_peaksPut.l0 k a0 l1 (l1.length : Int) 0) = some r := h
 clear h
 have H' := Aside0.mk H
 clear H
 go_enter Tryz.func21, Tryz.ntmps21
 go_wp2
 go_loopg [5, 11] k (fun kq v5 v11 w' => ∃ (x5_1 : ByteArray) (x11_1 : Int), v5 = .string x5_1 ∧ v11 = .int .i64 x11_1 ∧ Aside0 (impl_peaksPut.l0 kq x5_1 l1 (l1.length : Int) x11_1 = some r) ∧ Aside0 (kq ≤ k) ∧ Aside0 (Below w.heap.size w w'))
 case atStart => exact ⟨(a0), (0), xR, xR, H', ⟨Nat.le_refl _⟩, ⟨bl HB⟩⟩
 case round =>
  clear H'
  try clear c1
  try clear c2
  try clear p2
  obtain ⟨x5_1, x11_1, rfl, rfl, HA, HK1, HB⟩ := hrel
  cases gk with
  | zero => exact absurd HA.out (by simp [impl_peaksPut.l0])
  | succ k1 =>
   have H := HA.out
   clear HA
   simp only [impl_peaksPut.l0] at H
   by_cases c3 : x11_1 < (l1.length : Int)
   rotate_left
   ·rw [if_neg c3] at H
    have c3b0 := decide_eq_false c3
    clear c3
    replace H := ip H
    obtain ⟨c20, H⟩ := H
    have c20b0 := eq_true c20
    have c20b1 := decide_eq_true c20
    have c20b2 := nf c20
    obtain rfl := Option.some.inj H
    go_wp2
    go_ret
    exact ⟨xE, bl HB⟩
   rw [if_pos c3] at H
   have c3b0 := decide_eq_true c3
   clear c3
   replace H := ipd H
   obtain ⟨c4b0, H⟩ := H
   replace H := ipd H
   obtain ⟨c5b0, H⟩ := H
   replace H := ip H
   obtain ⟨c6, H⟩ := H
   have c6b0 := eq_true c6
   have c6b1 := decide_eq_true c6
   have c6b2 := nf c6
   replace H := ip H
   obtain ⟨c7, H⟩ := H
   have c7b0 := eq_true c7
   have c7b1 := decide_eq_true c7
   have c7b2 := nf c7
   try (have c7b3 := c7b2; simp only [ByteArray.size_append, show (⟨#[32]⟩ : ByteArray).size = 1 from rfl] at c7b3)
   replace H := oa H
   obtain ⟨t569, A8, H⟩ := H
   replace H := ip H
   obtain ⟨c9, H⟩ := H
   have c9b0 := eq_true c9
   have c9b1 := decide_eq_true c9
   have c9b2 := nf c9
   try (have c9b3 := c9b2; simp only [ByteArray.size_append, show (⟨#[32]⟩ : ByteArray).size = 1 from rfl, show (⟨#[58]⟩ : ByteArray).size = 1 from rfl] at c9b3)
   replace H := ip H
   obtain ⟨c10, H⟩ := H
   have c10b0 := eq_true c10
   have c10b1 := decide_eq_true c10
   have c10b2 := nf c10
   try (have c10b3 := c10b2; simp only [ByteArray.size_append, show (⟨#[32]⟩ : ByteArray).size = 1 from rfl, show (⟨#[58]⟩ : ByteArray).size = 1 from rfl] at c10b3)
   replace H := oa H
   obtain ⟨t570, A11, H⟩ := H
   replace H := ip H
   obtain ⟨c12, H⟩ := H
   have c12b0 := eq_true c12
   have c12b1 := decide_eq_true c12
   have c12b2 := nf c12
   try (have c12b3 := c12b2; simp only [ByteArray.size_append, show (⟨#[32]⟩ : ByteArray).size = 1 from rfl, show (⟨#[58]⟩ : ByteArray).size = 1 from rfl] at c12b3)
   replace H := ip H
   obtain ⟨c13, H⟩ := H
   have c13b0 := eq_true c13
   have c13b1 := decide_eq_true c13
   have c13b2 := nf c13
   try (have c13b3 := c13b2; simp only [ByteArray.size_append, show (⟨#[32]⟩ : ByteArray).size = 1 from rfl, show (⟨#[58]⟩ : ByteArray).size = 1 from rfl] at c13b3)
   have H' := Aside0.mk H
   clear H
   have p567 : 0 ≤ (x11_1 : Int) := of_decide_eq_true xA
   have q567 : x11_1 < (l1.length : Int) := of_decide_eq_true xA
   obtain ⟨ad567, e567, hx567_0, hx567_1, hx567_2⟩ := at_T93 HR1.out x11_1 p567 q567
   cases e567
   replace hx567_0 := hc HB hx567_0
   replace hx567_1 := hc HB hx567_1
   replace hx567_2 := hc HB hx567_2
   replace p567 := eq_true p567
   replace q567 := eq_true q567
   try go_wp2_with ((with_reducible refine gg ?_); refine bE 7 #[.string (⟨#[]⟩ : ByteArray), .int .i64 0, .int .i64 0] 93 ?_; intro gb568 hg w14 hbox hb; have BK568 := am (hbox); have GW568 := zB hg HB; have GE568 := zB hg HB; replace HB := kH HB hb; clear hb hbox hg; have hz15 := bc3 BK568)
   have n0_ : Aside0 ((((w14.setCell ⟨gb568, 0, none⟩ (.string ((rd_T93 l1 x11_1).f0))).setCell ⟨gb568, 1, none⟩ (.int .i64 ((rd_T93 l1 x11_1).f1))).setCell ⟨gb568, 2, none⟩ (.int .i64 ((rd_T93 l1 x11_1).f2))).heap[gb568]? = some (.cells #[.string ((rd_T93 l1 x11_1).f0), .int .i64 ((rd_T93 l1 x11_1).f1), .int .i64 ((rd_T93 l1 x11_1).f2)] 93 (0, 0))) := ⟨fb BK568⟩
   have n1_ : Aside0 (Below w.heap.size w (((w14.setCell ⟨gb568, 0, none⟩ (.string ((rd_T93 l1 x11_1).f0))).setCell ⟨gb568, 1, none⟩ (.int .i64 ((rd_T93 l1 x11_1).f1))).setCell ⟨gb568, 2, none⟩ (.int .i64 ((rd_T93 l1 x11_1).f2)))) := ⟨xB HB⟩
   (try clear BK568)
   (try clear HB)
   generalize (((w14.setCell ⟨gb568, 0, none⟩ (.string ((rd_T93 l1 x11_1).f0))).setCell ⟨gb568, 1, none⟩ (.int .i64 ((rd_T93 l1 x11_1).f1))).setCell ⟨gb568, 2, none⟩ (.int .i64 ((rd_T93 l1 x11_1).f2))) = w16 at n0_ n1_ ⊢
   have BK568 := n0_
   have HB := n1_
   clear n0_ n1_
   replace BK568 := am (blk_drew BK568.out)
   replace HB := am (below_drew1 HB.out)
   refine start_ (n := 16) (S := cs3 gb568 (.string ((rd_T93 l1 x11_1).f0)) (.int .i64 ((rd_T93 l1 x11_1).f1)) (.int .i64 ((rd_T93 l1 x11_1).f2))) (ds := []) (bm 16 0) (by kernel_rfl) rfl rfl (bz3 BK568) (fun hHeld => ?_); refine with_tabW impl_peaksPut.tab5 impl_peaksPut.bits5 (fun HT_ HW_ => ?_)
   generalize w16.drew = w17 at BK568 HB hHeld ⊢
   refine pA 0 15 (bm 16 1) HT_ ?_
   refine pA 1 16 (bm 16 3) HT_ ?_
   refine pA 5 20 (bm 16 35) HT_ ?_
   refine pA 10 25 (bm 16 1059) HT_ ?_
   refine tA 2 17 (bm 16 1063) HT_ HW_ hHeld ?_
   refine pA 3 18 (bm 16 1071) HT_ ?_
   refine pA 4 19 (bm 16 1087) HT_ ?_
   refine tA 6 21 (bm 16 1151) HT_ HW_ hHeld ?_
   refine tA 11 26 (bm 16 3199) HT_ HW_ hHeld ?_
   refine oA 7 (some 22) (bm 16 3327) HT_ fun K hK => ?_
   refine gA Tryz.func19 #[.int .i64 ((rd_T93 l1 x11_1).f1)] ?_
   with_reducible refine (strconv_Itoa_19.calls ((rd_T93 l1 x11_1).f1) t569 _ A8.out (Aside0.mk (Sh.hasT_of PQT_ (bl HB)))).mono ?_
   rintro e w18 ⟨rfl, hb⟩
   refine ⟨_, rfl, ?_⟩
   replace BK568 := kP _ BK568 hb
   replace HB := kH HB hb
   (try clear hb)
   (try clear hb2)
   (try clear hk)
   (try clear hi)
   refine hK.out _ _ (bz3 BK568) (fun hHeld => ?_)
   clear hK K
   refine nA (some 22) ?_
   refine pA 8 23 (bm 16 3583) HT_ ?_
   refine pA 9 24 (bm 16 4095) HT_ ?_
   refine oA 12 (some 27) (bm 16 8191) HT_ fun K hK => ?_
   refine gA Tryz.func19 #[.int .i64 ((rd_T93 l1 x11_1).f2)] ?_
   with_reducible refine (strconv_Itoa_19.calls ((rd_T93 l1 x11_1).f2) t570 _ A11.out (Aside0.mk (Sh.hasT_of PQT_ (bl HB)))).mono ?_
   rintro e w19 ⟨rfl, hb⟩
   refine ⟨_, rfl, ?_⟩
   replace BK568 := kP _ BK568 hb
   replace HB := kH HB hb
   (try clear hb)
   (try clear hb2)
   (try clear hk)
   (try clear hi)
   refine hK.out _ _ (bz3 BK568) (fun hHeld => ?_)
   clear hK K
   refine nA (some 27) ?_
   refine pA 13 28 (bm 16 16383) HT_ ?_
   refine pA 14 29 (bm 16 32767) HT_ ?_
   refine pA 15 5 (bm 16 65535) HT_ ?_
   refine done_ (done_of HT_.out (by kernel_rfl)) ?_
   try go_wp2
   go_roundg k1
   case measure => have := HK1.out; omega
   case rel => exact ⟨(x5_1 ++ ((((((⟨#[32]⟩ : ByteArray) ++ ((rd_T93 l1 x11_1).f0)) ++ (⟨#[58]⟩ : ByteArray)) ++ t569) ++ (⟨#[58]⟩ : ByteArray)) ++ t570)), (wrap64 (x11_1 + 1)), xR, xR, H', ⟨xL HK1⟩, ⟨xB HB⟩⟩

end Go.Proofs.YtgjljbaadglpnaaGreatDoor.PFnPaidPut
