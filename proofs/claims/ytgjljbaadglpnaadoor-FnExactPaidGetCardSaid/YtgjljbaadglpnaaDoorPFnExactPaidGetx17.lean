/- Functions of the program and what each answers: the kit's print, shortened (wip/press2.py). -/
import Derived.Test.YtgjljbaadglpnaaDoorPFnExactPaidGetx0
import Derived.Test.YtgjljbaadglpnaaDoorPFnExactPaidGetx13
namespace Go.Proofs.YtgjljbaadglpnaaDoor.PFnExactPaidGet
open Go.Proofs.YtgjljbaadglpnaaDoor.Sq Go.RowKit Go.Proofs.YtgjljbaadglpnaaDoorW.PrintWords Go.Proofs.YtgjljbaadglpnaaDoorW.PrintLast Go.Proofs.YtgjljbaadglpnaaDoorW.PrintMore
attribute [local go_sem] max2_int min2_int max_two min_two max_three min_three max_four min_four   -- for this text's walks alone
set_option linter.unusedVariables false
set_option linter.unusedSimpArgs false

/-! ### impl_RangeOk: function 81 -/
def impl_RangeOk.l0 : Nat → List (S93) → Int → List (S93) → Int → Int → Option (Bool)
 | 0, _, _, _, _, _ => none
 | k + 1, x0, x3, x6, x7, x8 => if x8 < x7 then (if 0 ≤ x8 then (if x8 < (x6.length : Int) then ((impl_peakOk.f k ((rd_T93 x6 x8).f0) ((rd_T93 x6 x8).f1) ((rd_T93 x6 x8).f2)).bind fun t286 => (if t286 = true then (if (Go.bits .and .i64 ((rd_T93 x6 x8).f2) (wrap64 (((rd_T93 x6 x8).f2) - 1))) = 0 then (if x8 > 0 then (if 0 ≤ (wrap64 (x8 - 1)) then (if (wrap64 (x8 - 1)) < (x0.length : Int) then (if ((rd_T93 x6 x8).f2) ≥ ((rd_T93 x0 (wrap64 (x8 - 1))).f2) then (some false) else (impl_RangeOk.l0 k x0 (wrap64 (x3 + ((rd_T93 x6 x8).f2))) x6 x7 (wrap64 (x8 + 1)))) else (none)) else (none)) else (impl_RangeOk.l0 k x0 (wrap64 (x3 + ((rd_T93 x6 x8).f2))) x6 x7 (wrap64 (x8 + 1)))) else (some false)) else (some false))) else (none)) else (none)) else (some (decide (x3 ≤ 20)))
def impl_RangeOk.f (k : Nat) (l0 : List (S93)) : Option (Bool) := impl_RangeOk.l0 k l0 0 l0 (l0.length : Int) 0
theorem impl_RangeOk.mono_l : ∀ k, (∀ y0 y1 y2 y3 y4, LeO (impl_RangeOk.l0 k y0 y1 y2 y3 y4) (impl_RangeOk.l0 (k + 1) y0 y1 y2 y3 y4))
 | 0 => fun _ _ _ _ _ r h => by simp [impl_RangeOk.l0] at h
 | k + 1 => by
  have ih0 := impl_RangeOk.mono_l k
  ·intro y0 y1 y2 y3 y4
   unfold impl_RangeOk.l0
   exact mo2 ih0 impl_peakOk.mono
theorem impl_RangeOk.mono : ∀ a0 k, LeO (impl_RangeOk.f k a0) (impl_RangeOk.f (k + 1) a0) := by
 intro a0 k
 have ih0 := impl_RangeOk.mono_l k
 unfold impl_RangeOk.f
 exact mo2 ih0 impl_peakOk.mono
def impl_RangeOk.T5 : Bool × List (List Nat × List Nat) := (true, [([], []), ([0], [0]), ([1], [1]), ([2, 1], [2]), ([3], [3]), ([4, 3], [3, 4]), ([3], [3]), ([6, 3], [3, 6]), ([7, 3], [3, 7]), ([5, 8, 3], [3, 5, 8]), ([9, 3], [3, 9]), ([3, 10], [3, 10]), ([11, 3], [11]), ([12], [12]), ([13, 12], [12, 13]), ([14, 12, 12], [12, 14]), ([15], [15]), ([16, 15], [15, 16]), ([15], [15]), ([15], [15]), ([19, 15], [15, 19]), ([18, 20, 15], [15, 18, 20]), ([21, 15], [15, 21]), ([22, 15], [15, 22]), ([17, 23, 15], [15, 17, 23]), ([15, 24, 12], [12, 15, 24]), ([12, 25], [12, 25])])
def impl_RangeOk.B5 : List Nat := [0, 1, 3, 7, 15, 31, 15, 79, 207, 511, 1023, 2047, 4095, 8191, 16383, 32767, 65535, 131071, 65535, 65535, 589823, 1900543, 3997695, 8191999, 16777215, 33554431, 67108863]
theorem impl_RangeOk.tab5 : rtab .any (opsOf Tryd.f81 5) = impl_RangeOk.T5 := by kernel_rfl
theorem impl_RangeOk.bits5 : waitsOk impl_RangeOk.T5.2 impl_RangeOk.B5 = true := by kernel_rfl
set_option maxHeartbeats 64000000 in
set_option maxRecDepth 100000 in
theorem impl_RangeOk.calls (k : Nat) (A0 : Option Addr) (c0 : Nat) (l0 : List (S93)) (r : Bool) (w : World) (hr0 : Kd.C k93 w A0 l0.length l0) (hc0 : l0.length ≤ c0) (h : impl_RangeOk.f k l0 = some r) :
  Calls Tryd.prog 81 #[.slice A0 l0.length c0] w fun e w' => e = .returned (.bool r) ∧ Below w.heap.size w w' := by
 have hu93 := Tryd.underlying93
 have HR0 := Aside0.mk hr0
 have HC0 := Aside0.mk hc0
 clear hr0 hc0
 have HB := Aside0.mk (Below.refl w.heap.size w)
 have H : (impl_RangeOk.l0 k l0 0 l0 (l0.length : Int) 0) = some r := h
 clear h
 have H' := Aside0.mk H
 clear H
 go_enter Tryd.func81, Tryd.ntmps81
 go_wp2
 go_loopg [3, 8] k (fun kq v3 v8 w' => ∃ (x3_1 : Int) (x8_1 : Int), v3 = .int .i64 x3_1 ∧ v8 = .int .i64 x8_1 ∧ Aside0 (impl_RangeOk.l0 kq l0 x3_1 l0 (l0.length : Int) x8_1 = some r) ∧ Aside0 (kq ≤ k) ∧ Aside0 (Below w.heap.size w w'))
 case atStart => exact ⟨(0), (0), xR, xR, H', ⟨Nat.le_refl _⟩, ⟨bl HB⟩⟩
 case round =>
  clear H'
  obtain ⟨x3_1, x8_1, rfl, rfl, HA, HK1, HB⟩ := hrel
  cases gk with
  | zero => exact absurd HA.out (by simp [impl_RangeOk.l0])
  | succ k1 =>
   have H := HA.out
   clear HA
   simp only [impl_RangeOk.l0] at H
   by_cases c2 : x8_1 < (l0.length : Int)
   rotate_left
   ·rw [if_neg c2] at H
    have c2b0 := decide_eq_false c2
    clear c2
    obtain rfl := Option.some.inj H
    go_wp2
    go_ret
    exact ⟨xE, bl HB⟩
   rw [if_pos c2] at H
   have c2b0 := decide_eq_true c2
   clear c2
   replace H := ipd H
   obtain ⟨c3b0, H⟩ := H
   replace H := ipd H
   obtain ⟨c4b0, H⟩ := H
   replace H := oa H
   obtain ⟨t286, A5, H⟩ := H
   by_cases c6 : t286 = true
   rotate_left
   ·replace c6 := Bool.eq_false_iff.mpr c6
    subst c6
    rw [if_neg (show ¬ (false = true) by decide)] at H
    obtain rfl := Option.some.inj H
    have p284 : 0 ≤ (x8_1 : Int) := of_decide_eq_true xA
    have q284 : x8_1 < (l0.length : Int) := of_decide_eq_true xA
    obtain ⟨ad284, e284, hx284_0, hx284_1, hx284_2⟩ := at_T93 HR0.out x8_1 p284 q284
    cases e284
    replace hx284_0 := hc HB hx284_0
    replace hx284_1 := hc HB hx284_1
    replace hx284_2 := hc HB hx284_2
    replace p284 := eq_true p284
    replace q284 := eq_true q284
    try go_wp2_with ((with_reducible refine gg ?_); refine bE 5 #[.string (⟨#[]⟩ : ByteArray), .int .i64 0, .int .i64 0] 93 ?_; intro gb285 hg w35 hbox hb; have BK285 := am (hbox); have GW285 := zB hg HB; have GE285 := zB hg HB; replace HB := kH HB hb; clear hb hbox hg; have hz36 := bc3 BK285)
    have n0_ : Aside0 ((((w35.setCell ⟨gb285, 0, none⟩ (.string ((rd_T93 l0 x8_1).f0))).setCell ⟨gb285, 1, none⟩ (.int .i64 ((rd_T93 l0 x8_1).f1))).setCell ⟨gb285, 2, none⟩ (.int .i64 ((rd_T93 l0 x8_1).f2))).heap[gb285]? = some (.cells #[.string ((rd_T93 l0 x8_1).f0), .int .i64 ((rd_T93 l0 x8_1).f1), .int .i64 ((rd_T93 l0 x8_1).f2)] 93 (0, 0))) := ⟨fb BK285⟩
    have n1_ : Aside0 (Below w.heap.size w (((w35.setCell ⟨gb285, 0, none⟩ (.string ((rd_T93 l0 x8_1).f0))).setCell ⟨gb285, 1, none⟩ (.int .i64 ((rd_T93 l0 x8_1).f1))).setCell ⟨gb285, 2, none⟩ (.int .i64 ((rd_T93 l0 x8_1).f2)))) := ⟨xB HB⟩
    (try clear BK285)
    (try clear HB)
    generalize (((w35.setCell ⟨gb285, 0, none⟩ (.string ((rd_T93 l0 x8_1).f0))).setCell ⟨gb285, 1, none⟩ (.int .i64 ((rd_T93 l0 x8_1).f1))).setCell ⟨gb285, 2, none⟩ (.int .i64 ((rd_T93 l0 x8_1).f2))) = w37 at n0_ n1_ ⊢
    have BK285 := n0_
    have HB := n1_
    clear n0_ n1_
    replace BK285 := am (blk_drew BK285.out)
    replace HB := am (below_drew1 HB.out)
    refine start_ (n := 27) (S := cs3 gb285 (.string ((rd_T93 l0 x8_1).f0)) (.int .i64 ((rd_T93 l0 x8_1).f1)) (.int .i64 ((rd_T93 l0 x8_1).f2))) (ds := []) (bm 27 0) (by kernel_rfl) rfl rfl (bz3 BK285) (fun hHeld => ?_); refine with_tabW impl_RangeOk.tab5 impl_RangeOk.bits5 (fun HT_ HW_ => ?_)
    generalize w37.drew = w38 at BK285 HB hHeld ⊢
    refine tA 0 13 (bm 27 1) HT_ HW_ hHeld ?_
    refine oA 1 (some 14) (bm 27 3) HT_ fun K hK => ?_
    refine gA Tryd.func82 #[.agg #[.string ((rd_T93 l0 x8_1).f0), .int .i64 ((rd_T93 l0 x8_1).f1), .int .i64 ((rd_T93 l0 x8_1).f2)]] ?_
    with_reducible refine (impl_peakOk.calls k1 ((rd_T93 l0 x8_1).f0) ((rd_T93 l0 x8_1).f1) ((rd_T93 l0 x8_1).f2) false _ A5.out).mono ?_
    rintro e w39 ⟨rfl, hb⟩
    refine ⟨_, rfl, ?_⟩
    replace BK285 := kP _ BK285 hb
    replace HB := kH HB hb
    (try clear hb)
    (try clear hb2)
    (try clear hk)
    (try clear hi)
    refine hK.out _ _ (bz3 BK285) (fun hHeld => ?_)
    clear hK K
    refine nA (some 14) ?_
    refine pA 2 15 (bm 27 7) HT_ ?_
    refine pA 3 16 (bm 27 15) HT_ ?_
    refine pU 4 17 (bm 27 31) HT_ ?_
    refine pU 5 18 (bm 27 63) HT_ ?_
    refine pU 6 19 (bm 27 127) HT_ ?_
    refine pU 7 20 (bm 27 255) HT_ ?_
    refine pU 8 21 (bm 27 511) HT_ ?_
    refine pU 9 22 (bm 27 1023) HT_ ?_
    refine pU 10 23 (bm 27 2047) HT_ ?_
    refine pA 11 24 (bm 27 4095) HT_ ?_
    refine pA 12 25 (bm 27 8191) HT_ ?_
    refine pU 13 26 (bm 27 16383) HT_ ?_
    refine pU 14 27 (bm 27 32767) HT_ ?_
    refine pU 15 28 (bm 27 65535) HT_ ?_
    refine pU 16 29 (bm 27 131071) HT_ ?_
    refine pU 17 30 (bm 27 262143) HT_ ?_
    refine pU 18 31 (bm 27 524287) HT_ ?_
    refine pU 19 32 (bm 27 1048575) HT_ ?_
    refine pU 20 33 (bm 27 2097151) HT_ ?_
    refine pU 21 34 (bm 27 4194303) HT_ ?_
    refine pU 22 35 (bm 27 8388607) HT_ ?_
    refine pU 23 36 (bm 27 16777215) HT_ ?_
    refine pU 24 37 (bm 27 33554431) HT_ ?_
    refine pU 25 38 (bm 27 67108863) HT_ ?_
    refine pA 26 39 (bm 27 134217727) HT_ ?_
    refine done_ (done_of HT_.out (by kernel_rfl)) ?_
    try go_wp2
    go_ret
    exact ⟨xE, xB HB⟩
   subst c6
   rw [if_pos rfl] at H
   by_cases c7 : (Go.bits .and .i64 ((rd_T93 l0 x8_1).f2) (wrap64 (((rd_T93 l0 x8_1).f2) - 1))) = 0
   rotate_left
   ·rw [if_neg c7] at H
    have c7b0 := beq_eq_false_iff_ne.mpr c7
    have c7b1 := bne_iff_ne.mpr c7
    obtain rfl := Option.some.inj H
    have p284 : 0 ≤ (x8_1 : Int) := of_decide_eq_true xA
    have q284 : x8_1 < (l0.length : Int) := of_decide_eq_true xA
    obtain ⟨ad284, e284, hx284_0, hx284_1, hx284_2⟩ := at_T93 HR0.out x8_1 p284 q284
    cases e284
    replace hx284_0 := hc HB hx284_0
    replace hx284_1 := hc HB hx284_1
    replace hx284_2 := hc HB hx284_2
    replace p284 := eq_true p284
    replace q284 := eq_true q284
    try go_wp2_with ((with_reducible refine gg ?_); refine bE 5 #[.string (⟨#[]⟩ : ByteArray), .int .i64 0, .int .i64 0] 93 ?_; intro gb285 hg w30 hbox hb; have BK285 := am (hbox); have GW285 := zB hg HB; have GE285 := zB hg HB; replace HB := kH HB hb; clear hb hbox hg; have hz31 := bc3 BK285)
    have n0_ : Aside0 ((((w30.setCell ⟨gb285, 0, none⟩ (.string ((rd_T93 l0 x8_1).f0))).setCell ⟨gb285, 1, none⟩ (.int .i64 ((rd_T93 l0 x8_1).f1))).setCell ⟨gb285, 2, none⟩ (.int .i64 ((rd_T93 l0 x8_1).f2))).heap[gb285]? = some (.cells #[.string ((rd_T93 l0 x8_1).f0), .int .i64 ((rd_T93 l0 x8_1).f1), .int .i64 ((rd_T93 l0 x8_1).f2)] 93 (0, 0))) := ⟨fb BK285⟩
    have n1_ : Aside0 (Below w.heap.size w (((w30.setCell ⟨gb285, 0, none⟩ (.string ((rd_T93 l0 x8_1).f0))).setCell ⟨gb285, 1, none⟩ (.int .i64 ((rd_T93 l0 x8_1).f1))).setCell ⟨gb285, 2, none⟩ (.int .i64 ((rd_T93 l0 x8_1).f2)))) := ⟨xB HB⟩
    (try clear BK285)
    (try clear HB)
    generalize (((w30.setCell ⟨gb285, 0, none⟩ (.string ((rd_T93 l0 x8_1).f0))).setCell ⟨gb285, 1, none⟩ (.int .i64 ((rd_T93 l0 x8_1).f1))).setCell ⟨gb285, 2, none⟩ (.int .i64 ((rd_T93 l0 x8_1).f2))) = w32 at n0_ n1_ ⊢
    have BK285 := n0_
    have HB := n1_
    clear n0_ n1_
    replace BK285 := am (blk_drew BK285.out)
    replace HB := am (below_drew1 HB.out)
    refine start_ (n := 27) (S := cs3 gb285 (.string ((rd_T93 l0 x8_1).f0)) (.int .i64 ((rd_T93 l0 x8_1).f1)) (.int .i64 ((rd_T93 l0 x8_1).f2))) (ds := []) (bm 27 0) (by kernel_rfl) rfl rfl (bz3 BK285) (fun hHeld => ?_); refine with_tabW impl_RangeOk.tab5 impl_RangeOk.bits5 (fun HT_ HW_ => ?_)
    generalize w32.drew = w33 at BK285 HB hHeld ⊢
    refine tA 0 13 (bm 27 1) HT_ HW_ hHeld ?_
    refine oA 1 (some 14) (bm 27 3) HT_ fun K hK => ?_
    refine gA Tryd.func82 #[.agg #[.string ((rd_T93 l0 x8_1).f0), .int .i64 ((rd_T93 l0 x8_1).f1), .int .i64 ((rd_T93 l0 x8_1).f2)]] ?_
    with_reducible refine (impl_peakOk.calls k1 ((rd_T93 l0 x8_1).f0) ((rd_T93 l0 x8_1).f1) ((rd_T93 l0 x8_1).f2) true _ A5.out).mono ?_
    rintro e w34 ⟨rfl, hb⟩
    refine ⟨_, rfl, ?_⟩
    replace BK285 := kP _ BK285 hb
    replace HB := kH HB hb
    (try clear hb)
    (try clear hb2)
    (try clear hk)
    (try clear hi)
    refine hK.out _ _ (bz3 BK285) (fun hHeld => ?_)
    clear hK K
    refine nA (some 14) ?_
    refine pA 2 15 (bm 27 7) HT_ ?_
    refine pA 3 16 (bm 27 15) HT_ ?_
    refine pA 4 17 (bm 27 31) HT_ ?_
    refine pA 6 19 (bm 27 95) HT_ ?_
    refine tA 5 18 (bm 27 127) HT_ HW_ hHeld ?_
    refine tA 7 20 (bm 27 255) HT_ HW_ hHeld ?_
    refine pA 8 21 (bm 27 511) HT_ ?_
    refine pA 9 22 (bm 27 1023) HT_ ?_
    refine pA 10 23 (bm 27 2047) HT_ ?_
    refine pA 11 24 (bm 27 4095) HT_ ?_
    refine pA 12 25 (bm 27 8191) HT_ ?_
    refine pU 13 26 (bm 27 16383) HT_ ?_
    refine pU 14 27 (bm 27 32767) HT_ ?_
    refine pU 15 28 (bm 27 65535) HT_ ?_
    refine pU 16 29 (bm 27 131071) HT_ ?_
    refine pU 17 30 (bm 27 262143) HT_ ?_
    refine pU 18 31 (bm 27 524287) HT_ ?_
    refine pU 19 32 (bm 27 1048575) HT_ ?_
    refine pU 20 33 (bm 27 2097151) HT_ ?_
    refine pU 21 34 (bm 27 4194303) HT_ ?_
    refine pU 22 35 (bm 27 8388607) HT_ ?_
    refine pU 23 36 (bm 27 16777215) HT_ ?_
    refine pU 24 37 (bm 27 33554431) HT_ ?_
    refine pU 25 38 (bm 27 67108863) HT_ ?_
    refine pA 26 39 (bm 27 134217727) HT_ ?_
    refine done_ (done_of HT_.out (by kernel_rfl)) ?_
    try go_wp2
    go_ret
    exact ⟨xE, xB HB⟩
   rw [if_pos c7] at H
   have c7b0 := beq_iff_eq.mpr c7
   have c7b1 := bne_eq_false_iff_eq.mpr c7
   clear c7
   by_cases c8 : x8_1 > 0
   rotate_left
   ·rw [if_neg c8] at H
    have c8b0 := decide_eq_false c8
    clear c8
    have H' := Aside0.mk H
    clear H
    have p284 : 0 ≤ (x8_1 : Int) := of_decide_eq_true xA
    have q284 : x8_1 < (l0.length : Int) := of_decide_eq_true xA
    obtain ⟨ad284, e284, hx284_0, hx284_1, hx284_2⟩ := at_T93 HR0.out x8_1 p284 q284
    cases e284
    replace hx284_0 := hc HB hx284_0
    replace hx284_1 := hc HB hx284_1
    replace hx284_2 := hc HB hx284_2
    replace p284 := eq_true p284
    replace q284 := eq_true q284
    try go_wp2_with ((with_reducible refine gg ?_); refine bE 5 #[.string (⟨#[]⟩ : ByteArray), .int .i64 0, .int .i64 0] 93 ?_; intro gb285 hg w24 hbox hb; have BK285 := am (hbox); have GW285 := zB hg HB; have GE285 := zB hg HB; replace HB := kH HB hb; clear hb hbox hg; have hz25 := bc3 BK285)
    have n0_ : Aside0 ((((w24.setCell ⟨gb285, 0, none⟩ (.string ((rd_T93 l0 x8_1).f0))).setCell ⟨gb285, 1, none⟩ (.int .i64 ((rd_T93 l0 x8_1).f1))).setCell ⟨gb285, 2, none⟩ (.int .i64 ((rd_T93 l0 x8_1).f2))).heap[gb285]? = some (.cells #[.string ((rd_T93 l0 x8_1).f0), .int .i64 ((rd_T93 l0 x8_1).f1), .int .i64 ((rd_T93 l0 x8_1).f2)] 93 (0, 0))) := ⟨fb BK285⟩
    have n1_ : Aside0 (Below w.heap.size w (((w24.setCell ⟨gb285, 0, none⟩ (.string ((rd_T93 l0 x8_1).f0))).setCell ⟨gb285, 1, none⟩ (.int .i64 ((rd_T93 l0 x8_1).f1))).setCell ⟨gb285, 2, none⟩ (.int .i64 ((rd_T93 l0 x8_1).f2)))) := ⟨xB HB⟩
    (try clear BK285)
    (try clear HB)
    generalize (((w24.setCell ⟨gb285, 0, none⟩ (.string ((rd_T93 l0 x8_1).f0))).setCell ⟨gb285, 1, none⟩ (.int .i64 ((rd_T93 l0 x8_1).f1))).setCell ⟨gb285, 2, none⟩ (.int .i64 ((rd_T93 l0 x8_1).f2))) = w26 at n0_ n1_ ⊢
    have BK285 := n0_
    have HB := n1_
    clear n0_ n1_
    replace BK285 := am (blk_drew BK285.out)
    replace HB := am (below_drew1 HB.out)
    refine start_ (n := 27) (S := cs3 gb285 (.string ((rd_T93 l0 x8_1).f0)) (.int .i64 ((rd_T93 l0 x8_1).f1)) (.int .i64 ((rd_T93 l0 x8_1).f2))) (ds := []) (bm 27 0) (by kernel_rfl) rfl rfl (bz3 BK285) (fun hHeld => ?_); refine with_tabW impl_RangeOk.tab5 impl_RangeOk.bits5 (fun HT_ HW_ => ?_)
    generalize w26.drew = w27 at BK285 HB hHeld ⊢
    refine tA 0 13 (bm 27 1) HT_ HW_ hHeld ?_
    refine oA 1 (some 14) (bm 27 3) HT_ fun K hK => ?_
    refine gA Tryd.func82 #[.agg #[.string ((rd_T93 l0 x8_1).f0), .int .i64 ((rd_T93 l0 x8_1).f1), .int .i64 ((rd_T93 l0 x8_1).f2)]] ?_
    with_reducible refine (impl_peakOk.calls k1 ((rd_T93 l0 x8_1).f0) ((rd_T93 l0 x8_1).f1) ((rd_T93 l0 x8_1).f2) true _ A5.out).mono ?_
    rintro e w28 ⟨rfl, hb⟩
    refine ⟨_, rfl, ?_⟩
    replace BK285 := kP _ BK285 hb
    replace HB := kH HB hb
    (try clear hb)
    (try clear hb2)
    (try clear hk)
    (try clear hi)
    refine hK.out _ _ (bz3 BK285) (fun hHeld => ?_)
    clear hK K
    refine nA (some 14) ?_
    refine pA 2 15 (bm 27 7) HT_ ?_
    refine pA 3 16 (bm 27 15) HT_ ?_
    refine pA 4 17 (bm 27 31) HT_ ?_
    refine pA 6 19 (bm 27 95) HT_ ?_
    refine tA 5 18 (bm 27 127) HT_ HW_ hHeld ?_
    refine tA 7 20 (bm 27 255) HT_ HW_ hHeld ?_
    refine pA 8 21 (bm 27 511) HT_ ?_
    refine pA 9 22 (bm 27 1023) HT_ ?_
    refine pA 10 23 (bm 27 2047) HT_ ?_
    refine pA 11 24 (bm 27 4095) HT_ ?_
    refine pA 12 25 (bm 27 8191) HT_ ?_
    refine pA 13 26 (bm 27 16383) HT_ ?_
    refine pA 14 27 (bm 27 32767) HT_ ?_
    refine pA 15 28 (bm 27 65535) HT_ ?_
    refine pU 16 29 (bm 27 131071) HT_ ?_
    refine pU 17 30 (bm 27 262143) HT_ ?_
    refine pU 18 31 (bm 27 524287) HT_ ?_
    refine pU 19 32 (bm 27 1048575) HT_ ?_
    refine pU 20 33 (bm 27 2097151) HT_ ?_
    refine pU 21 34 (bm 27 4194303) HT_ ?_
    refine pU 22 35 (bm 27 8388607) HT_ ?_
    refine pU 23 36 (bm 27 16777215) HT_ ?_
    refine pU 24 37 (bm 27 33554431) HT_ ?_
    refine pA 25 38 (bm 27 67108863) HT_ ?_
    refine pA 26 39 (bm 27 134217727) HT_ ?_
    refine done_ (done_of HT_.out (by kernel_rfl)) ?_
    have hz29 := bc3 BK285
    try go_wp2
    go_roundg k1
    case measure => have := HK1.out; omega
    case rel => exact ⟨(wrap64 (x3_1 + ((rd_T93 l0 x8_1).f2))), (wrap64 (x8_1 + 1)), xR, xR, H', ⟨xL HK1⟩, ⟨xB HB⟩⟩
   rw [if_pos c8] at H
   have c8b0 := decide_eq_true c8
   clear c8
   obtain ⟨ji9, hji9⟩ := je (wrap64 (x8_1 - 1))
   first | rw [hji9] at H | simp only [hji9] at H
   (try rw [hji9] at A5)
   have hji9w : (IntKind.i64.wrap (x8_1 - 1)) = ji9 := (i64_w _).trans hji9
   replace H := ipd H
   obtain ⟨c10b0, H⟩ := H
   replace H := ipd H
   obtain ⟨c11b0, H⟩ := H
   have p284 : 0 ≤ (x8_1 : Int) := of_decide_eq_true xA
   have q284 : x8_1 < (l0.length : Int) := of_decide_eq_true xA
   obtain ⟨ad284, e284, hx284_0, hx284_1, hx284_2⟩ := at_T93 HR0.out x8_1 p284 q284
   cases e284
   replace hx284_0 := hc HB hx284_0
   replace hx284_1 := hc HB hx284_1
   replace hx284_2 := hc HB hx284_2
   replace p284 := eq_true p284
   replace q284 := eq_true q284
   try go_wp2_with ((with_reducible refine gg ?_); refine bE 5 #[.string (⟨#[]⟩ : ByteArray), .int .i64 0, .int .i64 0] 93 ?_; intro gb285 hg w13 hbox hb; have BK285 := am (hbox); have GW285 := zB hg HB; have GE285 := zB hg HB; replace HB := kH HB hb; clear hb hbox hg; have hz14 := bc3 BK285)
   have n0_ : Aside0 ((((w13.setCell ⟨gb285, 0, none⟩ (.string ((rd_T93 l0 x8_1).f0))).setCell ⟨gb285, 1, none⟩ (.int .i64 ((rd_T93 l0 x8_1).f1))).setCell ⟨gb285, 2, none⟩ (.int .i64 ((rd_T93 l0 x8_1).f2))).heap[gb285]? = some (.cells #[.string ((rd_T93 l0 x8_1).f0), .int .i64 ((rd_T93 l0 x8_1).f1), .int .i64 ((rd_T93 l0 x8_1).f2)] 93 (0, 0))) := ⟨fb BK285⟩
   have n1_ : Aside0 (Below w.heap.size w (((w13.setCell ⟨gb285, 0, none⟩ (.string ((rd_T93 l0 x8_1).f0))).setCell ⟨gb285, 1, none⟩ (.int .i64 ((rd_T93 l0 x8_1).f1))).setCell ⟨gb285, 2, none⟩ (.int .i64 ((rd_T93 l0 x8_1).f2)))) := ⟨xB HB⟩
   (try clear BK285)
   (try clear HB)
   generalize (((w13.setCell ⟨gb285, 0, none⟩ (.string ((rd_T93 l0 x8_1).f0))).setCell ⟨gb285, 1, none⟩ (.int .i64 ((rd_T93 l0 x8_1).f1))).setCell ⟨gb285, 2, none⟩ (.int .i64 ((rd_T93 l0 x8_1).f2))) = w15 at n0_ n1_ ⊢
   have BK285 := n0_
   have HB := n1_
   clear n0_ n1_
   replace BK285 := am (blk_drew BK285.out)
   replace HB := am (below_drew1 HB.out)
   have p287 : 0 ≤ ((ji9) : Int) := of_decide_eq_true xA
   have q287 : (ji9) < (l0.length : Int) := of_decide_eq_true xA
   obtain ⟨ad287, e287, hx287_0, hx287_1, hx287_2⟩ := at_T93 HR0.out (ji9) p287 q287
   have hw287_2 := hx287_2
   have hw287_1 := hx287_1
   have hw287_0 := hx287_0
   obtain rfl : ad284 = ad287 := (by injection e287)
   replace hx287_0 := hc HB hx287_0
   replace hx287_1 := hc HB hx287_1
   replace hx287_2 := hc HB hx287_2
   replace p287 := eq_true p287
   replace q287 := eq_true q287
   refine start_ (n := 27) (S := fun w' => w'.cell? ⟨gb285, 0, none⟩ = some (.string ((rd_T93 l0 x8_1).f0)) ∧ w'.cell? ⟨gb285, 1, none⟩ = some (.int .i64 ((rd_T93 l0 x8_1).f1)) ∧ w'.cell? ⟨gb285, 2, none⟩ = some (.int .i64 ((rd_T93 l0 x8_1).f2)) ∧ w'.cell? (ad284.add (((ji9)).toNat * 3)) = some (.string ((rd_T93 l0 (ji9)).f0)) ∧ w'.cell? ⟨(ad284.add (((ji9)).toNat * 3)).block, (ad284.add (((ji9)).toNat * 3)).off + 1, none⟩ = some (.int .i64 ((rd_T93 l0 (ji9)).f1)) ∧ w'.cell? ⟨(ad284.add (((ji9)).toNat * 3)).block, (ad284.add (((ji9)).toNat * 3)).off + 2, none⟩ = some (.int .i64 ((rd_T93 l0 (ji9)).f2))) (ds := []) (bm 27 0) (by kernel_rfl) rfl rfl ⟨(blk_cell BK285.out 0).trans rfl, (blk_cell BK285.out 1).trans rfl, (blk_cell BK285.out 2).trans rfl, (hd HB hw287_0), (hd HB hw287_1), (hd HB hw287_2)⟩ (fun hHeld => ?_); refine with_tabW impl_RangeOk.tab5 impl_RangeOk.bits5 (fun HT_ HW_ => ?_)
   generalize w15.drew = w16 at BK285 HB hx287_0 hx287_1 hx287_2 hHeld ⊢
   refine tA 0 13 (bm 27 1) HT_ HW_ hHeld ?_
   refine oA 1 (some 14) (bm 27 3) HT_ fun K hK => ?_
   refine gA Tryd.func82 #[.agg #[.string ((rd_T93 l0 x8_1).f0), .int .i64 ((rd_T93 l0 x8_1).f1), .int .i64 ((rd_T93 l0 x8_1).f2)]] ?_
   with_reducible refine (impl_peakOk.calls k1 ((rd_T93 l0 x8_1).f0) ((rd_T93 l0 x8_1).f1) ((rd_T93 l0 x8_1).f2) true _ A5.out).mono ?_
   rintro e w17 ⟨rfl, hb⟩
   refine ⟨_, rfl, ?_⟩
   replace BK285 := kP _ BK285 hb
   replace HB := kH HB hb
   (try clear hb)
   (try clear hb2)
   (try clear hk)
   (try clear hi)
   refine hK.out _ _ ⟨(blk_cell BK285.out 0).trans rfl, (blk_cell BK285.out 1).trans rfl, (blk_cell BK285.out 2).trans rfl, (hd HB hw287_0), (hd HB hw287_1), (hd HB hw287_2)⟩ (fun hHeld => ?_)
   clear hK K
   refine nA (some 14) ?_
   refine pA 2 15 (bm 27 7) HT_ ?_
   refine pA 3 16 (bm 27 15) HT_ ?_
   refine pA 4 17 (bm 27 31) HT_ ?_
   refine pA 6 19 (bm 27 95) HT_ ?_
   refine tA 5 18 (bm 27 127) HT_ HW_ hHeld ?_
   refine tA 7 20 (bm 27 255) HT_ HW_ hHeld ?_
   refine pA 8 21 (bm 27 511) HT_ ?_
   refine pA 9 22 (bm 27 1023) HT_ ?_
   refine pA 10 23 (bm 27 2047) HT_ ?_
   refine pA 11 24 (bm 27 4095) HT_ ?_
   refine pA 12 25 (bm 27 8191) HT_ ?_
   refine pA 13 26 (bm 27 16383) HT_ ?_
   refine pA 14 27 (bm 27 32767) HT_ ?_
   refine pA 15 28 (bm 27 65535) HT_ ?_
   refine pA 16 29 (bm 27 131071) HT_ ?_
   refine pA 18 31 (bm 27 393215) HT_ ?_
   refine pA 19 32 (bm 27 917503) HT_ ?_
   refine pA 20 33 (bm 27 1966079) HT_ ?_
   refine pA 21 34 (bm 27 4063231) HT_ ?_
   refine pA 22 35 (bm 27 8257535) HT_ ?_
   refine tA 17 30 (bm 27 8388607) HT_ HW_ hHeld ?_
   refine tA 23 36 (bm 27 16777215) HT_ HW_ hHeld ?_
   refine pA 24 37 (bm 27 33554431) HT_ ?_
   refine pA 25 38 (bm 27 67108863) HT_ ?_
   refine pA 26 39 (bm 27 134217727) HT_ ?_
   refine done_ (done_of HT_.out (by kernel_rfl)) ?_
   by_cases c12 : ((rd_T93 l0 x8_1).f2) ≥ ((rd_T93 l0 (ji9)).f2)
   ·rw [if_pos c12] at H
    have c12b0 := decide_eq_true c12
    try simp only [c12b0]
    clear c12
    obtain rfl := Option.some.inj H
    try go_wp2
    go_ret
    exact ⟨by first | rfl | (simp [errW_none, errW_some] <;> rfl) | (simp only [← hji9]; first | rfl | (simp [errW_none, errW_some] <;> rfl)) | (simp [*, errW_none, errW_some] <;> rfl), xB HB⟩
   rw [if_neg c12] at H
   have c12b0 := decide_eq_false c12
   try simp only [c12b0]
   clear c12
   have H' := Aside0.mk H
   clear H
   have hz23 := bc3 BK285
   try go_wp2
   go_roundg k1
   case measure => have := HK1.out; omega
   case rel => exact ⟨(wrap64 (x3_1 + ((rd_T93 l0 x8_1).f2))), (wrap64 (x8_1 + 1)), xR, xR, H', ⟨xL HK1⟩, ⟨xB HB⟩⟩


/-! ### impl_paidOk: function 51 -/
mutual
def impl_paidOk.j0 : Nat → Bool → Int → ByteArray → ByteArray → Int → Int → Int → List (S93) → List (S93) → List (S85) → Option (Bool)
 | 0, _, _, _, _, _, _, _, _, _, _ => none
 | k + 1, x36, x289000, x289001, x289002, x289003, x289004, x289005, x289006, x289007, x289008 => if x36 = true then (some false) else (impl_paidOk.l0 k x289007 (x289007.length : Int) 0 x289000 x289001 x289002 x289003 x289004 x289005 x289006 x289007 x289008)
def impl_paidOk.l0 : Nat → List (S93) → Int → Int → Int → ByteArray → ByteArray → Int → Int → Int → List (S93) → List (S93) → List (S85) → Option (Bool)
 | 0, _, _, _, _, _, _, _, _, _, _, _, _ => none
 | k + 1, x39, x40, x41, x289000, x289001, x289002, x289003, x289004, x289005, x289006, x289007, x289008 => if x41 < x40 then (if 0 ≤ x41 then (if x41 < (x39.length : Int) then ((impl_peakOk.f k ((rd_T93 x39 x41).f0) ((rd_T93 x39 x41).f1) ((rd_T93 x39 x41).f2)).bind fun t294 => (if t294 = true then (impl_paidOk.l0 k x39 x40 (wrap64 (x41 + 1)) x289000 x289001 x289002 x289003 x289004 x289005 x289006 x289007 x289008) else (some false))) else (none)) else (none)) else (impl_paidOk.l1 k x289008 (x289008.length : Int) 0)
def impl_paidOk.l1 : Nat → List (S85) → Int → Int → Option (Bool)
 | 0, _, _, _ => none
 | k + 1, x50, x51, x52 => if x52 < x51 then (if 0 ≤ x52 then (if x52 < (x50.length : Int) then ((impl_isSum.f k ((rd_T85 x50 x52).f0)).bind fun t297 => (if t297 = true then (impl_paidOk.l1 k x50 x51 (wrap64 (x52 + 1))) else (some false))) else (none)) else (none)) else (some true)
end
def impl_paidOk.f (k : Nat) (a0_0 : Int) (a0_1 : ByteArray) (a0_2 : ByteArray) (a0_3 : Int) (a0_4 : Int) (a0_5 : Int) (l0_6 : List (S93)) (l0_7 : List (S93)) (l0_8 : List (S85)) : Option (Bool) := (impl_in.f a0_0 0 19).bind fun t289 => (if t289 = true then ((impl_headOk.f k a0_1 a0_2 a0_3 a0_4 a0_5).bind fun t290 => (if t290 = true then ((impl_RangeOk.f k l0_6).bind fun t291 => (if t291 = true then (if (l0_7.length : Int) > 8 then (impl_paidOk.j0 k true a0_0 a0_1 a0_2 a0_3 a0_4 a0_5 l0_6 l0_7 l0_8) else (impl_paidOk.j0 k (decide ((l0_8.length : Int) > 8)) a0_0 a0_1 a0_2 a0_3 a0_4 a0_5 l0_6 l0_7 l0_8)) else (impl_paidOk.j0 k true a0_0 a0_1 a0_2 a0_3 a0_4 a0_5 l0_6 l0_7 l0_8))) else (impl_paidOk.j0 k true a0_0 a0_1 a0_2 a0_3 a0_4 a0_5 l0_6 l0_7 l0_8))) else (impl_paidOk.j0 k true a0_0 a0_1 a0_2 a0_3 a0_4 a0_5 l0_6 l0_7 l0_8))
theorem impl_paidOk.mono_l : ∀ k, (∀ y0 y1 y2 y3 y4 y5 y6 y7 y8 y9, LeO (impl_paidOk.j0 k y0 y1 y2 y3 y4 y5 y6 y7 y8 y9) (impl_paidOk.j0 (k + 1) y0 y1 y2 y3 y4 y5 y6 y7 y8 y9)) ∧ (∀ y0 y1 y2 y3 y4 y5 y6 y7 y8 y9 y10 y11, LeO (impl_paidOk.l0 k y0 y1 y2 y3 y4 y5 y6 y7 y8 y9 y10 y11) (impl_paidOk.l0 (k + 1) y0 y1 y2 y3 y4 y5 y6 y7 y8 y9 y10 y11)) ∧ (∀ y0 y1 y2, LeO (impl_paidOk.l1 k y0 y1 y2) (impl_paidOk.l1 (k + 1) y0 y1 y2))
 | 0 => ⟨fun _ _ _ _ _ _ _ _ _ _ r h => by simp [impl_paidOk.j0] at h, fun _ _ _ _ _ _ _ _ _ _ _ _ r h => by simp [impl_paidOk.l0] at h, fun _ _ _ r h => by simp [impl_paidOk.l1] at h⟩
 | k + 1 => by
  obtain ⟨ih0, ih1, ih2⟩ := impl_paidOk.mono_l k
  refine ⟨?_, ?_, ?_⟩
  ·intro y0 y1 y2 y3 y4 y5 y6 y7 y8 y9
   unfold impl_paidOk.j0
   exact mo7 ih0 ih1 ih2 impl_RangeOk.mono impl_headOk.mono impl_isSum.mono impl_peakOk.mono
  ·intro y0 y1 y2 y3 y4 y5 y6 y7 y8 y9 y10 y11
   unfold impl_paidOk.l0
   exact mo7 ih0 ih1 ih2 impl_RangeOk.mono impl_headOk.mono impl_isSum.mono impl_peakOk.mono
  ·intro y0 y1 y2
   unfold impl_paidOk.l1
   exact mo7 ih0 ih1 ih2 impl_RangeOk.mono impl_headOk.mono impl_isSum.mono impl_peakOk.mono
theorem impl_paidOk.mono : ∀ a0 a1 a2 a3 a4 a5 a6 a7 a8 k, LeO (impl_paidOk.f k a0 a1 a2 a3 a4 a5 a6 a7 a8) (impl_paidOk.f (k + 1) a0 a1 a2 a3 a4 a5 a6 a7 a8) := by
 intro a0 a1 a2 a3 a4 a5 a6 a7 a8 k
 obtain ⟨ih0, ih1, ih2⟩ := impl_paidOk.mono_l k
 unfold impl_paidOk.f
 exact mo7 ih0 ih1 ih2 impl_RangeOk.mono impl_headOk.mono impl_isSum.mono impl_peakOk.mono
set_option maxHeartbeats 64000000 in
set_option maxRecDepth 100000 in
theorem impl_paidOk.calls (k : Nat) (a0_0 : Int) (a0_1 : ByteArray) (a0_2 : ByteArray) (a0_3 : Int) (a0_4 : Int) (a0_5 : Int) (A0_6 : Option Addr) (c0_6 : Nat) (l0_6 : List (S93)) (A0_7 : Option Addr) (c0_7 : Nat) (l0_7 : List (S93)) (A0_8 : Option Addr) (c0_8 : Nat) (l0_8 : List (S85)) (r : Bool) (w : World) (hr0_6 : Kd.C k93 w A0_6 l0_6.length l0_6) (hc0_6 : l0_6.length ≤ c0_6) (hr0_7 : Kd.C k93 w A0_7 l0_7.length l0_7) (hc0_7 : l0_7.length ≤ c0_7) (hr0_8 : Kd.C k85 w A0_8 l0_8.length l0_8) (hc0_8 : l0_8.length ≤ c0_8) (h : impl_paidOk.f k a0_0 a0_1 a0_2 a0_3 a0_4 a0_5 l0_6 l0_7 l0_8 = some r) :
  Calls Tryd.prog 51 #[.agg #[.int .i64 a0_0, .string a0_1, .string a0_2, .int .i64 a0_3, .int .i64 a0_4, .int .i64 a0_5, .slice A0_6 l0_6.length c0_6, .slice A0_7 l0_7.length c0_7, .slice A0_8 l0_8.length c0_8]] w fun e w' => e = .returned (.bool r) ∧ Below w.heap.size w w' := by
 have hu29 := Tryd.underlying29
 have hu23 := Tryd.underlying23
 have hu93 := Tryd.underlying93
 have hu85 := Tryd.underlying85
 have HR0_6 := Aside0.mk hr0_6
 have HC0_6 := Aside0.mk hc0_6
 clear hr0_6 hc0_6
 have HR0_7 := Aside0.mk hr0_7
 have HC0_7 := Aside0.mk hc0_7
 clear hr0_7 hc0_7
 have HR0_8 := Aside0.mk hr0_8
 have HC0_8 := Aside0.mk hc0_8
 clear hr0_8 hc0_8
 have HB := Aside0.mk (Below.refl w.heap.size w)
 have H : ((impl_in.f a0_0 0 19).bind fun t289 => (if t289 = true then ((impl_headOk.f k a0_1 a0_2 a0_3 a0_4 a0_5).bind fun t290 => (if t290 = true then ((impl_RangeOk.f k l0_6).bind fun t291 => (if t291 = true then (if (l0_7.length : Int) > 8 then (impl_paidOk.j0 k true a0_0 a0_1 a0_2 a0_3 a0_4 a0_5 l0_6 l0_7 l0_8) else (impl_paidOk.j0 k (decide ((l0_8.length : Int) > 8)) a0_0 a0_1 a0_2 a0_3 a0_4 a0_5 l0_6 l0_7 l0_8)) else (impl_paidOk.j0 k true a0_0 a0_1 a0_2 a0_3 a0_4 a0_5 l0_6 l0_7 l0_8))) else (impl_paidOk.j0 k true a0_0 a0_1 a0_2 a0_3 a0_4 a0_5 l0_6 l0_7 l0_8))) else (impl_paidOk.j0 k true a0_0 a0_1 a0_2 a0_3 a0_4 a0_5 l0_6 l0_7 l0_8))) = some r := h
 clear h
 have HC2 := Aside0.mk H
 clear H
 go_enter Tryd.func51, Tryd.ntmps51
 go_upto_region 1 with ((with_reducible refine gate_dst (N := 1) rfl ?_); (try (refine gate_guard (by rfl) ?_; dsimp only)); refine box_event ?hg (N := 1) ?hd (cs := #[.int .i64 a0_0, .string a0_1, .string a0_2, .int .i64 a0_3, .int .i64 a0_4, .int .i64 a0_5, .slice A0_6 l0_6.length c0_6, .slice A0_7 l0_7.length c0_7, .slice A0_8 l0_8.length c0_8]) (t := 29) ?hr ?_; (case hd => rfl); (case hg => rfl); (case hr => first | (go_simp; done) | (go_simp; rfl)); intro gb288 hg w3 hbox hb; have BK288 := am (hbox); have GW288 := zB hg HB; have GE288 := zB hg HB; replace HB := kH HB hb; clear hb hbox hg)
 (try simp only [Act.put, sa, s0, s1])
 go_cut [36] (fun v36 wc => ∃ (kq : Nat) (x36_1 : Bool), v36 = .bool x36_1 ∧ Aside0 (impl_paidOk.j0 kq x36_1 a0_0 a0_1 a0_2 a0_3 a0_4 a0_5 l0_6 l0_7 l0_8 = some r) ∧ Aside0 (kq ≤ k) ∧ Aside0 (wc.heap[gb288]? = some (.cells #[.int .i64 a0_0, .string a0_1, .string a0_2, .int .i64 a0_3, .int .i64 a0_4, .int .i64 a0_5, (.slice A0_6 l0_6.length c0_6), (.slice A0_7 l0_7.length c0_7), (.slice A0_8 l0_8.length c0_8)] 29 (0, 0))) ∧ Aside0 (Below w.heap.size w wc))
 case first =>
  have H := HC2.out
  clear HC2
  replace H := oa H
  obtain ⟨t289, A4, H⟩ := H
  by_cases c5 : t289 = true
  rotate_left
  ·replace c5 := Bool.eq_false_iff.mpr c5
   subst c5
   rw [if_neg (show ¬ (false = true) by decide)] at H
   have H' := Aside0.mk H
   clear H
   have hz27 := bc9 BK288
   go_wp2_with ((with_reducible refine gg ?_); refine gL 9 Tryd.func67 #[.int .i64 a0_0, .int .i64 0, .int .i64 19] ?_; (with_reducible refine (impl_in.calls a0_0 0 19 false _ A4.out).mono ?_); rintro e w' ⟨rfl, ⟨nd, rfl⟩⟩; refine ⟨_, rfl, ?_⟩)
   go_meet
   case rel => exact ⟨_, (true), xR, H', ⟨xO⟩, ⟨kb BK288⟩, ⟨xB HB⟩⟩
  subst c5
  rw [if_pos rfl] at H
  replace H := oa H
  obtain ⟨t290, A6, H⟩ := H
  by_cases c7 : t290 = true
  rotate_left
  ·replace c7 := Bool.eq_false_iff.mpr c7
   subst c7
   rw [if_neg (show ¬ (false = true) by decide)] at H
   have H' := Aside0.mk H
   clear H
   have hz25 := bc9 BK288
   go_wp2_with (first | ((with_reducible refine gg ?_); refine gL 9 Tryd.func67 #[.int .i64 a0_0, .int .i64 0, .int .i64 19] ?_; (with_reducible refine (impl_in.calls a0_0 0 19 true _ A4.out).mono ?_); rintro e w' ⟨rfl, ⟨nd, rfl⟩⟩; refine ⟨_, rfl, ?_⟩) | (go_at_call 45; (with_reducible refine (impl_headOk.calls k a0_1 a0_2 a0_3 a0_4 a0_5 false _ A6.out).mono ?_); rintro e w26 ⟨rfl, hb⟩; replace BK288 := kP _ BK288 hb; replace HB := kH HB hb; (try clear hb)))
   go_meet
   case rel => exact ⟨_, (true), xR, H', ⟨xO⟩, ⟨kb BK288⟩, ⟨xB HB⟩⟩
  subst c7
  rw [if_pos rfl] at H
  replace H := oa H
  obtain ⟨t291, A8, H⟩ := H
  by_cases c9 : t291 = true
  rotate_left
  ·replace c9 := Bool.eq_false_iff.mpr c9
   subst c9
   rw [if_neg (show ¬ (false = true) by decide)] at H
   have H' := Aside0.mk H
   clear H
   have hz21 := bc9 BK288
   go_wp2_with (first | ((with_reducible refine gg ?_); refine gL 9 Tryd.func67 #[.int .i64 a0_0, .int .i64 0, .int .i64 19] ?_; (with_reducible refine (impl_in.calls a0_0 0 19 true _ A4.out).mono ?_); rintro e w' ⟨rfl, ⟨nd, rfl⟩⟩; refine ⟨_, rfl, ?_⟩) | (go_at_call 45; (with_reducible refine (impl_headOk.calls k a0_1 a0_2 a0_3 a0_4 a0_5 true _ A6.out).mono ?_); rintro e w22 ⟨rfl, hb⟩; replace BK288 := kP _ BK288 hb; replace HB := kH HB hb; (try clear hb); have hz23 := bc9 BK288) | (go_at_call 81; (with_reducible refine (impl_RangeOk.calls k _ _ l0_6 false _ ?side1 ?side2 A8.out).mono ?_); (case side1 => exact cb HR0_6 HB); (case side2 => exact HC0_6.out); rintro e w24 ⟨rfl, hb⟩; replace BK288 := kP _ BK288 hb; replace HB := kH HB hb; (try clear hb)))
   go_meet
   case rel => exact ⟨_, (true), xR, H', ⟨xO⟩, ⟨kb BK288⟩, ⟨xB HB⟩⟩
  subst c9
  rw [if_pos rfl] at H
  by_cases c10 : (l0_7.length : Int) > 8
  ·rw [if_pos c10] at H
   have c10b0 := decide_eq_true c10
   have c10b1 : decide (8 < l0_7.length) = true := decide_eq_true (by omega)
   clear c10
   (first | rw [c10b0] | (simp only [i64_w, i32_w]; rw [c10b0]) | skip)
   have H' := Aside0.mk H
   clear H
   have hz11 := bc9 BK288
   go_wp2_with (first | ((with_reducible refine gg ?_); refine gL 9 Tryd.func67 #[.int .i64 a0_0, .int .i64 0, .int .i64 19] ?_; (with_reducible refine (impl_in.calls a0_0 0 19 true _ A4.out).mono ?_); rintro e w' ⟨rfl, ⟨nd, rfl⟩⟩; refine ⟨_, rfl, ?_⟩) | (go_at_call 45; (with_reducible refine (impl_headOk.calls k a0_1 a0_2 a0_3 a0_4 a0_5 true _ A6.out).mono ?_); rintro e w12 ⟨rfl, hb⟩; replace BK288 := kP _ BK288 hb; replace HB := kH HB hb; (try clear hb); have hz13 := bc9 BK288) | (go_at_call 81; (with_reducible refine (impl_RangeOk.calls k _ _ l0_6 true _ ?side1 ?side2 A8.out).mono ?_); (case side1 => exact cb HR0_6 HB); (case side2 => exact HC0_6.out); rintro e w14 ⟨rfl, hb⟩; replace BK288 := kP _ BK288 hb; replace HB := kH HB hb; (try clear hb); have hz15 := bc9 BK288))
   go_meet
   case rel => exact ⟨_, (true), xR, H', ⟨xO⟩, ⟨kb BK288⟩, ⟨xB HB⟩⟩
  rw [if_neg c10] at H
  have c10b0 := decide_eq_false c10
  have c10b1 : decide (8 < l0_7.length) = false := decide_eq_false (by omega)
  clear c10
  (first | rw [c10b0] | (simp only [i64_w, i32_w]; rw [c10b0]) | skip)
  have H' := Aside0.mk H
  clear H
  have hz16 := bc9 BK288
  go_wp2_with (first | ((with_reducible refine gg ?_); refine gL 9 Tryd.func67 #[.int .i64 a0_0, .int .i64 0, .int .i64 19] ?_; (with_reducible refine (impl_in.calls a0_0 0 19 true _ A4.out).mono ?_); rintro e w' ⟨rfl, ⟨nd, rfl⟩⟩; refine ⟨_, rfl, ?_⟩) | (go_at_call 45; (with_reducible refine (impl_headOk.calls k a0_1 a0_2 a0_3 a0_4 a0_5 true _ A6.out).mono ?_); rintro e w17 ⟨rfl, hb⟩; replace BK288 := kP _ BK288 hb; replace HB := kH HB hb; (try clear hb); have hz18 := bc9 BK288) | (go_at_call 81; (with_reducible refine (impl_RangeOk.calls k _ _ l0_6 true _ ?side1 ?side2 A8.out).mono ?_); (case side1 => exact cb HR0_6 HB); (case side2 => exact HC0_6.out); rintro e w19 ⟨rfl, hb⟩; replace BK288 := kP _ BK288 hb; replace HB := kH HB hb; (try clear hb); have hz20 := bc9 BK288))
  go_meet
  case rel => exact ⟨_, (decide ((l0_8.length : Int) > 8)), xR, H', ⟨xO⟩, ⟨kb BK288⟩, ⟨xB HB⟩⟩
 case rest =>
  clear HC2
  try clear c1
  try clear p2
  try clear c5
  try clear c6
  try clear c7
  try clear c9
  try clear c10
  try clear c10b0
  try clear c10b1
  try clear hz11
  try clear hz13
  try clear hz15
  try clear hz16
  try clear hz18
  try clear hz20
  try clear hz21
  try clear hz23
  try clear hz25
  try clear hz27
  obtain ⟨kq, x36_1, rfl, HA, HJ1, BK288, HB⟩ := hcut
  cases kq with
  | zero => exact absurd HA.out (by simp [impl_paidOk.j0])
  | succ kj1 =>
   have H := HA.out
   clear HA
   simp only [impl_paidOk.j0] at H
   by_cases c28 : x36_1 = true
   ·subst c28
    rw [if_pos rfl] at H
    obtain rfl := Option.some.inj H
    go_wp2
    go_ret
    exact ⟨xE, xB HB⟩
   replace c28 := Bool.eq_false_iff.mpr c28
   subst c28
   rw [if_neg (show ¬ (false = true) by decide)] at H
   have H' := Aside0.mk H
   clear H
   have hz29 := bc9 BK288
   go_wp2
   go_loopg [41] kj1 (fun kq v41 w' => ∃ (x41_2 : Int), v41 = .int .i64 x41_2 ∧ Aside0 (impl_paidOk.l0 kq l0_7 (l0_7.length : Int) x41_2 a0_0 a0_1 a0_2 a0_3 a0_4 a0_5 l0_6 l0_7 l0_8 = some r) ∧ Aside0 (kq ≤ kj1) ∧ Aside0 (w'.heap[gb288]? = some (.cells #[.int .i64 a0_0, .string a0_1, .string a0_2, .int .i64 a0_3, .int .i64 a0_4, .int .i64 a0_5, (.slice A0_6 l0_6.length c0_6), (.slice A0_7 l0_7.length c0_7), (.slice A0_8 l0_8.length c0_8)] 29 (0, 0))) ∧ Aside0 (Below w.heap.size w w'))
   case atStart => exact ⟨(0), xR, H', ⟨Nat.le_refl _⟩, ⟨kb BK288⟩, ⟨xB HB⟩⟩
   case round =>
    clear H'
    try clear c1
    try clear c2
    try clear p2
    try clear c5
    try clear c6
    try clear c7
    try clear c9
    try clear c10
    try clear c10b0
    try clear c10b1
    try clear c28
    try clear hz11
    try clear hz13
    try clear hz15
    try clear hz16
    try clear hz18
    try clear hz20
    try clear hz21
    try clear hz23
    try clear hz25
    try clear hz27
    try clear hz29
    try clear p2
    obtain ⟨x41_2, rfl, HA, HK2, BK288, HB⟩ := hrel
    cases gk with
    | zero => exact absurd HA.out (by simp [impl_paidOk.l0])
    | succ k2 =>
     have H := HA.out
     clear HA
     simp only [impl_paidOk.l0] at H
     by_cases c30 : x41_2 < (l0_7.length : Int)
     ·rw [if_pos c30] at H
      have c30b0 := decide_eq_true c30
      clear c30
      replace H := ipd H
      obtain ⟨c31b0, H⟩ := H
      replace H := ipd H
      obtain ⟨c32b0, H⟩ := H
      replace H := oa H
      obtain ⟨t294, A33, H⟩ := H
      have p292 : 0 ≤ (x41_2 : Int) := of_decide_eq_true xA
      have q292 : x41_2 < (l0_7.length : Int) := of_decide_eq_true xA
      obtain ⟨ad292, e292, hx292_0, hx292_1, hx292_2⟩ := at_T93 HR0_7.out x41_2 p292 q292
      cases e292
      replace hx292_0 := hc HB hx292_0
      replace hx292_1 := hc HB hx292_1
      replace hx292_2 := hc HB hx292_2
      replace p292 := eq_true p292
      replace q292 := eq_true q292
      go_upto_if 47 with (first | ((with_reducible refine gate_dst (N := 4) rfl ?_); (try (refine gate_guard (by rfl) ?_; dsimp only)); refine box_event ?hg (N := 4) ?hd (cs := #[.string (⟨#[]⟩ : ByteArray), .int .i64 0, .int .i64 0]) (t := 93) ?hr ?_; (case hd => rfl); (case hg => rfl); (case hr => first | (go_simp; done) | (go_simp; rfl)); intro gb293 hg w35 hbox hb; have BK293 := am (hbox); have GW293 := zB hg HB; have GE293 := zB hg HB; replace HB := kH HB hb; have NB288_293 := nl hg (kb BK288); have NB293_288 := ng hg (kb BK288); replace BK288 := kP _ BK288 hb; clear hb hbox hg; have hnb36 := NB293_288.out; have hnc36 := NB288_293.out; have hz37 := bc3 BK293) | ((with_reducible refine gg ?_); refine gL 46 Tryd.func82 #[.agg #[.string ((rd_T93 l0_7 x41_2).f0), .int .i64 ((rd_T93 l0_7 x41_2).f1), .int .i64 ((rd_T93 l0_7 x41_2).f2)]] ?_; (with_reducible refine (impl_peakOk.calls k2 ((rd_T93 l0_7 x41_2).f0) ((rd_T93 l0_7 x41_2).f1) ((rd_T93 l0_7 x41_2).f2) t294 _ A33.out).mono ?_); rintro e w38 ⟨rfl, hb⟩; refine ⟨_, rfl, ?_⟩; replace BK288 := kP _ BK288 hb; replace BK293 := kP (.cells #[.string ((rd_T93 l0_7 x41_2).f0), .int .i64 ((rd_T93 l0_7 x41_2).f1), .int .i64 ((rd_T93 l0_7 x41_2).f2)] 93 (0, 0)) BK293 hb; replace HB := kH HB hb; (try clear hb)))
      by_cases c34 : t294 = true
      rotate_left
      ·replace c34 := Bool.eq_false_iff.mpr c34
       subst c34
       try simp only [Bool.not_true, Bool.not_false]
       rw [if_neg (show ¬ (false = true) by decide)] at H
       obtain rfl := Option.some.inj H
       go_wp2
       go_ret
       exact ⟨xE, xB HB⟩
      subst c34
      try simp only [Bool.not_true, Bool.not_false]
      rw [if_pos rfl] at H
      have H' := Aside0.mk H
      clear H
      go_wp2
      go_roundg k2
      case measure => have := HJ1.out; have := HK2.out; omega
      case rel => exact ⟨(wrap64 (x41_2 + 1)), xR, H', ⟨by have := HJ1.out; have := HK2.out; omega⟩, ⟨kb BK288⟩, ⟨xB HB⟩⟩
     rw [if_neg c30] at H
     have c30b0 := decide_eq_false c30
     clear c30
     have H' := Aside0.mk H
     clear H
     have hz43 := bc9 BK288
     go_wp2
     go_loopg [52] k2 (fun kq v52 w' => ∃ (x52_3 : Int), v52 = .int .i64 x52_3 ∧ Aside0 (impl_paidOk.l1 kq l0_8 (l0_8.length : Int) x52_3 = some r) ∧ Aside0 (kq ≤ k2) ∧ Aside0 (w'.heap[gb288]? = some (.cells #[.int .i64 a0_0, .string a0_1, .string a0_2, .int .i64 a0_3, .int .i64 a0_4, .int .i64 a0_5, (.slice A0_6 l0_6.length c0_6), (.slice A0_7 l0_7.length c0_7), (.slice A0_8 l0_8.length c0_8)] 29 (0, 0))) ∧ Aside0 (Below w.heap.size w w'))
     case atStart => exact ⟨(0), xR, H', ⟨Nat.le_refl _⟩, ⟨kb BK288⟩, ⟨xB HB⟩⟩
     case round =>
      clear H'
      try clear c1
      try clear c2
      try clear p2
      try clear q2
      try clear hx2
      try clear c3
      try clear c4
      try clear c5
      try clear c6
      try clear p6
      try clear c7
      try clear c8
      try clear c9
      try clear c10
      try clear c10b0
      try clear c10b1
      try clear c28
      try clear p29
      try clear q29
      try clear hx29
      try clear c30
      try clear c30b0
      try clear c31
      try clear c31b0
      try clear c32
      try clear c32b0
      try clear c34
      try clear c36
      try clear c40
      try clear hz11
      try clear hz13
      try clear hz15
      try clear hz16
      try clear hz18
      try clear hz20
      try clear hz21
      try clear hz23
      try clear hz25
      try clear hz27
      try clear hz29
      try clear hz37
      try clear hz41
      try clear hz43
      try clear hx292_0
      try clear hx292_1
      try clear hx292_2
      try clear p2
      try clear p292
      try clear q292
      obtain ⟨x52_3, rfl, HA, HK3, BK288, HB⟩ := hrel
      cases gk with
      | zero => exact absurd HA.out (by simp [impl_paidOk.l1])
      | succ k3 =>
       have H := HA.out
       clear HA
       simp only [impl_paidOk.l1] at H
       by_cases c44 : x52_3 < (l0_8.length : Int)
       rotate_left
       ·rw [if_neg c44] at H
        have c44b0 := decide_eq_false c44
        clear c44
        obtain rfl := Option.some.inj H
        go_wp2
        go_ret
        exact ⟨xE, xB HB⟩
       rw [if_pos c44] at H
       have c44b0 := decide_eq_true c44
       clear c44
       replace H := ipd H
       obtain ⟨c45b0, H⟩ := H
       replace H := ipd H
       obtain ⟨c46b0, H⟩ := H
       replace H := oa H
       obtain ⟨t297, A47, H⟩ := H
       have p295 : 0 ≤ (x52_3 : Int) := of_decide_eq_true xA
       have q295 : x52_3 < (l0_8.length : Int) := of_decide_eq_true xA
       obtain ⟨ad295, e295, hx295_0, hx295_1⟩ := at_T85 HR0_8.out x52_3 p295 q295
       cases e295
       replace hx295_0 := hc HB hx295_0
       replace hx295_1 := hc HB hx295_1
       replace p295 := eq_true p295
       replace q295 := eq_true q295
       go_upto_if 59 with (first | ((with_reducible refine gate_dst (N := 6) rfl ?_); (try (refine gate_guard (by rfl) ?_; dsimp only)); refine box_event ?hg (N := 6) ?hd (cs := #[.string (⟨#[]⟩ : ByteArray), .bool false]) (t := 85) ?hr ?_; (case hd => rfl); (case hg => rfl); (case hr => first | (go_simp; done) | (go_simp; rfl)); intro gb296 hg w49 hbox hb; have BK296 := am (hbox); have GW296 := zB hg HB; have GE296 := zB hg HB; replace HB := kH HB hb; have NB288_296 := nl hg (kb BK288); have NB296_288 := ng hg (kb BK288); replace BK288 := kP _ BK288 hb; clear hb hbox hg; have hnb50 := NB296_288.out; have hnc50 := NB288_296.out; have hz51 := bc2 BK296) | ((with_reducible refine gg ?_); refine gL 58 Tryd.func75 #[.string ((rd_T85 l0_8 x52_3).f0)] ?_; (with_reducible refine (impl_isSum.calls k3 ((rd_T85 l0_8 x52_3).f0) t297 _ A47.out).mono ?_); rintro e w' ⟨rfl, ⟨nd, rfl⟩⟩; refine ⟨_, rfl, ?_⟩))
       by_cases c48 : t297 = true
       rotate_left
       ·replace c48 := Bool.eq_false_iff.mpr c48
        subst c48
        try simp only [Bool.not_true, Bool.not_false]
        rw [if_neg (show ¬ (false = true) by decide)] at H
        obtain rfl := Option.some.inj H
        go_wp2
        go_ret
        exact ⟨xE, xB HB⟩
       subst c48
       try simp only [Bool.not_true, Bool.not_false]
       rw [if_pos rfl] at H
       have H' := Aside0.mk H
       clear H
       go_wp2
       go_roundg k3
       case measure => have := HJ1.out; have := HK2.out; have := HK3.out; omega
       case rel => exact ⟨(wrap64 (x52_3 + 1)), xR, H', ⟨by have := HJ1.out; have := HK2.out; have := HK3.out; omega⟩, ⟨fb BK288⟩, ⟨xB HB⟩⟩


/-! ### impl_peaksPut: function 52 -/
def impl_peaksPut.l0 : Nat → ByteArray → List (S93) → Int → Int → Option (ByteArray)
 | 0, _, _, _, _ => none
 | k + 1, x5, x9, x10, x11 => if x11 < x10 then (if 0 ≤ x11 then (if x11 < (x9.length : Int) then (if 1 + ((rd_T93 x9 x11).f0).size ≤ 9223372036854775807 then (if ((⟨#[32]⟩ : ByteArray) ++ ((rd_T93 x9 x11).f0)).size + 1 ≤ 9223372036854775807 then ((strconv_Itoa_46.f ((rd_T93 x9 x11).f1)).bind fun t300 => (if (((⟨#[32]⟩ : ByteArray) ++ ((rd_T93 x9 x11).f0)) ++ (⟨#[58]⟩ : ByteArray)).size + t300.size ≤ 9223372036854775807 then (if ((((⟨#[32]⟩ : ByteArray) ++ ((rd_T93 x9 x11).f0)) ++ (⟨#[58]⟩ : ByteArray)) ++ t300).size + 1 ≤ 9223372036854775807 then ((strconv_Itoa_46.f ((rd_T93 x9 x11).f2)).bind fun t301 => (if (((((⟨#[32]⟩ : ByteArray) ++ ((rd_T93 x9 x11).f0)) ++ (⟨#[58]⟩ : ByteArray)) ++ t300) ++ (⟨#[58]⟩ : ByteArray)).size + t301.size ≤ 9223372036854775807 then (if x5.size + ((((((⟨#[32]⟩ : ByteArray) ++ ((rd_T93 x9 x11).f0)) ++ (⟨#[58]⟩ : ByteArray)) ++ t300) ++ (⟨#[58]⟩ : ByteArray)) ++ t301).size ≤ 9223372036854775807 then (impl_peaksPut.l0 k (x5 ++ ((((((⟨#[32]⟩ : ByteArray) ++ ((rd_T93 x9 x11).f0)) ++ (⟨#[58]⟩ : ByteArray)) ++ t300) ++ (⟨#[58]⟩ : ByteArray)) ++ t301)) x9 x10 (wrap64 (x11 + 1))) else (none)) else (none))) else (none)) else (none))) else (none)) else (none)) else (none)) else (none)) else (if x5.size + 1 ≤ 9223372036854775807 then (some (x5 ++ (⟨#[10]⟩ : ByteArray))) else (none))
def impl_peaksPut.f (k : Nat) (a0 : ByteArray) (l1 : List (S93)) : Option (ByteArray) := impl_peaksPut.l0 k a0 l1 (l1.length : Int) 0
theorem impl_peaksPut.mono_l : ∀ k, (∀ y0 y1 y2 y3, LeO (impl_peaksPut.l0 k y0 y1 y2 y3) (impl_peaksPut.l0 (k + 1) y0 y1 y2 y3))
 | 0 => fun _ _ _ _ r h => by simp [impl_peaksPut.l0] at h
 | k + 1 => by
  have ih0 := impl_peaksPut.mono_l k
  ·intro y0 y1 y2 y3
   unfold impl_peaksPut.l0
   exact mo1 ih0
theorem impl_peaksPut.mono : ∀ a0 a1 k, LeO (impl_peaksPut.f k a0 a1) (impl_peaksPut.f (k + 1) a0 a1) := by
 intro a0 a1 k
 have ih0 := impl_peaksPut.mono_l k
 unfold impl_peaksPut.f
 exact mo1 ih0
def impl_peaksPut.T5 : Bool × List (List Nat × List Nat) := (true, [([], []), ([], []), ([1], [1]), ([2], [2]), ([3], [3]), ([], []), ([5], [5]), ([6], [6]), ([4, 7], [4, 7]), ([8], [8]), ([], []), ([10], [10]), ([11, 7], [11]), ([9, 12], [9, 12]), ([0, 13], [0, 13]), ([14, 12, 0, 1, 2, 3, 4, 5, 6, 7, 8, 9, 10, 11, 12, 13, 14], [0, 14])])
def impl_peaksPut.B5 : List Nat := [0, 0, 2, 6, 14, 0, 32, 96, 254, 510, 0, 1024, 3296, 8190, 16383, 32767]
theorem impl_peaksPut.tab5 : rtab .any (opsOf Tryd.f52 5) = impl_peaksPut.T5 := by kernel_rfl
theorem impl_peaksPut.bits5 : waitsOk impl_peaksPut.T5.2 impl_peaksPut.B5 = true := by kernel_rfl
set_option maxHeartbeats 64000000 in
set_option maxRecDepth 100000 in
theorem impl_peaksPut.calls (k : Nat) (a0 : ByteArray) (A1 : Option Addr) (c1 : Nat) (l1 : List (S93)) (r : ByteArray) (w : World) (hr1 : Kd.C k93 w A1 l1.length l1) (hc1 : l1.length ≤ c1) (h : impl_peaksPut.f k a0 l1 = some r) (PQT_ : Aside0 (Sh.HasT w)) :
  Calls Tryd.prog 52 #[.string a0, .slice A1 l1.length c1] w fun e w' => e = .returned (.string r) ∧ Below w.heap.size w w' := by
 have hu93 := Tryd.underlying93
 have HR1 := Aside0.mk hr1
 have HC1 := Aside0.mk hc1
 clear hr1 hc1
 have HB := Aside0.mk (Below.refl w.heap.size w)
 have H : (impl_peaksPut.l0 k a0 l1 (l1.length : Int) 0) = some r := h
 clear h
 have H' := Aside0.mk H
 clear H
 go_enter Tryd.func52, Tryd.ntmps52
 go_wp2
 go_loopg [5, 11] k (fun kq v5 v11 w' => ∃ (x5_1 : ByteArray) (x11_1 : Int), v5 = .string x5_1 ∧ v11 = .int .i64 x11_1 ∧ Aside0 (impl_peaksPut.l0 kq x5_1 l1 (l1.length : Int) x11_1 = some r) ∧ Aside0 (kq ≤ k) ∧ Aside0 (Below w.heap.size w w'))
 case atStart => exact ⟨(a0), (0), xR, xR, H', ⟨Nat.le_refl _⟩, ⟨bl HB⟩⟩
 case round =>
  clear H'
  try clear c1
  try clear p2
  obtain ⟨x5_1, x11_1, rfl, rfl, HA, HK1, HB⟩ := hrel
  cases gk with
  | zero => exact absurd HA.out (by simp [impl_peaksPut.l0])
  | succ k1 =>
   have H := HA.out
   clear HA
   simp only [impl_peaksPut.l0] at H
   by_cases c3 : x11_1 < (l1.length : Int)
   rotate_left
   ·rw [if_neg c3] at H
    have c3b0 := decide_eq_false c3
    clear c3
    replace H := ip H
    obtain ⟨c20, H⟩ := H
    have c20b0 := eq_true c20
    have c20b1 := decide_eq_true c20
    have c20b2 := nf c20
    obtain rfl := Option.some.inj H
    go_wp2
    go_ret
    exact ⟨xE, bl HB⟩
   rw [if_pos c3] at H
   have c3b0 := decide_eq_true c3
   clear c3
   replace H := ipd H
   obtain ⟨c4b0, H⟩ := H
   replace H := ipd H
   obtain ⟨c5b0, H⟩ := H
   replace H := ip H
   obtain ⟨c6, H⟩ := H
   have c6b0 := eq_true c6
   have c6b1 := decide_eq_true c6
   have c6b2 := nf c6
   replace H := ip H
   obtain ⟨c7, H⟩ := H
   have c7b0 := eq_true c7
   have c7b1 := decide_eq_true c7
   have c7b2 := nf c7
   try (have c7b3 := c7b2; simp only [ByteArray.size_append, show (⟨#[32]⟩ : ByteArray).size = 1 from rfl] at c7b3)
   replace H := oa H
   obtain ⟨t300, A8, H⟩ := H
   replace H := ip H
   obtain ⟨c9, H⟩ := H
   have c9b0 := eq_true c9
   have c9b1 := decide_eq_true c9
   have c9b2 := nf c9
   try (have c9b3 := c9b2; simp only [ByteArray.size_append, show (⟨#[32]⟩ : ByteArray).size = 1 from rfl, show (⟨#[58]⟩ : ByteArray).size = 1 from rfl] at c9b3)
   replace H := ip H
   obtain ⟨c10, H⟩ := H
   have c10b0 := eq_true c10
   have c10b1 := decide_eq_true c10
   have c10b2 := nf c10
   try (have c10b3 := c10b2; simp only [ByteArray.size_append, show (⟨#[32]⟩ : ByteArray).size = 1 from rfl, show (⟨#[58]⟩ : ByteArray).size = 1 from rfl] at c10b3)
   replace H := oa H
   obtain ⟨t301, A11, H⟩ := H
   replace H := ip H
   obtain ⟨c12, H⟩ := H
   have c12b0 := eq_true c12
   have c12b1 := decide_eq_true c12
   have c12b2 := nf c12
   try (have c12b3 := c12b2; simp only [ByteArray.size_append, show (⟨#[32]⟩ : ByteArray).size = 1 from rfl, show (⟨#[58]⟩ : ByteArray).size = 1 from rfl] at c12b3)
   replace H := ip H
   obtain ⟨c13, H⟩ := H
   have c13b0 := eq_true c13
   have c13b1 := decide_eq_true c13
   have c13b2 := nf c13
   try (have c13b3 := c13b2; simp only [ByteArray.size_append, show (⟨#[32]⟩ : ByteArray).size = 1 from rfl, show (⟨#[58]⟩ : ByteArray).size = 1 from rfl] at c13b3)
   have H' := Aside0.mk H
   clear H
   have p298 : 0 ≤ (x11_1 : Int) := of_decide_eq_true xA
   have q298 : x11_1 < (l1.length : Int) := of_decide_eq_true xA
   obtain ⟨ad298, e298, hx298_0, hx298_1, hx298_2⟩ := at_T93 HR1.out x11_1 p298 q298
   cases e298
   replace hx298_0 := hc HB hx298_0
   replace hx298_1 := hc HB hx298_1
   replace hx298_2 := hc HB hx298_2
   replace p298 := eq_true p298
   replace q298 := eq_true q298
   try go_wp2_with ((with_reducible refine gg ?_); refine bE 7 #[.string (⟨#[]⟩ : ByteArray), .int .i64 0, .int .i64 0] 93 ?_; intro gb299 hg w14 hbox hb; have BK299 := am (hbox); have GW299 := zB hg HB; have GE299 := zB hg HB; replace HB := kH HB hb; clear hb hbox hg; have hz15 := bc3 BK299)
   have n0_ : Aside0 ((((w14.setCell ⟨gb299, 0, none⟩ (.string ((rd_T93 l1 x11_1).f0))).setCell ⟨gb299, 1, none⟩ (.int .i64 ((rd_T93 l1 x11_1).f1))).setCell ⟨gb299, 2, none⟩ (.int .i64 ((rd_T93 l1 x11_1).f2))).heap[gb299]? = some (.cells #[.string ((rd_T93 l1 x11_1).f0), .int .i64 ((rd_T93 l1 x11_1).f1), .int .i64 ((rd_T93 l1 x11_1).f2)] 93 (0, 0))) := ⟨fb BK299⟩
   have n1_ : Aside0 (Below w.heap.size w (((w14.setCell ⟨gb299, 0, none⟩ (.string ((rd_T93 l1 x11_1).f0))).setCell ⟨gb299, 1, none⟩ (.int .i64 ((rd_T93 l1 x11_1).f1))).setCell ⟨gb299, 2, none⟩ (.int .i64 ((rd_T93 l1 x11_1).f2)))) := ⟨xB HB⟩
   (try clear BK299)
   (try clear HB)
   generalize (((w14.setCell ⟨gb299, 0, none⟩ (.string ((rd_T93 l1 x11_1).f0))).setCell ⟨gb299, 1, none⟩ (.int .i64 ((rd_T93 l1 x11_1).f1))).setCell ⟨gb299, 2, none⟩ (.int .i64 ((rd_T93 l1 x11_1).f2))) = w16 at n0_ n1_ ⊢
   have BK299 := n0_
   have HB := n1_
   clear n0_ n1_
   replace BK299 := am (blk_drew BK299.out)
   replace HB := am (below_drew1 HB.out)
   refine start_ (n := 16) (S := cs3 gb299 (.string ((rd_T93 l1 x11_1).f0)) (.int .i64 ((rd_T93 l1 x11_1).f1)) (.int .i64 ((rd_T93 l1 x11_1).f2))) (ds := []) (bm 16 0) (by kernel_rfl) rfl rfl (bz3 BK299) (fun hHeld => ?_); refine with_tabW impl_peaksPut.tab5 impl_peaksPut.bits5 (fun HT_ HW_ => ?_)
   generalize w16.drew = w17 at BK299 HB hHeld ⊢
   refine pA 0 15 (bm 16 1) HT_ ?_
   refine pA 1 16 (bm 16 3) HT_ ?_
   refine pA 5 20 (bm 16 35) HT_ ?_
   refine pA 10 25 (bm 16 1059) HT_ ?_
   refine tA 2 17 (bm 16 1063) HT_ HW_ hHeld ?_
   refine pA 3 18 (bm 16 1071) HT_ ?_
   refine pA 4 19 (bm 16 1087) HT_ ?_
   refine tA 6 21 (bm 16 1151) HT_ HW_ hHeld ?_
   refine tA 11 26 (bm 16 3199) HT_ HW_ hHeld ?_
   refine oA 7 (some 22) (bm 16 3327) HT_ fun K hK => ?_
   refine gA Tryd.func46 #[.int .i64 ((rd_T93 l1 x11_1).f1)] ?_
   with_reducible refine (strconv_Itoa_46.calls ((rd_T93 l1 x11_1).f1) t300 _ A8.out (Aside0.mk (Sh.hasT_of PQT_ (bl HB)))).mono ?_
   rintro e w18 ⟨rfl, hb⟩
   refine ⟨_, rfl, ?_⟩
   replace BK299 := kP _ BK299 hb
   replace HB := kH HB hb
   (try clear hb)
   (try clear hb2)
   (try clear hk)
   (try clear hi)
   refine hK.out _ _ (bz3 BK299) (fun hHeld => ?_)
   clear hK K
   refine nA (some 22) ?_
   refine pA 8 23 (bm 16 3583) HT_ ?_
   refine pA 9 24 (bm 16 4095) HT_ ?_
   refine oA 12 (some 27) (bm 16 8191) HT_ fun K hK => ?_
   refine gA Tryd.func46 #[.int .i64 ((rd_T93 l1 x11_1).f2)] ?_
   with_reducible refine (strconv_Itoa_46.calls ((rd_T93 l1 x11_1).f2) t301 _ A11.out (Aside0.mk (Sh.hasT_of PQT_ (bl HB)))).mono ?_
   rintro e w19 ⟨rfl, hb⟩
   refine ⟨_, rfl, ?_⟩
   replace BK299 := kP _ BK299 hb
   replace HB := kH HB hb
   (try clear hb)
   (try clear hb2)
   (try clear hk)
   (try clear hi)
   refine hK.out _ _ (bz3 BK299) (fun hHeld => ?_)
   clear hK K
   refine nA (some 27) ?_
   refine pA 13 28 (bm 16 16383) HT_ ?_
   refine pA 14 29 (bm 16 32767) HT_ ?_
   refine pA 15 5 (bm 16 65535) HT_ ?_
   refine done_ (done_of HT_.out (by kernel_rfl)) ?_
   try go_wp2
   go_roundg k1
   case measure => have := HK1.out; omega
   case rel => exact ⟨(x5_1 ++ ((((((⟨#[32]⟩ : ByteArray) ++ ((rd_T93 l1 x11_1).f0)) ++ (⟨#[58]⟩ : ByteArray)) ++ t300) ++ (⟨#[58]⟩ : ByteArray)) ++ t301)), (wrap64 (x11_1 + 1)), xR, xR, H', ⟨xL HK1⟩, ⟨xB HB⟩⟩


/-! ### impl_PaidPut: function 23 -/
def impl_PaidPut.l0 : Nat → ByteArray → List (S85) → Int → Int → Option (ByteArray)
 | 0, _, _, _, _ => none
 | k + 1, x3, x30, x31, x32 => if x32 < x31 then (if 0 ≤ x32 then (if x32 < (x30.length : Int) then (if (rd_T85 x30 x32).f1 = true then (if 2 + ((rd_T85 x30 x32).f0).size ≤ 9223372036854775807 then (if x3.size + ((⟨#[32, 108]⟩ : ByteArray) ++ ((rd_T85 x30 x32).f0)).size ≤ 9223372036854775807 then (impl_PaidPut.l0 k (x3 ++ ((⟨#[32, 108]⟩ : ByteArray) ++ ((rd_T85 x30 x32).f0))) x30 x31 (wrap64 (x32 + 1))) else (none)) else (none)) else (if 2 + ((rd_T85 x30 x32).f0).size ≤ 9223372036854775807 then (if x3.size + ((⟨#[32, 114]⟩ : ByteArray) ++ ((rd_T85 x30 x32).f0)).size ≤ 9223372036854775807 then (impl_PaidPut.l0 k (x3 ++ ((⟨#[32, 114]⟩ : ByteArray) ++ ((rd_T85 x30 x32).f0))) x30 x31 (wrap64 (x32 + 1))) else (none)) else (none))) else (none)) else (none)) else (if x3.size + 1 ≤ 9223372036854775807 then (some (x3 ++ (⟨#[10]⟩ : ByteArray))) else (none))
def impl_PaidPut.f (k : Nat) (a0_0 : Int) (a0_1 : ByteArray) (a0_2 : ByteArray) (a0_3 : Int) (a0_4 : Int) (a0_5 : Int) (l0_6 : List (S93)) (l0_7 : List (S93)) (l0_8 : List (S85)) : Option (ByteArray) := (impl_paidOk.f k a0_0 a0_1 a0_2 a0_3 a0_4 a0_5 l0_6 l0_7 l0_8).bind fun t303 => (if t303 = true then ((strconv_Itoa_46.f a0_0).bind fun t304 => (if t304.size + 1 ≤ 9223372036854775807 then ((impl_HeadPut.f k a0_1 a0_2 a0_3 a0_4 a0_5).bind fun t305 => (if (t304 ++ (⟨#[32]⟩ : ByteArray)).size + t305.size ≤ 9223372036854775807 then (if ((t304 ++ (⟨#[32]⟩ : ByteArray)) ++ t305).size + 1 ≤ 9223372036854775807 then ((impl_peaksPut.f k (⟨#[112, 101, 97, 107, 115]⟩ : ByteArray) l0_6).bind fun t306 => (if (((t304 ++ (⟨#[32]⟩ : ByteArray)) ++ t305) ++ (⟨#[10]⟩ : ByteArray)).size + t306.size ≤ 9223372036854775807 then ((impl_peaksPut.f k (⟨#[115, 116, 101, 112, 115]⟩ : ByteArray) l0_7).bind fun t307 => (if ((((t304 ++ (⟨#[32]⟩ : ByteArray)) ++ t305) ++ (⟨#[10]⟩ : ByteArray)) ++ t306).size + t307.size ≤ 9223372036854775807 then (if (((((t304 ++ (⟨#[32]⟩ : ByteArray)) ++ t305) ++ (⟨#[10]⟩ : ByteArray)) ++ t306) ++ t307).size + 5 ≤ 9223372036854775807 then (impl_PaidPut.l0 k ((((((t304 ++ (⟨#[32]⟩ : ByteArray)) ++ t305) ++ (⟨#[10]⟩ : ByteArray)) ++ t306) ++ t307) ++ (⟨#[115, 105, 100, 101, 115]⟩ : ByteArray)) l0_8 (l0_8.length : Int) 0) else (none)) else (none))) else (none))) else (none)) else (none))) else (none))) else (some (⟨#[]⟩ : ByteArray)))
theorem impl_PaidPut.mono_l : ∀ k, (∀ y0 y1 y2 y3, LeO (impl_PaidPut.l0 k y0 y1 y2 y3) (impl_PaidPut.l0 (k + 1) y0 y1 y2 y3))
 | 0 => fun _ _ _ _ r h => by simp [impl_PaidPut.l0] at h
 | k + 1 => by
  have ih0 := impl_PaidPut.mono_l k
  ·intro y0 y1 y2 y3
   unfold impl_PaidPut.l0
   exact mo4 ih0 impl_HeadPut.mono impl_paidOk.mono impl_peaksPut.mono
theorem impl_PaidPut.mono : ∀ a0 a1 a2 a3 a4 a5 a6 a7 a8 k, LeO (impl_PaidPut.f k a0 a1 a2 a3 a4 a5 a6 a7 a8) (impl_PaidPut.f (k + 1) a0 a1 a2 a3 a4 a5 a6 a7 a8) := by
 intro a0 a1 a2 a3 a4 a5 a6 a7 a8 k
 have ih0 := impl_PaidPut.mono_l k
 unfold impl_PaidPut.f
 exact mo4 ih0 impl_HeadPut.mono impl_paidOk.mono impl_peaksPut.mono
def impl_PaidPut.T3 : Bool × List (List Nat × List Nat) := (true, [([], []), ([0], [0]), ([1], [1]), ([2], [2]), ([], []), ([4], [4]), ([5, 2], [5]), ([3, 6], [3, 6]), ([7], [7]), ([], []), ([9], [9]), ([10], [10]), ([11, 6], [11]), ([8, 12], [8, 12]), ([], []), ([14], [14]), ([15], [15]), ([16, 12], [16]), ([13, 17], [13, 17]), ([18], [18]), ([19, 17, 0, 1, 2, 3, 4, 5, 6, 7, 8, 9, 10, 11, 12, 13, 14, 15, 16, 17, 18, 19], [19])])
def impl_PaidPut.B3 : List Nat := [0, 1, 3, 7, 0, 16, 55, 127, 255, 0, 512, 1536, 3703, 8191, 0, 16384, 49152, 122487, 262143, 524287, 1048575]
theorem impl_PaidPut.tab3 : rtab .any (opsOf Tryd.f23 3) = impl_PaidPut.T3 := by kernel_rfl
theorem impl_PaidPut.bits3 : waitsOk impl_PaidPut.T3.2 impl_PaidPut.B3 = true := by kernel_rfl
set_option maxHeartbeats 64000000 in
set_option maxRecDepth 100000 in
theorem impl_PaidPut.calls (k : Nat) (a0_0 : Int) (a0_1 : ByteArray) (a0_2 : ByteArray) (a0_3 : Int) (a0_4 : Int) (a0_5 : Int) (A0_6 : Option Addr) (c0_6 : Nat) (l0_6 : List (S93)) (A0_7 : Option Addr) (c0_7 : Nat) (l0_7 : List (S93)) (A0_8 : Option Addr) (c0_8 : Nat) (l0_8 : List (S85)) (r : ByteArray) (w : World) (hr0_6 : Kd.C k93 w A0_6 l0_6.length l0_6) (hc0_6 : l0_6.length ≤ c0_6) (hr0_7 : Kd.C k93 w A0_7 l0_7.length l0_7) (hc0_7 : l0_7.length ≤ c0_7) (hr0_8 : Kd.C k85 w A0_8 l0_8.length l0_8) (hc0_8 : l0_8.length ≤ c0_8) (h : impl_PaidPut.f k a0_0 a0_1 a0_2 a0_3 a0_4 a0_5 l0_6 l0_7 l0_8 = some r) (PQT_ : Aside0 (Sh.HasT w)) :
  Calls Tryd.prog 23 #[.agg #[.int .i64 a0_0, .string a0_1, .string a0_2, .int .i64 a0_3, .int .i64 a0_4, .int .i64 a0_5, .slice A0_6 l0_6.length c0_6, .slice A0_7 l0_7.length c0_7, .slice A0_8 l0_8.length c0_8]] w fun e w' => e = .returned (.string r) ∧ Below w.heap.size w w' := by
 have hu29 := Tryd.underlying29
 have hu23 := Tryd.underlying23
 have hu85 := Tryd.underlying85
 have HR0_6 := Aside0.mk hr0_6
 have HC0_6 := Aside0.mk hc0_6
 clear hr0_6 hc0_6
 have HR0_7 := Aside0.mk hr0_7
 have HC0_7 := Aside0.mk hc0_7
 clear hr0_7 hc0_7
 have HR0_8 := Aside0.mk hr0_8
 have HC0_8 := Aside0.mk hc0_8
 clear hr0_8 hc0_8
 have HB := Aside0.mk (Below.refl w.heap.size w)
 have H : ((impl_paidOk.f k a0_0 a0_1 a0_2 a0_3 a0_4 a0_5 l0_6 l0_7 l0_8).bind fun t303 => (if t303 = true then ((strconv_Itoa_46.f a0_0).bind fun t304 => (if t304.size + 1 ≤ 9223372036854775807 then ((impl_HeadPut.f k a0_1 a0_2 a0_3 a0_4 a0_5).bind fun t305 => (if (t304 ++ (⟨#[32]⟩ : ByteArray)).size + t305.size ≤ 9223372036854775807 then (if ((t304 ++ (⟨#[32]⟩ : ByteArray)) ++ t305).size + 1 ≤ 9223372036854775807 then ((impl_peaksPut.f k (⟨#[112, 101, 97, 107, 115]⟩ : ByteArray) l0_6).bind fun t306 => (if (((t304 ++ (⟨#[32]⟩ : ByteArray)) ++ t305) ++ (⟨#[10]⟩ : ByteArray)).size + t306.size ≤ 9223372036854775807 then ((impl_peaksPut.f k (⟨#[115, 116, 101, 112, 115]⟩ : ByteArray) l0_7).bind fun t307 => (if ((((t304 ++ (⟨#[32]⟩ : ByteArray)) ++ t305) ++ (⟨#[10]⟩ : ByteArray)) ++ t306).size + t307.size ≤ 9223372036854775807 then (if (((((t304 ++ (⟨#[32]⟩ : ByteArray)) ++ t305) ++ (⟨#[10]⟩ : ByteArray)) ++ t306) ++ t307).size + 5 ≤ 9223372036854775807 then (impl_PaidPut.l0 k ((((((t304 ++ (⟨#[32]⟩ : ByteArray)) ++ t305) ++ (⟨#[10]⟩ : ByteArray)) ++ t306) ++ t307) ++ (⟨#[115, 105, 100, 101, 115]⟩ : ByteArray)) l0_8 (l0_8.length : Int) 0) else (none)) else (none))) else (none))) else (none)) else (none))) else (none))) else (some (⟨#[]⟩ : ByteArray)))) = some r := h
 clear h
 replace H := oa H
 obtain ⟨t303, A2, H⟩ := H
 go_enter Tryd.func23, Tryd.ntmps23
 go_upto_if 8 with ((with_reducible refine gg ?_); first | (refine bE 1 #[.int .i64 a0_0, .string a0_1, .string a0_2, .int .i64 a0_3, .int .i64 a0_4, .int .i64 a0_5, .slice A0_6 l0_6.length c0_6, .slice A0_7 l0_7.length c0_7, .slice A0_8 l0_8.length c0_8] 29 ?_; intro gb302 hg w14 hbox hb; have BK302 := am (hbox); have GW302 := zB hg HB; have GE302 := zB hg HB; replace HB := kH HB hb; clear hb hbox hg; have hz15 := bc9 BK302) | (refine store_event (t := 29) (p := 1) (v := ?vo_) (w1 := ?wo_) ?hg ?ho ?hn ?hr ?_; (case ho => rfl); (case hg => rfl); (case hn => rfl); (case hr => go_simp; rfl); intro wq_ hW_; have BQ_ := am hW_; have hzq_ := am hW_; replace hW_ := am hW_) | (refine gL 7 Tryd.func51 #[.agg #[.int .i64 a0_0, .string a0_1, .string a0_2, .int .i64 a0_3, .int .i64 a0_4, .int .i64 a0_5, .slice A0_6 l0_6.length c0_6, .slice A0_7 l0_7.length c0_7, .slice A0_8 l0_8.length c0_8]] ?_; (try (clear hzq_ BQ_; obtain ⟨hW_⟩ := hW_; subst hW_)); (with_reducible refine (impl_paidOk.calls k a0_0 a0_1 a0_2 a0_3 a0_4 a0_5 _ _ l0_6 _ _ l0_7 _ _ l0_8 t303 _ ?side1 ?side2 ?side3 ?side4 ?side5 ?side6 A2.out).mono ?_); (case side1 => exact cb HR0_6 HB); (case side2 => exact HC0_6.out); (case side3 => exact cb HR0_7 HB); (case side4 => exact HC0_7.out); (case side5 => exact cb HR0_8 HB); (case side6 => exact HC0_8.out); rintro e w16 ⟨rfl, hb⟩; refine ⟨_, rfl, ?_⟩; replace BK302 := kP _ BK302 hb; replace HB := kH HB hb; (try clear hb)))
 by_cases c3 : t303 = true
 rotate_left
 ·replace c3 := Bool.eq_false_iff.mpr c3
  subst c3
  try simp only [Bool.not_true, Bool.not_false]
  rw [if_neg (show ¬ (false = true) by decide)] at H
  obtain rfl := Option.some.inj H
  go_wp2
  (try (clear hzq_ BQ_; obtain ⟨hW_⟩ := hW_; subst hW_))
  go_ret
  exact ⟨xE, xB HB⟩
 subst c3
 try simp only [Bool.not_true, Bool.not_false]
 rw [if_pos rfl] at H
 replace H := oa H
 obtain ⟨t304, A4, H⟩ := H
 replace H := ip H
 obtain ⟨c5, H⟩ := H
 have c5b0 := eq_true c5
 have c5b1 := decide_eq_true c5
 have c5b2 := nf c5
 replace H := oa H
 obtain ⟨t305, A6, H⟩ := H
 replace H := ip H
 obtain ⟨c7, H⟩ := H
 have c7b0 := eq_true c7
 have c7b1 := decide_eq_true c7
 have c7b2 := nf c7
 try (have c7b3 := c7b2; simp only [ByteArray.size_append, show (⟨#[32]⟩ : ByteArray).size = 1 from rfl] at c7b3)
 replace H := ip H
 obtain ⟨c8, H⟩ := H
 have c8b0 := eq_true c8
 have c8b1 := decide_eq_true c8
 have c8b2 := nf c8
 try (have c8b3 := c8b2; simp only [ByteArray.size_append, show (⟨#[32]⟩ : ByteArray).size = 1 from rfl] at c8b3)
 replace H := oa H
 obtain ⟨t306, A9, H⟩ := H
 replace H := ip H
 obtain ⟨c10, H⟩ := H
 have c10b0 := eq_true c10
 have c10b1 := decide_eq_true c10
 have c10b2 := nf c10
 try (have c10b3 := c10b2; simp only [ByteArray.size_append, show (⟨#[10]⟩ : ByteArray).size = 1 from rfl, show (⟨#[32]⟩ : ByteArray).size = 1 from rfl] at c10b3)
 replace H := oa H
 obtain ⟨t307, A11, H⟩ := H
 replace H := ip H
 obtain ⟨c12, H⟩ := H
 have c12b0 := eq_true c12
 have c12b1 := decide_eq_true c12
 have c12b2 := nf c12
 try (have c12b3 := c12b2; simp only [ByteArray.size_append, show (⟨#[10]⟩ : ByteArray).size = 1 from rfl, show (⟨#[32]⟩ : ByteArray).size = 1 from rfl] at c12b3)
 replace H := ip H
 obtain ⟨c13, H⟩ := H
 have c13b0 := eq_true c13
 have c13b1 := decide_eq_true c13
 have c13b2 := nf c13
 try (have c13b3 := c13b2; simp only [ByteArray.size_append, show (⟨#[10]⟩ : ByteArray).size = 1 from rfl, show (⟨#[32]⟩ : ByteArray).size = 1 from rfl] at c13b3)
 have H' := Aside0.mk H
 clear H
 try go_wp2
 replace BK302 := am (blk_drew BK302.out)
 replace HB := am (below_drew1 HB.out)
 (try (clear hzq_ BQ_; obtain ⟨hW_⟩ := hW_; subst hW_))
 refine start_ (n := 21) (S := cs9 gb302 (.int .i64 a0_0) (.string a0_1) (.string a0_2) (.int .i64 a0_3) (.int .i64 a0_4) (.int .i64 a0_5) (.slice A0_6 l0_6.length c0_6) (.slice A0_7 l0_7.length c0_7) (.slice A0_8 l0_8.length c0_8)) (ds := []) (bm 21 0) (by kernel_rfl) rfl rfl (bz9 BK302) (fun hHeld => ?_); refine with_tabW impl_PaidPut.tab3 impl_PaidPut.bits3 (fun HT_ HW_ => ?_)
 generalize w16.drew = w17 at BK302 HB hHeld ⊢
 refine pA 0 9 (bm 21 1) HT_ ?_
 refine pA 4 13 (bm 21 17) HT_ ?_
 refine pA 9 18 (bm 21 529) HT_ ?_
 refine pA 10 19 (bm 21 1553) HT_ ?_
 refine pA 14 23 (bm 21 17937) HT_ ?_
 refine pA 15 24 (bm 21 50705) HT_ ?_
 refine tA 1 10 (bm 21 50707) HT_ HW_ hHeld ?_
 refine tA 5 14 (bm 21 50739) HT_ HW_ hHeld ?_
 refine tA 11 20 (bm 21 52787) HT_ HW_ hHeld ?_
 refine tA 16 25 (bm 21 118323) HT_ HW_ hHeld ?_
 refine oA 2 (some 11) (bm 21 118327) HT_ fun K hK => ?_
 refine gA Tryd.func46 #[.int .i64 a0_0] ?_
 with_reducible refine (strconv_Itoa_46.calls a0_0 t304 _ A4.out (Aside0.mk (Sh.hasT_of PQT_ (bl HB)))).mono ?_
 rintro e w18 ⟨rfl, hb⟩
 refine ⟨_, rfl, ?_⟩
 replace BK302 := kP _ BK302 hb
 replace HB := kH HB hb
 (try clear hb)
 (try clear hb2)
 (try clear hk)
 (try clear hi)
 refine hK.out _ _ (bz9 BK302) (fun hHeld => ?_)
 clear hK K
 refine nA (some 11) ?_
 refine pA 3 12 (bm 21 118335) HT_ ?_
 refine oA 6 (some 15) (bm 21 118399) HT_ fun K hK => ?_
 refine gA Tryd.func16 #[.agg #[.string a0_1, .string a0_2, .int .i64 a0_3, .int .i64 a0_4, .int .i64 a0_5]] ?_
 with_reducible refine (impl_HeadPut.calls k a0_1 a0_2 a0_3 a0_4 a0_5 t305 _ A6.out (Aside0.mk (Sh.hasT_of PQT_ (bl HB)))).mono ?_
 rintro e w19 ⟨rfl, hb⟩
 refine ⟨_, rfl, ?_⟩
 replace BK302 := kP _ BK302 hb
 replace HB := kH HB hb
 (try clear hb)
 (try clear hb2)
 (try clear hk)
 (try clear hi)
 refine hK.out _ _ (bz9 BK302) (fun hHeld => ?_)
 clear hK K
 refine nA (some 15) ?_
 refine pA 7 16 (bm 21 118527) HT_ ?_
 refine pA 8 17 (bm 21 118783) HT_ ?_
 refine oA 12 (some 21) (bm 21 122879) HT_ fun K hK => ?_
 refine gA Tryd.func52 #[.string (⟨#[112, 101, 97, 107, 115]⟩ : ByteArray), .slice A0_6 l0_6.length c0_6] ?_
 with_reducible refine (impl_peaksPut.calls k (⟨#[112, 101, 97, 107, 115]⟩ : ByteArray) _ _ l0_6 t306 _ ?side1 ?side2 A9.out (Aside0.mk (Sh.hasT_of PQT_ (bl HB)))).mono ?_
 (case side1 => exact cb HR0_6 HB)
 (case side2 => exact HC0_6.out)
 rintro e w20 ⟨rfl, hb⟩
 refine ⟨_, rfl, ?_⟩
 replace BK302 := kP _ BK302 hb
 replace HB := kH HB hb
 (try clear hb)
 (try clear hb2)
 (try clear hk)
 (try clear hi)
 refine hK.out _ _ (bz9 BK302) (fun hHeld => ?_)
 clear hK K
 refine nA (some 21) ?_
 refine pA 13 22 (bm 21 131071) HT_ ?_
 refine oA 17 (some 26) (bm 21 262143) HT_ fun K hK => ?_
 refine gA Tryd.func52 #[.string (⟨#[115, 116, 101, 112, 115]⟩ : ByteArray), .slice A0_7 l0_7.length c0_7] ?_
 with_reducible refine (impl_peaksPut.calls k (⟨#[115, 116, 101, 112, 115]⟩ : ByteArray) _ _ l0_7 t307 _ ?side1 ?side2 A11.out (Aside0.mk (Sh.hasT_of PQT_ (bl HB)))).mono ?_
 (case side1 => exact cb HR0_7 HB)
 (case side2 => exact HC0_7.out)
 rintro e w21 ⟨rfl, hb⟩
 refine ⟨_, rfl, ?_⟩
 replace BK302 := kP _ BK302 hb
 replace HB := kH HB hb
 (try clear hb)
 (try clear hb2)
 (try clear hk)
 (try clear hi)
 refine hK.out _ _ (bz9 BK302) (fun hHeld => ?_)
 clear hK K
 refine nA (some 26) ?_
 refine pA 18 27 (bm 21 524287) HT_ ?_
 refine pA 19 28 (bm 21 1048575) HT_ ?_
 refine pA 20 3 (bm 21 2097151) HT_ ?_
 refine done_ (done_of HT_.out (by kernel_rfl)) ?_
 have hz22 := bc9 BK302
 try go_wp2
 (try (clear hzq_ BQ_; obtain ⟨hW_⟩ := hW_; subst hW_))
 go_loopg [3, 32] k (fun kq v3 v32 w' => ∃ (x3_1 : ByteArray) (x32_1 : Int), v3 = .string x3_1 ∧ v32 = .int .i64 x32_1 ∧ Aside0 (impl_PaidPut.l0 kq x3_1 l0_8 (l0_8.length : Int) x32_1 = some r) ∧ Aside0 (kq ≤ k) ∧ Aside0 (w'.heap[gb302]? = some (.cells #[.int .i64 a0_0, .string a0_1, .string a0_2, .int .i64 a0_3, .int .i64 a0_4, .int .i64 a0_5, (.slice A0_6 l0_6.length c0_6), (.slice A0_7 l0_7.length c0_7), (.slice A0_8 l0_8.length c0_8)] 29 (0, 0))) ∧ Aside0 (Below w.heap.size w w'))
 case atStart => exact ⟨((((((t304 ++ (⟨#[32]⟩ : ByteArray)) ++ t305) ++ (⟨#[10]⟩ : ByteArray)) ++ t306) ++ t307) ++ (⟨#[115, 105, 100, 101, 115]⟩ : ByteArray)), (0), xR, xR, H', ⟨Nat.le_refl _⟩, ⟨kb BK302⟩, ⟨xB HB⟩⟩
 case round =>
  clear H'
  try clear c1
  try clear c2
  try clear p2
  try clear c3
  try clear c4
  try clear c5
  try clear c5b0
  try clear c5b1
  try clear c5b2
  try clear c7
  try clear c7b0
  try clear c7b1
  try clear c7b2
  try clear c8
  try clear c8b0
  try clear c8b1
  try clear c8b2
  try clear c10
  try clear c10b0
  try clear c10b1
  try clear c10b2
  try clear c12
  try clear c12b0
  try clear c12b1
  try clear c12b2
  try clear c13
  try clear c13b0
  try clear c13b1
  try clear c13b2
  try clear c16
  try clear hz15
  try clear hz22
  obtain ⟨x3_1, x32_1, rfl, rfl, HA, HK1, BK302, HB⟩ := hrel
  cases gk with
  | zero => exact absurd HA.out (by simp [impl_PaidPut.l0])
  | succ k1 =>
   have H := HA.out
   clear HA
   simp only [impl_PaidPut.l0] at H
   by_cases c23 : x32_1 < (l0_8.length : Int)
   rotate_left
   ·rw [if_neg c23] at H
    have c23b0 := decide_eq_false c23
    clear c23
    replace H := ip H
    obtain ⟨c38, H⟩ := H
    have c38b0 := eq_true c38
    have c38b1 := decide_eq_true c38
    have c38b2 := nf c38
    obtain rfl := Option.some.inj H
    go_wp2
    (try (clear hzq_ BQ_; obtain ⟨hW_⟩ := hW_; subst hW_))
    go_ret
    exact ⟨xE, xB HB⟩
   rw [if_pos c23] at H
   have c23b0 := decide_eq_true c23
   clear c23
   replace H := ipd H
   obtain ⟨c24b0, H⟩ := H
   replace H := ipd H
   obtain ⟨c25b0, H⟩ := H
   obtain ⟨bq26, hbq26⟩ : ∃ b_ : Bool, b_ = ((rd_T85 l0_8 x32_1).f1) := ⟨_, rfl⟩
   replace H : (if bq26 = true then (if 2 + ((rd_T85 l0_8 x32_1).f0).size ≤ 9223372036854775807 then (if x3_1.size + ((⟨#[32, 108]⟩ : ByteArray) ++ ((rd_T85 l0_8 x32_1).f0)).size ≤ 9223372036854775807 then (impl_PaidPut.l0 k1 (x3_1 ++ ((⟨#[32, 108]⟩ : ByteArray) ++ ((rd_T85 l0_8 x32_1).f0))) l0_8 (l0_8.length : Int) (wrap64 (x32_1 + 1))) else (none)) else (none)) else (if 2 + ((rd_T85 l0_8 x32_1).f0).size ≤ 9223372036854775807 then (if x3_1.size + ((⟨#[32, 114]⟩ : ByteArray) ++ ((rd_T85 l0_8 x32_1).f0)).size ≤ 9223372036854775807 then (impl_PaidPut.l0 k1 (x3_1 ++ ((⟨#[32, 114]⟩ : ByteArray) ++ ((rd_T85 l0_8 x32_1).f0))) l0_8 (l0_8.length : Int) (wrap64 (x32_1 + 1))) else (none)) else (none))) = some r := by rw [← hbq26] at H; exact H
   have Nbq26 := Aside0.mk hbq26
   clear hbq26
   have p308 : 0 ≤ (x32_1 : Int) := of_decide_eq_true xA
   have q308 : x32_1 < (l0_8.length : Int) := of_decide_eq_true xA
   obtain ⟨ad308, e308, hx308_0, hx308_1⟩ := at_T85 HR0_8.out x32_1 p308 q308
   (try rw [← Nbq26.out] at hx308_1)
   cases e308
   replace hx308_0 := hc HB hx308_0
   replace hx308_1 := hc HB hx308_1
   replace p308 := eq_true p308
   replace q308 := eq_true q308
   go_upto_if 37 with ((with_reducible refine gg ?_); refine bE 5 #[.string (⟨#[]⟩ : ByteArray), .bool false] 85 ?_; (try (clear hzq_ BQ_; obtain ⟨hW_⟩ := hW_; subst hW_)); intro gb309 hg w30 hbox hb; have BK309 := am (hbox); have GW309 := zB hg HB; have GE309 := zB hg HB; replace HB := kH HB hb; have NB302_309 := nl hg (kb BK302); have NB309_302 := ng hg (kb BK302); replace BK302 := kP _ BK302 hb; clear hb hbox hg; have hnb31 := NB309_302.out; have hnc31 := NB302_309.out; have hz32 := bc2 BK309)
   by_cases c27 : bq26 = true
   ·subst c27
    try simp only [Bool.not_true, Bool.not_false]
    rw [if_pos rfl] at H
    replace H := ip H
    obtain ⟨c28, H⟩ := H
    have c28b0 := eq_true c28
    have c28b1 := decide_eq_true c28
    have c28b2 := nf c28
    replace H := ip H
    obtain ⟨c29, H⟩ := H
    have c29b0 := eq_true c29
    have c29b1 := decide_eq_true c29
    have c29b2 := nf c29
    try (have c29b3 := c29b2; simp only [ByteArray.size_append, show (⟨#[32, 108]⟩ : ByteArray).size = 2 from rfl] at c29b3)
    have H' := Aside0.mk H
    clear H
    go_wp2
    (try (clear hzq_ BQ_; obtain ⟨hW_⟩ := hW_; subst hW_))
    go_roundg k1
    case measure => have := HK1.out; omega
    case rel => exact ⟨(x3_1 ++ ((⟨#[32, 108]⟩ : ByteArray) ++ ((rd_T85 l0_8 x32_1).f0))), (wrap64 (x32_1 + 1)), xR, xR, H', ⟨xL HK1⟩, ⟨fb BK302⟩, ⟨xB HB⟩⟩
   replace c27 := Bool.eq_false_iff.mpr c27
   subst c27
   try simp only [Bool.not_true, Bool.not_false]
   rw [if_neg (show ¬ (false = true) by decide)] at H
   replace H := ip H
   obtain ⟨c33, H⟩ := H
   have c33b0 := eq_true c33
   have c33b1 := decide_eq_true c33
   have c33b2 := nf c33
   replace H := ip H
   obtain ⟨c34, H⟩ := H
   have c34b0 := eq_true c34
   have c34b1 := decide_eq_true c34
   have c34b2 := nf c34
   try (have c34b3 := c34b2; simp only [ByteArray.size_append, show (⟨#[32, 114]⟩ : ByteArray).size = 2 from rfl] at c34b3)
   have H' := Aside0.mk H
   clear H
   go_wp2
   (try (clear hzq_ BQ_; obtain ⟨hW_⟩ := hW_; subst hW_))
   go_roundg k1
   case measure => have := HK1.out; omega
   case rel => exact ⟨(x3_1 ++ ((⟨#[32, 114]⟩ : ByteArray) ++ ((rd_T85 l0_8 x32_1).f0))), (wrap64 (x32_1 + 1)), xR, xR, H', ⟨xL HK1⟩, ⟨fb BK302⟩, ⟨xB HB⟩⟩

-- NOT PRINTED: function 66 (stringslite_Cut)

/-! ### strings_Cut: function 33, by the shelf's contract -/
def strings_Cut.f (a0 : ByteArray) (a1 : ByteArray) : Option (ByteArray × ByteArray × Bool) := if a0.size < 4294967281 then some (Sh.cutS a0 a1) else none
theorem strings_Cut.calls (a0 : ByteArray) (a1 : ByteArray) (r1 : ByteArray) (r2 : ByteArray) (r3 : Bool) (w : World) (h : strings_Cut.f a0 a1 = some (r1, r2, r3)) (PQM_ : Aside0 (Sh.HasM w)) :
  Calls Tryd.prog 33 #[.string a0, .string a1] w fun e w' => e = .returned (.tuple #[.string r1, .string r2, .bool r3]) ∧ Below w.heap.size w w' := by
 unfold strings_Cut.f at h
 by_cases hm : a0.size < 4294967281
 rotate_left
 ·rw [if_neg hm] at h
  exact absurd h (by simp)
 rw [if_pos hm] at h
 have e := Option.some.inj h
 have := Sh.cut_calls a0 a1 hm w PQM_.out
 rw [e] at this
 exact this
/-! ### impl_Peak: function 68, by hand -/
def impl_Peak.f (l0 : List S93) : Option (List S93) := if l0.length ≤ 1000000000 then some l0 else none
set_option maxHeartbeats 64000000 in
set_option maxRecDepth 100000 in
theorem impl_Peak.nil (A0 : Option Addr) (c0 : Nat) (w : World) : Calls Tryd.prog 68 #[.slice A0 0 c0] w fun e w' => e = .returned (.slice none 0 0) ∧ w = w' := by
 go_enter Tryd.func68, Tryd.ntmps68
 go_wp2
 go_ret
 exact ⟨rfl, rfl⟩
set_option maxHeartbeats 64000000 in
set_option maxRecDepth 100000 in
theorem impl_Peak.calls (A0 : Option Addr) (c0 : Nat) (l0 : List S93) (r : List S93) (w : World) (hr0 : Kd.C k93 w A0 l0.length l0) (hc0 : l0.length ≤ c0) (h : impl_Peak.f l0 = some r) :
  Calls Tryd.prog 68 #[.slice A0 l0.length c0] w fun e w' => ∃ v0_ : Value, e = .returned v0_ ∧ Kd.R k93 93 w' w.heap.size (fun _ => True) v0_ r ∧ Below w.heap.size w w' := by
 unfold impl_Peak.f at h
 by_cases hm : l0.length ≤ 1000000000
 rotate_left
 ·rw [if_neg hm] at h
  exact absurd h (by simp)
 rw [if_pos hm] at h
 obtain rfl := Option.some.inj h
 clear h
 rcases Nat.eq_zero_or_pos l0.length with h0 | h0
 ·obtain rfl : l0 = [] := List.eq_nil_of_length_eq_zero h0
  refine (impl_Peak.nil A0 c0 w).mono ?_
  rintro e w' ⟨rfl, rfl⟩
  exact ⟨_, rfl, Kd.R_nil _ _ _ _ _, Below.refl _ _⟩
 ·obtain ⟨ad, rfl, _⟩ := hr0.2.2 h0
  have hsrc := Go.Proofs.YtgjljbaadglpnaaDoor.Cp.flat_src (fun x : S93 => [Value.string x.f0, .int .i64 x.f1, .int .i64 x.f2]) 3 rfl (fun _ => rfl) (by decide) (fun x c hk => k93_open hk) hr0 h0
  have hlen : ((l0.length : Int) == 0) = false := beq_eq_false_iff_ne.2 (by omega)
  have HS := Aside0.mk hsrc
  clear hsrc hr0
  go_enter Tryd.func68, Tryd.ntmps68
  go_wp2_with (first | ((with_reducible refine gate_dst (N := 9) rfl ?_); refine Kd.R_make k93 _ 93 rfl (N := 9) rfl 24 _ _ rfl (l0.length : Int) rfl rfl Tryd.underlying24 (.agg #[(.string ⟨#[]⟩), (.int .i64 0), (.int .i64 0)]) 32 (by kernel_rfl) rfl (by decide) (by omega) z93 (ok := fun _ => True) (okp := fun _ => True) (k93_mkM _ _ _ z93) (fun _ hk => hk) trivial (by omega) (by rw [Int.toNat_natCast]; omega) (Below.refl _ _) (Nat.le_refl _) ?_; intro v9 w4 ho5 hb hg_ hnew_; clear hg_ hnew_; obtain ⟨g, cap, cur, rfl, hbg, HF⟩ := Go.Proofs.YtgjljbaadglpnaaDoor.Cp.made_form ho5 h0; have HB := Aside0.mk hb; clear ho5 hb) | ((with_reducible refine gate_builtin (b := .copy) (xs := #[.tmp 10, .tmp 11]) rfl ?_); refine Go.Proofs.YtgjljbaadglpnaaDoor.Cp.wpList_copy_many rfl (.tmp 10) (.tmp 11) 24 24 rfl 93 Tryd.underlying24 3 (by kernel_rfl) g l0.length cap c0 ad rfl rfl cur 93 HF.out.1 (l0.flatMap fun x : S93 => [Value.string x.f0, .int .i64 x.f1, .int .i64 x.f2]) (Go.Proofs.YtgjljbaadglpnaaDoor.Cp.flat_len _ 3 (fun _ => rfl) l0) (fun j v hj => pw_cell_below HB.out (HS.out j v hj)) (by rw [Go.Proofs.YtgjljbaadglpnaaDoor.Cp.flat_len _ 3 (fun _ => rfl) l0, HF.out.2.2.2]; exact Nat.mul_le_mul_right _ HF.out.2.1) (Go.Proofs.YtgjljbaadglpnaaDoor.Cp.flat_one _ (fun x v hv => by simp only [List.mem_cons, List.not_mem_nil, or_false] at hv; rcases hv with rfl | rfl | rfl <;> rfl) l0) w.heap.size w HB.out hbg ?_; intro w5 hh5 hb5; have HH := Aside0.mk hh5; have HB5 := Aside0.mk hb5; clear hh5 hb5))
  go_ret
  exact ⟨_, rfl, Go.Proofs.YtgjljbaadglpnaaDoor.Cp.copied_row (fun x : S93 => [Value.string x.f0, .int .i64 x.f1, .int .i64 x.f2]) (by decide) (fun _ => rfl) (fun x => k93_mkM _ _ _ x) HF.out hbg HH.out, HB5.out⟩

end Go.Proofs.YtgjljbaadglpnaaDoor.PFnExactPaidGet
