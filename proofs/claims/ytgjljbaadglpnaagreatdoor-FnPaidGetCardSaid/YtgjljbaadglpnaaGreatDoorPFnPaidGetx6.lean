/- Functions of the program and what each answers: the kit's print, shortened (wip/press2.py). -/
import Derived.Test.YtgjljbaadglpnaaGreatDoorPFnPaidGetx0
import Derived.Test.YtgjljbaadglpnaaGreatDoorPFnPaidGetx4
namespace Go.Proofs.YtgjljbaadglpnaaGreatDoor.PFnPaidGet
open Go.Proofs.YtgjljbaadglpnaaGreatDoor.Sq Go.RowKit Go.Proofs.YtgjljbaadglpnaaGreatDoorW.PrintWords Go.Proofs.YtgjljbaadglpnaaGreatDoorW.PrintLast Go.Proofs.YtgjljbaadglpnaaGreatDoorW.PrintMore
open Kd
set_option linter.unusedVariables false
set_option linter.unusedSimpArgs false
set_option maxHeartbeats 64000000
set_option maxRecDepth 100000
def impl_RangeOk.l0 : Nat → List S93 → Int → List S93 → Int → Int → Option (Bool)
 | 0, _, _, _, _, _ => none
 | k + 1, x0, x3, x6, x7, x8 => if x8 < x7 then (if 0 ≤ x8 then (if x8 < (x6.length : Int) then ((impl_peakOk.f k ((rd_T93 x6 x8).f0) ((rd_T93 x6 x8).f1) ((rd_T93 x6 x8).f2)).bind fun t115 => (if t115 = true then (if (Go.bits .and .i64 ((rd_T93 x6 x8).f2) (wrap64 (((rd_T93 x6 x8).f2) - 1))) = 0 then (if x8 > 0 then (if 0 ≤ (wrap64 (x8 - 1)) then (if (wrap64 (x8 - 1)) < (x0.length : Int) then (if ((rd_T93 x6 x8).f2) ≥ ((rd_T93 x0 (wrap64 (x8 - 1))).f2) then (some false) else (impl_RangeOk.l0 k x0 (wrap64 (x3 + ((rd_T93 x6 x8).f2))) x6 x7 (wrap64 (x8 + 1)))) else (none)) else (none)) else (impl_RangeOk.l0 k x0 (wrap64 (x3 + ((rd_T93 x6 x8).f2))) x6 x7 (wrap64 (x8 + 1)))) else (some false)) else (some false))) else (none)) else (none)) else (some (decide (x3 ≤ 20)))
def impl_RangeOk.f (k : Nat) (l0 : List S93) : Option (Bool) := impl_RangeOk.l0 k l0 0 l0 (l0.length : Int) 0
def impl_RangeOk.T5 : Bool × List (List Nat × List Nat) := (true, [([], []), ([0], [0]), ([1], [1]), ([2, 1], [2]), ([3], [3]), ([4, 3], [3, 4]), ([3], [3]), ([6, 3], [3, 6]), ([7, 3], [3, 7]), ([5, 8, 3], [3, 5, 8]), ([9, 3], [3, 9]), ([3, 10], [3, 10]), ([11, 3], [11]), ([12], [12]), ([13, 12], [12, 13]), ([14, 12, 12], [12, 14]), ([15], [15]), ([16, 15], [15, 16]), ([15], [15]), ([15], [15]), ([19, 15], [15, 19]), ([18, 20, 15], [15, 18, 20]), ([21, 15], [15, 21]), ([22, 15], [15, 22]), ([17, 23, 15], [15, 17, 23]), ([15, 24, 12], [12, 15, 24]), ([12, 25], [12, 25])])
def impl_RangeOk.B5 : List Nat := [0, 1, 3, 7, 15, 31, 15, 79, 207, 511, 1023, 2047, 4095, 8191, 16383, 32767, 65535, 131071, 65535, 65535, 589823, 1900543, 3997695, 8191999, 16777215, 33554431, 67108863]
theorem impl_RangeOk.tab5 : rtab .any (opsOf Tryz.f50 5) = impl_RangeOk.T5 := by kernel_rfl
theorem impl_RangeOk.bits5 : waitsOk impl_RangeOk.T5.2 impl_RangeOk.B5 = true := by kernel_rfl
theorem impl_RangeOk.calls (k : Nat) (A0 : Option Addr) (c0 : Nat) (l0 : List S93) (r : Bool) (w : World) (hr0 : Kd.C k93 w A0 l0.length l0) (hc0 : l0.length ≤ c0) (h : impl_RangeOk.f k l0 = some r) :
  Calls Tryz.prog 50 #[.slice A0 l0.length c0] w fun e w' => e = .returned (.bool r) ∧ Below w.heap.size w w' := by
 have hu93 := Tryz.underlying93
 have HR0 := am hr0
 have HC0 := am hc0
 clear hr0 hc0
 have HB := am (Below.refl w.heap.size w)
 have H : (impl_RangeOk.l0 k l0 0 l0 (l0.length : Int) 0) = some r := h
 clear h
 have H' := am H
 clear H
 go_enter Tryz.func50, Tryz.ntmps50
 go_wp2
 go_loopg [3, 8] k (fun kq v3 v8 w' => ∃ (x3_1 : Int) (x8_1 : Int), v3 = .int .i64 x3_1 ∧ v8 = .int .i64 x8_1 ∧ Aside0 (impl_RangeOk.l0 kq l0 x3_1 l0 (l0.length : Int) x8_1 = some r) ∧ Aside0 (kq ≤ k) ∧ Aside0 (Below w.heap.size w w'))
 case atStart => exact ⟨(0), (0), xR, xR, H', ⟨Nat.le_refl _⟩, ⟨bl HB⟩⟩
 case round =>
  clear H'
  obtain ⟨x3_1, x8_1, rfl, rfl, HA, HK1, HB⟩ := hrel
  cases gk with
  | zero => exact absurd HA.out (by simp [impl_RangeOk.l0])
  | succ k1 =>
   have H := HA.out
   clear HA
   simp only [impl_RangeOk.l0] at H
   by_cases c2 : x8_1 < (l0.length : Int)
   rotate_left
   ·rw [if_neg c2] at H
    have c2b0 := df c2
    clear c2
    obtain rfl := oI H
    go_wp2
    go_ret
    exact ⟨xE, bl HB⟩
   rw [if_pos c2] at H
   have c2b0 := dt c2
   clear c2
   replace ⟨c3b0, H⟩ := ipd H
   replace ⟨c4b0, H⟩ := ipd H
   replace ⟨t115, A5, H⟩ := oa H
   by_cases c6 : t115 = true
   rotate_left
   ·replace c6 := bF c6
    subst c6
    rw [if_neg nF] at H
    obtain rfl := oI H
    have p113 : 0 ≤ (x8_1 : Int) := oX
    have q113 : x8_1 < (l0.length : Int) := oX
    obtain ⟨ad113, e113, hx113_0, hx113_1, hx113_2⟩ := at_T93 (hC HB HR0.out) x8_1 p113 q113
    cases e113
    replace ⟨p113, q113⟩ := eT p113 q113
    try go_wp2_with ((with_reducible refine gg ?_); refine bE 5 #[.string (⟨#[]⟩ : ByteArray), .int .i64 0, .int .i64 0] 93 ?_; intro gb114 hg w35 hbox hb; have BK114 := am (hbox); have GW114 := zB hg HB; have GE114 := zB hg HB; replace HB := kH HB hb; clear hb hbox hg; have hz36 := bc3 BK114)
    have n0_ : Aside0 ((((w35.setCell ⟨gb114, 0, none⟩ (.string ((rd_T93 l0 x8_1).f0))).setCell ⟨gb114, 1, none⟩ (.int .i64 ((rd_T93 l0 x8_1).f1))).setCell ⟨gb114, 2, none⟩ (.int .i64 ((rd_T93 l0 x8_1).f2))).heap[gb114]? = some (.cells #[.string ((rd_T93 l0 x8_1).f0), .int .i64 ((rd_T93 l0 x8_1).f1), .int .i64 ((rd_T93 l0 x8_1).f2)] 93 (0, 0))) := ⟨fb BK114⟩
    have n1_ : Aside0 (Below w.heap.size w (((w35.setCell ⟨gb114, 0, none⟩ (.string ((rd_T93 l0 x8_1).f0))).setCell ⟨gb114, 1, none⟩ (.int .i64 ((rd_T93 l0 x8_1).f1))).setCell ⟨gb114, 2, none⟩ (.int .i64 ((rd_T93 l0 x8_1).f2)))) := ⟨xB HB⟩
    (try clear BK114)
    (try clear HB)
    generalize (((w35.setCell ⟨gb114, 0, none⟩ (.string ((rd_T93 l0 x8_1).f0))).setCell ⟨gb114, 1, none⟩ (.int .i64 ((rd_T93 l0 x8_1).f1))).setCell ⟨gb114, 2, none⟩ (.int .i64 ((rd_T93 l0 x8_1).f2))) = w37 at n0_ n1_ ⊢
    have BK114 := n0_
    have HB := n1_
    clear n0_ n1_
    replace BK114 := am (blk_drew BK114.out)
    replace HB := am (below_drew1 HB.out)
    refine start_ (n := 27) (S := cs3 gb114 (.string ((rd_T93 l0 x8_1).f0)) (.int .i64 ((rd_T93 l0 x8_1).f1)) (.int .i64 ((rd_T93 l0 x8_1).f2))) (ds := []) (bm 27 0) (by kernel_rfl) rfl rfl (bz3 BK114) (fun hHeld => ?_); refine with_tabW impl_RangeOk.tab5 impl_RangeOk.bits5 (fun HT_ HW_ => ?_)
    generalize w37.drew = w38 at BK114 HB hHeld ⊢
    refine tA 0 13 (bm 27 1) HT_ HW_ hHeld ?_
    refine oA 1 (some 14) (bm 27 3) HT_ fun K hK => ?_
    refine gA Tryz.func51 #[.agg #[.string ((rd_T93 l0 x8_1).f0), .int .i64 ((rd_T93 l0 x8_1).f1), .int .i64 ((rd_T93 l0 x8_1).f2)]] ?_
    with_reducible refine (impl_peakOk.calls k1 ((rd_T93 l0 x8_1).f0) ((rd_T93 l0 x8_1).f1) ((rd_T93 l0 x8_1).f2) false _ A5.out).mono ?_
    rintro e w39 ⟨rfl, hb⟩
    refine ⟨_, rfl, ?_⟩
    replace BK114 := kP _ BK114 hb
    replace HB := kH HB hb
    (try clear hb)
    (try clear hb2)
    (try clear hk)
    (try clear hi)
    refine hK.out _ _ (bz3 BK114) (fun hHeld => ?_)
    clear hK K
    refine nA (some 14) ?_
    refine pA 2 15 (bm 27 7) HT_ ?_
    refine pA 3 16 (bm 27 15) HT_ ?_
    refine pU 4 17 (bm 27 31) HT_ ?_
    refine pU 5 18 (bm 27 63) HT_ ?_
    refine pU 6 19 (bm 27 127) HT_ ?_
    refine pU 7 20 (bm 27 255) HT_ ?_
    refine pU 8 21 (bm 27 511) HT_ ?_
    refine pU 9 22 (bm 27 1023) HT_ ?_
    refine pU 10 23 (bm 27 2047) HT_ ?_
    refine pA 11 24 (bm 27 4095) HT_ ?_
    refine pA 12 25 (bm 27 8191) HT_ ?_
    refine pU 13 26 (bm 27 16383) HT_ ?_
    refine pU 14 27 (bm 27 32767) HT_ ?_
    refine pU 15 28 (bm 27 65535) HT_ ?_
    refine pU 16 29 (bm 27 131071) HT_ ?_
    refine pU 17 30 (bm 27 262143) HT_ ?_
    refine pU 18 31 (bm 27 524287) HT_ ?_
    refine pU 19 32 (bm 27 1048575) HT_ ?_
    refine pU 20 33 (bm 27 2097151) HT_ ?_
    refine pU 21 34 (bm 27 4194303) HT_ ?_
    refine pU 22 35 (bm 27 8388607) HT_ ?_
    refine pU 23 36 (bm 27 16777215) HT_ ?_
    refine pU 24 37 (bm 27 33554431) HT_ ?_
    refine pU 25 38 (bm 27 67108863) HT_ ?_
    refine pA 26 39 (bm 27 134217727) HT_ ?_
    refine done_ (done_of HT_.out (by kernel_rfl)) ?_
    try go_wp2
    go_ret
    exact ⟨xE, xB HB⟩
   subst c6
   rw [if_pos rfl] at H
   by_cases c7 : (Go.bits .and .i64 ((rd_T93 l0 x8_1).f2) (wrap64 (((rd_T93 l0 x8_1).f2) - 1))) = 0
   rotate_left
   ·rw [if_neg c7] at H
    have c7b0 := beq_eq_false_iff_ne.mpr c7
    have c7b1 := bne_iff_ne.mpr c7
    obtain rfl := oI H
    have p113 : 0 ≤ (x8_1 : Int) := oX
    have q113 : x8_1 < (l0.length : Int) := oX
    obtain ⟨ad113, e113, hx113_0, hx113_1, hx113_2⟩ := at_T93 (hC HB HR0.out) x8_1 p113 q113
    cases e113
    replace ⟨p113, q113⟩ := eT p113 q113
    try go_wp2_with ((with_reducible refine gg ?_); refine bE 5 #[.string (⟨#[]⟩ : ByteArray), .int .i64 0, .int .i64 0] 93 ?_; intro gb114 hg w30 hbox hb; have BK114 := am (hbox); have GW114 := zB hg HB; have GE114 := zB hg HB; replace HB := kH HB hb; clear hb hbox hg; have hz31 := bc3 BK114)
    have n0_ : Aside0 ((((w30.setCell ⟨gb114, 0, none⟩ (.string ((rd_T93 l0 x8_1).f0))).setCell ⟨gb114, 1, none⟩ (.int .i64 ((rd_T93 l0 x8_1).f1))).setCell ⟨gb114, 2, none⟩ (.int .i64 ((rd_T93 l0 x8_1).f2))).heap[gb114]? = some (.cells #[.string ((rd_T93 l0 x8_1).f0), .int .i64 ((rd_T93 l0 x8_1).f1), .int .i64 ((rd_T93 l0 x8_1).f2)] 93 (0, 0))) := ⟨fb BK114⟩
    have n1_ : Aside0 (Below w.heap.size w (((w30.setCell ⟨gb114, 0, none⟩ (.string ((rd_T93 l0 x8_1).f0))).setCell ⟨gb114, 1, none⟩ (.int .i64 ((rd_T93 l0 x8_1).f1))).setCell ⟨gb114, 2, none⟩ (.int .i64 ((rd_T93 l0 x8_1).f2)))) := ⟨xB HB⟩
    (try clear BK114)
    (try clear HB)
    generalize (((w30.setCell ⟨gb114, 0, none⟩ (.string ((rd_T93 l0 x8_1).f0))).setCell ⟨gb114, 1, none⟩ (.int .i64 ((rd_T93 l0 x8_1).f1))).setCell ⟨gb114, 2, none⟩ (.int .i64 ((rd_T93 l0 x8_1).f2))) = w32 at n0_ n1_ ⊢
    have BK114 := n0_
    have HB := n1_
    clear n0_ n1_
    replace BK114 := am (blk_drew BK114.out)
    replace HB := am (below_drew1 HB.out)
    refine start_ (n := 27) (S := cs3 gb114 (.string ((rd_T93 l0 x8_1).f0)) (.int .i64 ((rd_T93 l0 x8_1).f1)) (.int .i64 ((rd_T93 l0 x8_1).f2))) (ds := []) (bm 27 0) (by kernel_rfl) rfl rfl (bz3 BK114) (fun hHeld => ?_); refine with_tabW impl_RangeOk.tab5 impl_RangeOk.bits5 (fun HT_ HW_ => ?_)
    generalize w32.drew = w33 at BK114 HB hHeld ⊢
    refine tA 0 13 (bm 27 1) HT_ HW_ hHeld ?_
    refine oA 1 (some 14) (bm 27 3) HT_ fun K hK => ?_
    refine gA Tryz.func51 #[.agg #[.string ((rd_T93 l0 x8_1).f0), .int .i64 ((rd_T93 l0 x8_1).f1), .int .i64 ((rd_T93 l0 x8_1).f2)]] ?_
    with_reducible refine (impl_peakOk.calls k1 ((rd_T93 l0 x8_1).f0) ((rd_T93 l0 x8_1).f1) ((rd_T93 l0 x8_1).f2) true _ A5.out).mono ?_
    rintro e w34 ⟨rfl, hb⟩
    refine ⟨_, rfl, ?_⟩
    replace BK114 := kP _ BK114 hb
    replace HB := kH HB hb
    (try clear hb)
    (try clear hb2)
    (try clear hk)
    (try clear hi)
    refine hK.out _ _ (bz3 BK114) (fun hHeld => ?_)
    clear hK K
    refine nA (some 14) ?_
    refine pA 2 15 (bm 27 7) HT_ ?_
    refine pA 3 16 (bm 27 15) HT_ ?_
    refine pA 4 17 (bm 27 31) HT_ ?_
    refine pA 6 19 (bm 27 95) HT_ ?_
    refine tA 5 18 (bm 27 127) HT_ HW_ hHeld ?_
    refine tA 7 20 (bm 27 255) HT_ HW_ hHeld ?_
    refine pA 8 21 (bm 27 511) HT_ ?_
    refine pA 9 22 (bm 27 1023) HT_ ?_
    refine pA 10 23 (bm 27 2047) HT_ ?_
    refine pA 11 24 (bm 27 4095) HT_ ?_
    refine pA 12 25 (bm 27 8191) HT_ ?_
    refine pU 13 26 (bm 27 16383) HT_ ?_
    refine pU 14 27 (bm 27 32767) HT_ ?_
    refine pU 15 28 (bm 27 65535) HT_ ?_
    refine pU 16 29 (bm 27 131071) HT_ ?_
    refine pU 17 30 (bm 27 262143) HT_ ?_
    refine pU 18 31 (bm 27 524287) HT_ ?_
    refine pU 19 32 (bm 27 1048575) HT_ ?_
    refine pU 20 33 (bm 27 2097151) HT_ ?_
    refine pU 21 34 (bm 27 4194303) HT_ ?_
    refine pU 22 35 (bm 27 8388607) HT_ ?_
    refine pU 23 36 (bm 27 16777215) HT_ ?_
    refine pU 24 37 (bm 27 33554431) HT_ ?_
    refine pU 25 38 (bm 27 67108863) HT_ ?_
    refine pA 26 39 (bm 27 134217727) HT_ ?_
    refine done_ (done_of HT_.out (by kernel_rfl)) ?_
    try go_wp2
    go_ret
    exact ⟨xE, xB HB⟩
   rw [if_pos c7] at H
   have c7b0 := beq_iff_eq.mpr c7
   have c7b1 := bne_eq_false_iff_eq.mpr c7
   clear c7
   by_cases c8 : x8_1 > 0
   rotate_left
   ·rw [if_neg c8] at H
    have c8b0 := df c8
    clear c8
    have H' := am H
    clear H
    have p113 : 0 ≤ (x8_1 : Int) := oX
    have q113 : x8_1 < (l0.length : Int) := oX
    obtain ⟨ad113, e113, hx113_0, hx113_1, hx113_2⟩ := at_T93 (hC HB HR0.out) x8_1 p113 q113
    cases e113
    replace ⟨p113, q113⟩ := eT p113 q113
    try go_wp2_with ((with_reducible refine gg ?_); refine bE 5 #[.string (⟨#[]⟩ : ByteArray), .int .i64 0, .int .i64 0] 93 ?_; intro gb114 hg w24 hbox hb; have BK114 := am (hbox); have GW114 := zB hg HB; have GE114 := zB hg HB; replace HB := kH HB hb; clear hb hbox hg; have hz25 := bc3 BK114)
    have n0_ : Aside0 ((((w24.setCell ⟨gb114, 0, none⟩ (.string ((rd_T93 l0 x8_1).f0))).setCell ⟨gb114, 1, none⟩ (.int .i64 ((rd_T93 l0 x8_1).f1))).setCell ⟨gb114, 2, none⟩ (.int .i64 ((rd_T93 l0 x8_1).f2))).heap[gb114]? = some (.cells #[.string ((rd_T93 l0 x8_1).f0), .int .i64 ((rd_T93 l0 x8_1).f1), .int .i64 ((rd_T93 l0 x8_1).f2)] 93 (0, 0))) := ⟨fb BK114⟩
    have n1_ : Aside0 (Below w.heap.size w (((w24.setCell ⟨gb114, 0, none⟩ (.string ((rd_T93 l0 x8_1).f0))).setCell ⟨gb114, 1, none⟩ (.int .i64 ((rd_T93 l0 x8_1).f1))).setCell ⟨gb114, 2, none⟩ (.int .i64 ((rd_T93 l0 x8_1).f2)))) := ⟨xB HB⟩
    (try clear BK114)
    (try clear HB)
    generalize (((w24.setCell ⟨gb114, 0, none⟩ (.string ((rd_T93 l0 x8_1).f0))).setCell ⟨gb114, 1, none⟩ (.int .i64 ((rd_T93 l0 x8_1).f1))).setCell ⟨gb114, 2, none⟩ (.int .i64 ((rd_T93 l0 x8_1).f2))) = w26 at n0_ n1_ ⊢
    have BK114 := n0_
    have HB := n1_
    clear n0_ n1_
    replace BK114 := am (blk_drew BK114.out)
    replace HB := am (below_drew1 HB.out)
    refine start_ (n := 27) (S := cs3 gb114 (.string ((rd_T93 l0 x8_1).f0)) (.int .i64 ((rd_T93 l0 x8_1).f1)) (.int .i64 ((rd_T93 l0 x8_1).f2))) (ds := []) (bm 27 0) (by kernel_rfl) rfl rfl (bz3 BK114) (fun hHeld => ?_); refine with_tabW impl_RangeOk.tab5 impl_RangeOk.bits5 (fun HT_ HW_ => ?_)
    generalize w26.drew = w27 at BK114 HB hHeld ⊢
    refine tA 0 13 (bm 27 1) HT_ HW_ hHeld ?_
    refine oA 1 (some 14) (bm 27 3) HT_ fun K hK => ?_
    refine gA Tryz.func51 #[.agg #[.string ((rd_T93 l0 x8_1).f0), .int .i64 ((rd_T93 l0 x8_1).f1), .int .i64 ((rd_T93 l0 x8_1).f2)]] ?_
    with_reducible refine (impl_peakOk.calls k1 ((rd_T93 l0 x8_1).f0) ((rd_T93 l0 x8_1).f1) ((rd_T93 l0 x8_1).f2) true _ A5.out).mono ?_
    rintro e w28 ⟨rfl, hb⟩
    refine ⟨_, rfl, ?_⟩
    replace BK114 := kP _ BK114 hb
    replace HB := kH HB hb
    (try clear hb)
    (try clear hb2)
    (try clear hk)
    (try clear hi)
    refine hK.out _ _ (bz3 BK114) (fun hHeld => ?_)
    clear hK K
    refine nA (some 14) ?_
    refine pA 2 15 (bm 27 7) HT_ ?_
    refine pA 3 16 (bm 27 15) HT_ ?_
    refine pA 4 17 (bm 27 31) HT_ ?_
    refine pA 6 19 (bm 27 95) HT_ ?_
    refine tA 5 18 (bm 27 127) HT_ HW_ hHeld ?_
    refine tA 7 20 (bm 27 255) HT_ HW_ hHeld ?_
    refine pA 8 21 (bm 27 511) HT_ ?_
    refine pA 9 22 (bm 27 1023) HT_ ?_
    refine pA 10 23 (bm 27 2047) HT_ ?_
    refine pA 11 24 (bm 27 4095) HT_ ?_
    refine pA 12 25 (bm 27 8191) HT_ ?_
    refine pA 13 26 (bm 27 16383) HT_ ?_
    refine pA 14 27 (bm 27 32767) HT_ ?_
    refine pA 15 28 (bm 27 65535) HT_ ?_
    refine pU 16 29 (bm 27 131071) HT_ ?_
    refine pU 17 30 (bm 27 262143) HT_ ?_
    refine pU 18 31 (bm 27 524287) HT_ ?_
    refine pU 19 32 (bm 27 1048575) HT_ ?_
    refine pU 20 33 (bm 27 2097151) HT_ ?_
    refine pU 21 34 (bm 27 4194303) HT_ ?_
    refine pU 22 35 (bm 27 8388607) HT_ ?_
    refine pU 23 36 (bm 27 16777215) HT_ ?_
    refine pU 24 37 (bm 27 33554431) HT_ ?_
    refine pA 25 38 (bm 27 67108863) HT_ ?_
    refine pA 26 39 (bm 27 134217727) HT_ ?_
    refine done_ (done_of HT_.out (by kernel_rfl)) ?_
    have hz29 := bc3 BK114
    try go_wp2
    go_roundg k1
    case measure => have := HK1.out; omega
    case rel => exact ⟨(wrap64 (x3_1 + ((rd_T93 l0 x8_1).f2))), (wrap64 (x8_1 + 1)), xR, xR, H', ⟨xL HK1⟩, ⟨xB HB⟩⟩
   rw [if_pos c8] at H
   have c8b0 := dt c8
   clear c8
   obtain ⟨ji9, hji9⟩ := je (wrap64 (x8_1 - 1))
   first | rw [hji9] at H | simp only [hji9] at H
   (try rw [hji9] at A5)
   have hji9w : (IntKind.i64.wrap (x8_1 - 1)) = ji9 := (i64_w _).trans hji9
   replace ⟨c10b0, H⟩ := ipd H
   replace ⟨c11b0, H⟩ := ipd H
   have p113 : 0 ≤ (x8_1 : Int) := oX
   have q113 : x8_1 < (l0.length : Int) := oX
   obtain ⟨ad113, e113, hx113_0, hx113_1, hx113_2⟩ := at_T93 (hC HB HR0.out) x8_1 p113 q113
   cases e113
   replace ⟨p113, q113⟩ := eT p113 q113
   try go_wp2_with ((with_reducible refine gg ?_); refine bE 5 #[.string (⟨#[]⟩ : ByteArray), .int .i64 0, .int .i64 0] 93 ?_; intro gb114 hg w13 hbox hb; have BK114 := am (hbox); have GW114 := zB hg HB; have GE114 := zB hg HB; replace HB := kH HB hb; clear hb hbox hg; have hz14 := bc3 BK114)
   have n0_ : Aside0 ((((w13.setCell ⟨gb114, 0, none⟩ (.string ((rd_T93 l0 x8_1).f0))).setCell ⟨gb114, 1, none⟩ (.int .i64 ((rd_T93 l0 x8_1).f1))).setCell ⟨gb114, 2, none⟩ (.int .i64 ((rd_T93 l0 x8_1).f2))).heap[gb114]? = some (.cells #[.string ((rd_T93 l0 x8_1).f0), .int .i64 ((rd_T93 l0 x8_1).f1), .int .i64 ((rd_T93 l0 x8_1).f2)] 93 (0, 0))) := ⟨fb BK114⟩
   have n1_ : Aside0 (Below w.heap.size w (((w13.setCell ⟨gb114, 0, none⟩ (.string ((rd_T93 l0 x8_1).f0))).setCell ⟨gb114, 1, none⟩ (.int .i64 ((rd_T93 l0 x8_1).f1))).setCell ⟨gb114, 2, none⟩ (.int .i64 ((rd_T93 l0 x8_1).f2)))) := ⟨xB HB⟩
   (try clear BK114)
   (try clear HB)
   generalize (((w13.setCell ⟨gb114, 0, none⟩ (.string ((rd_T93 l0 x8_1).f0))).setCell ⟨gb114, 1, none⟩ (.int .i64 ((rd_T93 l0 x8_1).f1))).setCell ⟨gb114, 2, none⟩ (.int .i64 ((rd_T93 l0 x8_1).f2))) = w15 at n0_ n1_ ⊢
   have BK114 := n0_
   have HB := n1_
   clear n0_ n1_
   replace BK114 := am (blk_drew BK114.out)
   replace HB := am (below_drew1 HB.out)
   have p116 : 0 ≤ ((ji9) : Int) := oX
   have q116 : (ji9) < (l0.length : Int) := oX
   obtain ⟨ad116, e116, hx116_0, hx116_1, hx116_2⟩ := at_T93 HR0.out (ji9) p116 q116
   have hw116_2 := hx116_2
   have hw116_1 := hx116_1
   have hw116_0 := hx116_0
   obtain rfl : ad113 = ad116 := (by injection e116)
   replace hx116_0 := hc HB hx116_0
   replace hx116_1 := hc HB hx116_1
   replace hx116_2 := hc HB hx116_2
   replace ⟨p116, q116⟩ := eT p116 q116
   refine start_ (n := 27) (S := fun w' => w'.cell? ⟨gb114, 0, none⟩ = some (.string ((rd_T93 l0 x8_1).f0)) ∧ w'.cell? ⟨gb114, 1, none⟩ = some (.int .i64 ((rd_T93 l0 x8_1).f1)) ∧ w'.cell? ⟨gb114, 2, none⟩ = some (.int .i64 ((rd_T93 l0 x8_1).f2)) ∧ w'.cell? (ad113.add (((ji9)).toNat * 3)) = some (.string ((rd_T93 l0 (ji9)).f0)) ∧ w'.cell? ⟨(ad113.add (((ji9)).toNat * 3)).block, (ad113.add (((ji9)).toNat * 3)).off + 1, none⟩ = some (.int .i64 ((rd_T93 l0 (ji9)).f1)) ∧ w'.cell? ⟨(ad113.add (((ji9)).toNat * 3)).block, (ad113.add (((ji9)).toNat * 3)).off + 2, none⟩ = some (.int .i64 ((rd_T93 l0 (ji9)).f2))) (ds := []) (bm 27 0) (by kernel_rfl) rfl rfl ⟨(blk_cell BK114.out 0).trans rfl, (blk_cell BK114.out 1).trans rfl, (blk_cell BK114.out 2).trans rfl, (hd HB hw116_0), (hd HB hw116_1), (hd HB hw116_2)⟩ (fun hHeld => ?_); refine with_tabW impl_RangeOk.tab5 impl_RangeOk.bits5 (fun HT_ HW_ => ?_)
   generalize w15.drew = w16 at BK114 HB hx116_0 hx116_1 hx116_2 hHeld ⊢
   refine tA 0 13 (bm 27 1) HT_ HW_ hHeld ?_
   refine oA 1 (some 14) (bm 27 3) HT_ fun K hK => ?_
   refine gA Tryz.func51 #[.agg #[.string ((rd_T93 l0 x8_1).f0), .int .i64 ((rd_T93 l0 x8_1).f1), .int .i64 ((rd_T93 l0 x8_1).f2)]] ?_
   with_reducible refine (impl_peakOk.calls k1 ((rd_T93 l0 x8_1).f0) ((rd_T93 l0 x8_1).f1) ((rd_T93 l0 x8_1).f2) true _ A5.out).mono ?_
   rintro e w17 ⟨rfl, hb⟩
   refine ⟨_, rfl, ?_⟩
   replace BK114 := kP _ BK114 hb
   replace HB := kH HB hb
   (try clear hb)
   (try clear hb2)
   (try clear hk)
   (try clear hi)
   refine hK.out _ _ ⟨(blk_cell BK114.out 0).trans rfl, (blk_cell BK114.out 1).trans rfl, (blk_cell BK114.out 2).trans rfl, (hd HB hw116_0), (hd HB hw116_1), (hd HB hw116_2)⟩ (fun hHeld => ?_)
   clear hK K
   refine nA (some 14) ?_
   refine pA 2 15 (bm 27 7) HT_ ?_
   refine pA 3 16 (bm 27 15) HT_ ?_
   refine pA 4 17 (bm 27 31) HT_ ?_
   refine pA 6 19 (bm 27 95) HT_ ?_
   refine tA 5 18 (bm 27 127) HT_ HW_ hHeld ?_
   refine tA 7 20 (bm 27 255) HT_ HW_ hHeld ?_
   refine pA 8 21 (bm 27 511) HT_ ?_
   refine pA 9 22 (bm 27 1023) HT_ ?_
   refine pA 10 23 (bm 27 2047) HT_ ?_
   refine pA 11 24 (bm 27 4095) HT_ ?_
   refine pA 12 25 (bm 27 8191) HT_ ?_
   refine pA 13 26 (bm 27 16383) HT_ ?_
   refine pA 14 27 (bm 27 32767) HT_ ?_
   refine pA 15 28 (bm 27 65535) HT_ ?_
   refine pA 16 29 (bm 27 131071) HT_ ?_
   refine pA 18 31 (bm 27 393215) HT_ ?_
   refine pA 19 32 (bm 27 917503) HT_ ?_
   refine pA 20 33 (bm 27 1966079) HT_ ?_
   refine pA 21 34 (bm 27 4063231) HT_ ?_
   refine pA 22 35 (bm 27 8257535) HT_ ?_
   refine tA 17 30 (bm 27 8388607) HT_ HW_ hHeld ?_
   refine tA 23 36 (bm 27 16777215) HT_ HW_ hHeld ?_
   refine pA 24 37 (bm 27 33554431) HT_ ?_
   refine pA 25 38 (bm 27 67108863) HT_ ?_
   refine pA 26 39 (bm 27 134217727) HT_ ?_
   refine done_ (done_of HT_.out (by kernel_rfl)) ?_
   by_cases c12 : ((rd_T93 l0 x8_1).f2) ≥ ((rd_T93 l0 (ji9)).f2)
   ·rw [if_pos c12] at H
    have c12b0 := dt c12
    try simp only [c12b0, Bool.not_true, Bool.not_false]
    clear c12
    obtain rfl := oI H
    try go_wp2
    go_ret
    exact ⟨by first | rfl | (simp [errW_none, errW_some] <;> rfl) | (simp only [← hji9]; first | rfl | (simp [errW_none, errW_some] <;> rfl)) | (simp [*, errW_none, errW_some] <;> rfl), xB HB⟩
   rw [if_neg c12] at H
   have c12b0 := df c12
   try simp only [c12b0, Bool.not_true, Bool.not_false]
   clear c12
   have H' := am H
   clear H
   have hz23 := bc3 BK114
   try go_wp2
   go_roundg k1
   case measure => have := HK1.out; omega
   case rel => exact ⟨(wrap64 (x3_1 + ((rd_T93 l0 x8_1).f2))), (wrap64 (x8_1 + 1)), xR, xR, H', ⟨xL HK1⟩, ⟨xB HB⟩⟩
open Kd
set_option linter.unusedVariables false
set_option linter.unusedSimpArgs false
set_option maxHeartbeats 64000000
set_option maxRecDepth 100000
mutual
def impl_paidOk.j0 : Nat → Bool → Int → ByteArray → ByteArray → Int → Int → Int → List S93 → List S93 → List S48 → Option (Bool)
 | 0, _, _, _, _, _, _, _, _, _, _ => none
 | k + 1, x36, x118000, x118001, x118002, x118003, x118004, x118005, x118006, x118007, x118008 => if x36 = true then (some false) else (impl_paidOk.l0 k x118007 (x118007.length : Int) 0 x118000 x118001 x118002 x118003 x118004 x118005 x118006 x118007 x118008)
def impl_paidOk.l0 : Nat → List S93 → Int → Int → Int → ByteArray → ByteArray → Int → Int → Int → List S93 → List S93 → List S48 → Option (Bool)
 | 0, _, _, _, _, _, _, _, _, _, _, _, _ => none
 | k + 1, x39, x40, x41, x118000, x118001, x118002, x118003, x118004, x118005, x118006, x118007, x118008 => if x41 < x40 then (if 0 ≤ x41 then (if x41 < (x39.length : Int) then ((impl_peakOk.f k ((rd_T93 x39 x41).f0) ((rd_T93 x39 x41).f1) ((rd_T93 x39 x41).f2)).bind fun t123 => (if t123 = true then (impl_paidOk.l0 k x39 x40 (wrap64 (x41 + 1)) x118000 x118001 x118002 x118003 x118004 x118005 x118006 x118007 x118008) else (some false))) else (none)) else (none)) else (impl_paidOk.l1 k x118008 (x118008.length : Int) 0)
def impl_paidOk.l1 : Nat → List S48 → Int → Int → Option (Bool)
 | 0, _, _, _ => none
 | k + 1, x50, x51, x52 => if x52 < x51 then (if 0 ≤ x52 then (if x52 < (x50.length : Int) then ((impl_isSum.f k ((rd_T48 x50 x52).f0)).bind fun t126 => (if t126 = true then (impl_paidOk.l1 k x50 x51 (wrap64 (x52 + 1))) else (some false))) else (none)) else (none)) else (some true)
end
def impl_paidOk.f (k : Nat) (a0_0 : Int) (a0_1 : ByteArray) (a0_2 : ByteArray) (a0_3 : Int) (a0_4 : Int) (a0_5 : Int) (l0_6 : List S93) (l0_7 : List S93) (l0_8 : List S48) : Option (Bool) := (impl_in.f a0_0 0 19).bind fun t118 => (if t118 = true then ((impl_headOk.f k a0_1 a0_2 a0_3 a0_4 a0_5).bind fun t119 => (if t119 = true then ((impl_RangeOk.f k l0_6).bind fun t120 => (if t120 = true then (if (l0_7.length : Int) > 8 then (impl_paidOk.j0 k true a0_0 a0_1 a0_2 a0_3 a0_4 a0_5 l0_6 l0_7 l0_8) else (impl_paidOk.j0 k (decide ((l0_8.length : Int) > 8)) a0_0 a0_1 a0_2 a0_3 a0_4 a0_5 l0_6 l0_7 l0_8)) else (impl_paidOk.j0 k true a0_0 a0_1 a0_2 a0_3 a0_4 a0_5 l0_6 l0_7 l0_8))) else (impl_paidOk.j0 k true a0_0 a0_1 a0_2 a0_3 a0_4 a0_5 l0_6 l0_7 l0_8))) else (impl_paidOk.j0 k true a0_0 a0_1 a0_2 a0_3 a0_4 a0_5 l0_6 l0_7 l0_8))
theorem impl_paidOk.calls (k : Nat) (a0_0 : Int) (a0_1 : ByteArray) (a0_2 : ByteArray) (a0_3 : Int) (a0_4 : Int) (a0_5 : Int) (A0_6 : Option Addr) (c0_6 : Nat) (l0_6 : List S93) (A0_7 : Option Addr) (c0_7 : Nat) (l0_7 : List S93) (A0_8 : Option Addr) (c0_8 : Nat) (l0_8 : List S48) (r : Bool) (w : World) (hr0_6 : Kd.C k93 w A0_6 l0_6.length l0_6) (hc0_6 : l0_6.length ≤ c0_6) (hr0_7 : Kd.C k93 w A0_7 l0_7.length l0_7) (hc0_7 : l0_7.length ≤ c0_7) (hr0_8 : Kd.C k48 w A0_8 l0_8.length l0_8) (hc0_8 : l0_8.length ≤ c0_8) (h : impl_paidOk.f k a0_0 a0_1 a0_2 a0_3 a0_4 a0_5 l0_6 l0_7 l0_8 = some r) :
  Calls Tryz.prog 18 #[.agg #[.int .i64 a0_0, .string a0_1, .string a0_2, .int .i64 a0_3, .int .i64 a0_4, .int .i64 a0_5, .slice A0_6 l0_6.length c0_6, .slice A0_7 l0_7.length c0_7, .slice A0_8 l0_8.length c0_8]] w fun e w' => e = .returned (.bool r) ∧ Below w.heap.size w w' := by
 have hu30 := Tryz.underlying30
 have hu24 := Tryz.underlying24
 have hu93 := Tryz.underlying93
 have hu48 := Tryz.underlying48
 have HR0_6 := am hr0_6
 have HC0_6 := am hc0_6
 clear hr0_6 hc0_6
 have HR0_7 := am hr0_7
 have HC0_7 := am hc0_7
 clear hr0_7 hc0_7
 have HR0_8 := am hr0_8
 have HC0_8 := am hc0_8
 clear hr0_8 hc0_8
 have HB := am (Below.refl w.heap.size w)
 have H : ((impl_in.f a0_0 0 19).bind fun t118 => (if t118 = true then ((impl_headOk.f k a0_1 a0_2 a0_3 a0_4 a0_5).bind fun t119 => (if t119 = true then ((impl_RangeOk.f k l0_6).bind fun t120 => (if t120 = true then (if (l0_7.length : Int) > 8 then (impl_paidOk.j0 k true a0_0 a0_1 a0_2 a0_3 a0_4 a0_5 l0_6 l0_7 l0_8) else (impl_paidOk.j0 k (decide ((l0_8.length : Int) > 8)) a0_0 a0_1 a0_2 a0_3 a0_4 a0_5 l0_6 l0_7 l0_8)) else (impl_paidOk.j0 k true a0_0 a0_1 a0_2 a0_3 a0_4 a0_5 l0_6 l0_7 l0_8))) else (impl_paidOk.j0 k true a0_0 a0_1 a0_2 a0_3 a0_4 a0_5 l0_6 l0_7 l0_8))) else (impl_paidOk.j0 k true a0_0 a0_1 a0_2 a0_3 a0_4 a0_5 l0_6 l0_7 l0_8))) = some r := h
 clear h
 have HC2 := am H
 clear H
 go_enter Tryz.func18, Tryz.ntmps18
 go_upto_region 1 with ((with_reducible refine gate_dst (N := 1) rfl ?_); (try (refine gate_guard (by rfl) ?_; dsimp only)); refine box_event ?hg (N := 1) ?hd (cs := #[.int .i64 a0_0, .string a0_1, .string a0_2, .int .i64 a0_3, .int .i64 a0_4, .int .i64 a0_5, .slice A0_6 l0_6.length c0_6, .slice A0_7 l0_7.length c0_7, .slice A0_8 l0_8.length c0_8]) (t := 30) ?hr ?_; (case hd => rfl); (case hg => rfl); (case hr => first | (go_simp; done) | (go_simp; rfl)); intro gb117 hg w3 hbox hb; have BK117 := am (hbox); have GW117 := zB hg HB; have GE117 := zB hg HB; replace HB := kH HB hb; clear hb hbox hg)
 (try simp only [Act.put, sa, s0, s1])
 go_cut [36] (fun v36 wc => ∃ (kq : Nat) (x36_1 : Bool), v36 = .bool x36_1 ∧ Aside0 (impl_paidOk.j0 kq x36_1 a0_0 a0_1 a0_2 a0_3 a0_4 a0_5 l0_6 l0_7 l0_8 = some r) ∧ Aside0 (kq ≤ k) ∧ Aside0 (wc.heap[gb117]? = some (.cells #[.int .i64 a0_0, .string a0_1, .string a0_2, .int .i64 a0_3, .int .i64 a0_4, .int .i64 a0_5, (.slice A0_6 l0_6.length c0_6), (.slice A0_7 l0_7.length c0_7), (.slice A0_8 l0_8.length c0_8)] 30 (0, 0))) ∧ Aside0 (Below w.heap.size w wc))
 case first =>
  have H := HC2.out
  clear HC2
  replace ⟨t118, A4, H⟩ := oa H
  by_cases c5 : t118 = true
  rotate_left
  ·replace c5 := bF c5
   subst c5
   rw [if_neg nF] at H
   have H' := am H
   clear H
   have hz27 := bc9 BK117
   go_wp2_with ((with_reducible refine gg ?_); refine gL 9 Tryz.func33 #[.int .i64 a0_0, .int .i64 0, .int .i64 19] ?_; (with_reducible refine (impl_in.calls a0_0 0 19 false _ A4.out).mono ?_); rintro e w' ⟨rfl, ⟨nd, rfl⟩⟩; refine ⟨_, rfl, ?_⟩)
   go_meet
   case rel => exact ⟨_, (true), xR, H', ⟨xO⟩, ⟨kb BK117⟩, ⟨xB HB⟩⟩
  subst c5
  rw [if_pos rfl] at H
  replace ⟨t119, A6, H⟩ := oa H
  by_cases c7 : t119 = true
  rotate_left
  ·replace c7 := bF c7
   subst c7
   rw [if_neg nF] at H
   have H' := am H
   clear H
   have hz25 := bc9 BK117
   go_wp2_with (first | ((with_reducible refine gg ?_); refine gL 9 Tryz.func33 #[.int .i64 a0_0, .int .i64 0, .int .i64 19] ?_; (with_reducible refine (impl_in.calls a0_0 0 19 true _ A4.out).mono ?_); rintro e w' ⟨rfl, ⟨nd, rfl⟩⟩; refine ⟨_, rfl, ?_⟩) | (go_at_call 49; (with_reducible refine (impl_headOk.calls k a0_1 a0_2 a0_3 a0_4 a0_5 false _ A6.out).mono ?_); rintro e w26 ⟨rfl, hb⟩; replace BK117 := kP _ BK117 hb; replace HB := kH HB hb; (try clear hb)))
   go_meet
   case rel => exact ⟨_, (true), xR, H', ⟨xO⟩, ⟨kb BK117⟩, ⟨xB HB⟩⟩
  subst c7
  rw [if_pos rfl] at H
  replace ⟨t120, A8, H⟩ := oa H
  by_cases c9 : t120 = true
  rotate_left
  ·replace c9 := bF c9
   subst c9
   rw [if_neg nF] at H
   have H' := am H
   clear H
   have hz21 := bc9 BK117
   go_wp2_with (first | ((with_reducible refine gg ?_); refine gL 9 Tryz.func33 #[.int .i64 a0_0, .int .i64 0, .int .i64 19] ?_; (with_reducible refine (impl_in.calls a0_0 0 19 true _ A4.out).mono ?_); rintro e w' ⟨rfl, ⟨nd, rfl⟩⟩; refine ⟨_, rfl, ?_⟩) | (go_at_call 49; (with_reducible refine (impl_headOk.calls k a0_1 a0_2 a0_3 a0_4 a0_5 true _ A6.out).mono ?_); rintro e w22 ⟨rfl, hb⟩; replace BK117 := kP _ BK117 hb; replace HB := kH HB hb; (try clear hb); have hz23 := bc9 BK117) | (go_at_call 50; (with_reducible refine (impl_RangeOk.calls k _ _ l0_6 false _ ?side1 ?side2 A8.out).mono ?_); (case side1 => exact cb HR0_6 HB); (case side2 => exact HC0_6.out); rintro e w24 ⟨rfl, hb⟩; replace BK117 := kP _ BK117 hb; replace HB := kH HB hb; (try clear hb)))
   go_meet
   case rel => exact ⟨_, (true), xR, H', ⟨xO⟩, ⟨kb BK117⟩, ⟨xB HB⟩⟩
  subst c9
  rw [if_pos rfl] at H
  by_cases c10 : (l0_7.length : Int) > 8
  ·rw [if_pos c10] at H
   have c10b0 := dt c10
   have c10b1 : decide (8 < l0_7.length) = true := dt (by omega)
   clear c10
   (first | rw [c10b0] | rw [c10b1] | (simp only [i64_w, i32_w]; rw [c10b0]) | skip)
   have H' := am H
   clear H
   have hz11 := bc9 BK117
   go_wp2_with (first | ((with_reducible refine gg ?_); refine gL 9 Tryz.func33 #[.int .i64 a0_0, .int .i64 0, .int .i64 19] ?_; (with_reducible refine (impl_in.calls a0_0 0 19 true _ A4.out).mono ?_); rintro e w' ⟨rfl, ⟨nd, rfl⟩⟩; refine ⟨_, rfl, ?_⟩) | (go_at_call 49; (with_reducible refine (impl_headOk.calls k a0_1 a0_2 a0_3 a0_4 a0_5 true _ A6.out).mono ?_); rintro e w12 ⟨rfl, hb⟩; replace BK117 := kP _ BK117 hb; replace HB := kH HB hb; (try clear hb); have hz13 := bc9 BK117) | (go_at_call 50; (with_reducible refine (impl_RangeOk.calls k _ _ l0_6 true _ ?side1 ?side2 A8.out).mono ?_); (case side1 => exact cb HR0_6 HB); (case side2 => exact HC0_6.out); rintro e w14 ⟨rfl, hb⟩; replace BK117 := kP _ BK117 hb; replace HB := kH HB hb; (try clear hb); have hz15 := bc9 BK117))
   go_meet
   case rel => exact ⟨_, (true), xR, H', ⟨xO⟩, ⟨kb BK117⟩, ⟨xB HB⟩⟩
  rw [if_neg c10] at H
  have c10b0 := df c10
  have c10b1 : decide (8 < l0_7.length) = false := decide_eq_false (by omega)
  clear c10
  (first | rw [c10b0] | rw [c10b1] | (simp only [i64_w, i32_w]; rw [c10b0]) | skip)
  have H' := am H
  clear H
  have hz16 := bc9 BK117
  go_wp2_with (first | ((with_reducible refine gg ?_); refine gL 9 Tryz.func33 #[.int .i64 a0_0, .int .i64 0, .int .i64 19] ?_; (with_reducible refine (impl_in.calls a0_0 0 19 true _ A4.out).mono ?_); rintro e w' ⟨rfl, ⟨nd, rfl⟩⟩; refine ⟨_, rfl, ?_⟩) | (go_at_call 49; (with_reducible refine (impl_headOk.calls k a0_1 a0_2 a0_3 a0_4 a0_5 true _ A6.out).mono ?_); rintro e w17 ⟨rfl, hb⟩; replace BK117 := kP _ BK117 hb; replace HB := kH HB hb; (try clear hb); have hz18 := bc9 BK117) | (go_at_call 50; (with_reducible refine (impl_RangeOk.calls k _ _ l0_6 true _ ?side1 ?side2 A8.out).mono ?_); (case side1 => exact cb HR0_6 HB); (case side2 => exact HC0_6.out); rintro e w19 ⟨rfl, hb⟩; replace BK117 := kP _ BK117 hb; replace HB := kH HB hb; (try clear hb); have hz20 := bc9 BK117))
  go_meet
  case rel => exact ⟨_, (decide ((l0_8.length : Int) > 8)), xR, H', ⟨xO⟩, ⟨kb BK117⟩, ⟨xB HB⟩⟩
 case rest =>
  clear HC2
  obtain ⟨kq, x36_1, rfl, HA, HJ1, BK117, HB⟩ := hcut
  cases kq with
  | zero => exact absurd HA.out (by simp [impl_paidOk.j0])
  | succ kj1 =>
   have H := HA.out
   clear HA
   simp only [impl_paidOk.j0] at H
   by_cases c28 : x36_1 = true
   ·subst c28
    rw [if_pos rfl] at H
    obtain rfl := oI H
    go_wp2
    go_ret
    exact ⟨xE, xB HB⟩
   replace c28 := bF c28
   subst c28
   rw [if_neg nF] at H
   have H' := am H
   clear H
   have hz29 := bc9 BK117
   go_wp2
   go_loopg [41] kj1 (fun kq v41 w' => ∃ (x41_2 : Int), v41 = .int .i64 x41_2 ∧ Aside0 (impl_paidOk.l0 kq l0_7 (l0_7.length : Int) x41_2 a0_0 a0_1 a0_2 a0_3 a0_4 a0_5 l0_6 l0_7 l0_8 = some r) ∧ Aside0 (kq ≤ kj1) ∧ Aside0 (w'.heap[gb117]? = some (.cells #[.int .i64 a0_0, .string a0_1, .string a0_2, .int .i64 a0_3, .int .i64 a0_4, .int .i64 a0_5, (.slice A0_6 l0_6.length c0_6), (.slice A0_7 l0_7.length c0_7), (.slice A0_8 l0_8.length c0_8)] 30 (0, 0))) ∧ Aside0 (Below w.heap.size w w'))
   case atStart => exact ⟨(0), xR, H', ⟨Nat.le_refl _⟩, ⟨kb BK117⟩, ⟨xB HB⟩⟩
   case round =>
    clear H'
    try clear c28 hz29
    obtain ⟨x41_2, rfl, HA, HK2, BK117, HB⟩ := hrel
    cases gk with
    | zero => exact absurd HA.out (by simp [impl_paidOk.l0])
    | succ k2 =>
     have H := HA.out
     clear HA
     simp only [impl_paidOk.l0] at H
     by_cases c30 : x41_2 < (l0_7.length : Int)
     ·rw [if_pos c30] at H
      have c30b0 := dt c30
      clear c30
      replace ⟨c31b0, H⟩ := ipd H
      replace ⟨c32b0, H⟩ := ipd H
      replace ⟨t123, A33, H⟩ := oa H
      have p121 : 0 ≤ (x41_2 : Int) := oX
      have q121 : x41_2 < (l0_7.length : Int) := oX
      obtain ⟨ad121, e121, hx121_0, hx121_1, hx121_2⟩ := at_T93 (hC HB HR0_7.out) x41_2 p121 q121
      cases e121
      replace ⟨p121, q121⟩ := eT p121 q121
      go_upto_if 47 with (first | ((with_reducible refine gate_dst (N := 4) rfl ?_); (try (refine gate_guard (by rfl) ?_; dsimp only)); refine box_event ?hg (N := 4) ?hd (cs := #[.string (⟨#[]⟩ : ByteArray), .int .i64 0, .int .i64 0]) (t := 93) ?hr ?_; (case hd => rfl); (case hg => rfl); (case hr => first | (go_simp; done) | (go_simp; rfl)); intro gb122 hg w35 hbox hb; have BK122 := am (hbox); have GW122 := zB hg HB; have GE122 := zB hg HB; replace HB := kH HB hb; have NB117_122 := nl hg (kb BK117); have NB122_117 := ng hg (kb BK117); replace BK117 := kP _ BK117 hb; clear hb hbox hg; have hnb36 := NB122_117.out; have hnc36 := NB117_122.out; have hz37 := bc3 BK122) | ((with_reducible refine gg ?_); refine gL 46 Tryz.func51 #[.agg #[.string ((rd_T93 l0_7 x41_2).f0), .int .i64 ((rd_T93 l0_7 x41_2).f1), .int .i64 ((rd_T93 l0_7 x41_2).f2)]] ?_; (with_reducible refine (impl_peakOk.calls k2 ((rd_T93 l0_7 x41_2).f0) ((rd_T93 l0_7 x41_2).f1) ((rd_T93 l0_7 x41_2).f2) t123 _ A33.out).mono ?_); rintro e w38 ⟨rfl, hb⟩; refine ⟨_, rfl, ?_⟩; replace BK117 := kP _ BK117 hb; replace BK122 := kP (.cells #[.string ((rd_T93 l0_7 x41_2).f0), .int .i64 ((rd_T93 l0_7 x41_2).f1), .int .i64 ((rd_T93 l0_7 x41_2).f2)] 93 (0, 0)) BK122 hb; replace HB := kH HB hb; (try clear hb)))
      by_cases c34 : t123 = true
      rotate_left
      ·replace c34 := bF c34
       subst c34
       try simp only [Bool.not_true, Bool.not_false]
       rw [if_neg nF] at H
       obtain rfl := oI H
       go_wp2
       go_ret
       exact ⟨xE, xB HB⟩
      subst c34
      try simp only [Bool.not_true, Bool.not_false]
      rw [if_pos rfl] at H
      have H' := am H
      clear H
      go_wp2
      go_roundg k2
      case measure => have := HJ1.out; have := HK2.out; omega
      case rel => exact ⟨(wrap64 (x41_2 + 1)), xR, H', ⟨by have := HJ1.out; have := HK2.out; omega⟩, ⟨kb BK117⟩, ⟨xB HB⟩⟩
     rw [if_neg c30] at H
     have c30b0 := df c30
     clear c30
     have H' := am H
     clear H
     have hz43 := bc9 BK117
     go_wp2
     go_loopg [52] k2 (fun kq v52 w' => ∃ (x52_3 : Int), v52 = .int .i64 x52_3 ∧ Aside0 (impl_paidOk.l1 kq l0_8 (l0_8.length : Int) x52_3 = some r) ∧ Aside0 (kq ≤ k2) ∧ Aside0 (w'.heap[gb117]? = some (.cells #[.int .i64 a0_0, .string a0_1, .string a0_2, .int .i64 a0_3, .int .i64 a0_4, .int .i64 a0_5, (.slice A0_6 l0_6.length c0_6), (.slice A0_7 l0_7.length c0_7), (.slice A0_8 l0_8.length c0_8)] 30 (0, 0))) ∧ Aside0 (Below w.heap.size w w'))
     case atStart => exact ⟨(0), xR, H', ⟨Nat.le_refl _⟩, ⟨kb BK117⟩, ⟨xB HB⟩⟩
     case round =>
      clear H'
      try clear c28 c30 c30b0 hz29 hz43
      obtain ⟨x52_3, rfl, HA, HK3, BK117, HB⟩ := hrel
      cases gk with
      | zero => exact absurd HA.out (by simp [impl_paidOk.l1])
      | succ k3 =>
       have H := HA.out
       clear HA
       simp only [impl_paidOk.l1] at H
       by_cases c44 : x52_3 < (l0_8.length : Int)
       rotate_left
       ·rw [if_neg c44] at H
        have c44b0 := df c44
        clear c44
        obtain rfl := oI H
        go_wp2
        go_ret
        exact ⟨xE, xB HB⟩
       rw [if_pos c44] at H
       have c44b0 := dt c44
       clear c44
       replace ⟨c45b0, H⟩ := ipd H
       replace ⟨c46b0, H⟩ := ipd H
       replace ⟨t126, A47, H⟩ := oa H
       have p124 : 0 ≤ (x52_3 : Int) := oX
       have q124 : x52_3 < (l0_8.length : Int) := oX
       obtain ⟨ad124, e124, hx124_0, hx124_1⟩ := at_T48 (hC HB HR0_8.out) x52_3 p124 q124
       cases e124
       replace ⟨p124, q124⟩ := eT p124 q124
       go_upto_if 59 with (first | ((with_reducible refine gate_dst (N := 6) rfl ?_); (try (refine gate_guard (by rfl) ?_; dsimp only)); refine box_event ?hg (N := 6) ?hd (cs := #[.string (⟨#[]⟩ : ByteArray), .bool false]) (t := 48) ?hr ?_; (case hd => rfl); (case hg => rfl); (case hr => first | (go_simp; done) | (go_simp; rfl)); intro gb125 hg w49 hbox hb; have BK125 := am (hbox); have GW125 := zB hg HB; have GE125 := zB hg HB; replace HB := kH HB hb; have NB117_125 := nl hg (kb BK117); have NB125_117 := ng hg (kb BK117); replace BK117 := kP _ BK117 hb; clear hb hbox hg; have hnb50 := NB125_117.out; have hnc50 := NB117_125.out; have hz51 := bc2 BK125) | ((with_reducible refine gg ?_); refine gL 58 Tryz.func52 #[.string ((rd_T48 l0_8 x52_3).f0)] ?_; (with_reducible refine (impl_isSum.calls k3 ((rd_T48 l0_8 x52_3).f0) t126 _ A47.out).mono ?_); rintro e w' ⟨rfl, ⟨nd, rfl⟩⟩; refine ⟨_, rfl, ?_⟩))
       by_cases c48 : t126 = true
       rotate_left
       ·replace c48 := bF c48
        subst c48
        try simp only [Bool.not_true, Bool.not_false]
        rw [if_neg nF] at H
        obtain rfl := oI H
        go_wp2
        go_ret
        exact ⟨xE, xB HB⟩
       subst c48
       try simp only [Bool.not_true, Bool.not_false]
       rw [if_pos rfl] at H
       have H' := am H
       clear H
       go_wp2
       go_roundg k3
       case measure => have := HJ1.out; have := HK2.out; have := HK3.out; omega
       case rel => exact ⟨(wrap64 (x52_3 + 1)), xR, H', ⟨by have := HJ1.out; have := HK2.out; have := HK3.out; omega⟩, ⟨fb BK117⟩, ⟨xB HB⟩⟩

end Go.Proofs.YtgjljbaadglpnaaGreatDoor.PFnPaidGet
