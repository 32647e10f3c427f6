/- Functions of the program and what each answers: the kit's print, shortened (wip/press2.py). -/
import Derived.Test.YtgjljbaadglpnaaDoorPFnExactPaidGetx0
import Derived.Test.YtgjljbaadglpnaaDoorPFnExactPaidGetx3
import Derived.Test.YtgjljbaadglpnaaDoorPFnExactPaidGetx5
namespace Go.Proofs.YtgjljbaadglpnaaDoor.PFnExactPaidGet
open Go.Proofs.YtgjljbaadglpnaaDoor.Sq Go.RowKit Go.Proofs.YtgjljbaadglpnaaDoorW.PrintWords Go.Proofs.YtgjljbaadglpnaaDoorW.PrintLast Go.Proofs.YtgjljbaadglpnaaDoorW.PrintMore
attribute [local go_sem] max2_int min2_int max_two min_two max_three min_three max_four min_four   -- for this text's walks alone
set_option linter.unusedVariables false
set_option linter.unusedSimpArgs false

/-! ### spec_l5Ok: function 61 -/
def spec_l5Ok.l0 : Nat → List (S93) → Int → Int → Option (Bool)
 | 0, _, _, _ => none
 | k + 1, x0, x3, x4 => if x4 < (x0.length : Int) then (if 0 ≤ x4 then ((spec_l5PeakOk.f k ((rd_T93 x0 x4).f0) ((rd_T93 x0 x4).f1) ((rd_T93 x0 x4).f2)).bind fun t174 => (if t174 = true then ((spec_l5Two.f k ((rd_T93 x0 x4).f2)).bind fun t176 => (if t176 = true then (if x4 > 0 then (if 0 ≤ (wrap64 (x4 - 1)) then (if (wrap64 (x4 - 1)) < (x0.length : Int) then (if ((rd_T93 x0 x4).f2) ≥ ((rd_T93 x0 (wrap64 (x4 - 1))).f2) then (some false) else (spec_l5Ok.l0 k x0 (wrap64 (x3 + ((rd_T93 x0 x4).f2))) (wrap64 (x4 + 1)))) else (none)) else (none)) else (spec_l5Ok.l0 k x0 (wrap64 (x3 + ((rd_T93 x0 x4).f2))) (wrap64 (x4 + 1)))) else (some false))) else (some false))) else (none)) else (some (decide (x3 ≤ 20)))
def spec_l5Ok.f (k : Nat) (l0 : List (S93)) : Option (Bool) := spec_l5Ok.l0 k l0 0 0
theorem spec_l5Ok.mono_l : ∀ k, (∀ y0 y1 y2, LeO (spec_l5Ok.l0 k y0 y1 y2) (spec_l5Ok.l0 (k + 1) y0 y1 y2))
 | 0 => fun _ _ _ r h => by simp [spec_l5Ok.l0] at h
 | k + 1 => by
  have ih0 := spec_l5Ok.mono_l k
  ·intro y0 y1 y2
   unfold spec_l5Ok.l0
   exact mo3 ih0 spec_l5PeakOk.mono spec_l5Two.mono
theorem spec_l5Ok.mono : ∀ a0 k, LeO (spec_l5Ok.f k a0) (spec_l5Ok.f (k + 1) a0) := by
 intro a0 k
 have ih0 := spec_l5Ok.mono_l k
 unfold spec_l5Ok.f
 exact mo3 ih0 spec_l5PeakOk.mono spec_l5Two.mono
def spec_l5Ok.T5 : Bool × List (List Nat × List Nat) := (true, [([], []), ([], []), ([0, 1], [0, 1]), ([2], [2]), ([3], [3]), ([4], [4]), ([5, 4], [5]), ([6], [6]), ([6], [6]), ([7, 8, 6], [6, 7, 8]), ([9, 6], [6, 9]), ([10, 6], [6, 10]), ([11, 6, 6], [6, 11]), ([12, 6], [6, 12]), ([6, 13], [6, 13]), ([14, 12], [14]), ([15], [15]), ([16, 15], [15, 16]), ([17, 15, 15], [15, 17]), ([18], [18]), ([18], [18]), ([19, 20, 18], [18, 19, 20]), ([21, 18], [18, 21]), ([22, 18], [18, 22]), ([18], [18]), ([18], [18]), ([25, 18], [18, 25]), ([24, 26, 18], [18, 24, 26]), ([27, 18], [18, 27]), ([28, 18], [18, 28]), ([23, 29, 18], [18, 23, 29]), ([18, 30, 15], [15, 18, 30]), ([15, 31], [15, 31])])
def spec_l5Ok.B5 : List Nat := [0, 0, 3, 7, 15, 31, 63, 127, 127, 511, 1023, 2047, 4095, 8191, 16383, 32767, 65535, 131071, 262143, 524287, 524287, 2097151, 4194303, 8388607, 524287, 524287, 34078719, 117964799, 252182527, 520617983, 1073741823, 2147483647, 4294967295]
theorem spec_l5Ok.tab5 : rtab .any (opsOf Tryd.f61 5) = spec_l5Ok.T5 := by kernel_rfl
theorem spec_l5Ok.bits5 : waitsOk spec_l5Ok.T5.2 spec_l5Ok.B5 = true := by kernel_rfl
set_option maxHeartbeats 64000000 in
set_option maxRecDepth 100000 in
theorem spec_l5Ok.calls (k : Nat) (A0 : Option Addr) (c0 : Nat) (l0 : List (S93)) (r : Bool) (w : World) (hr0 : Kd.C k93 w A0 l0.length l0) (hc0 : l0.length ≤ c0) (h : spec_l5Ok.f k l0 = some r) :
  Calls Tryd.prog 61 #[.slice A0 l0.length c0] w fun e w' => e = .returned (.bool r) ∧ Below w.heap.size w w' := by
 have hu93 := Tryd.underlying93
 have HR0 := Aside0.mk hr0
 have HC0 := Aside0.mk hc0
 clear hr0 hc0
 have HB := Aside0.mk (Below.refl w.heap.size w)
 have H : (spec_l5Ok.l0 k l0 0 0) = some r := h
 clear h
 have H' := Aside0.mk H
 clear H
 go_enter Tryd.func61, Tryd.ntmps61
 go_wp2
 go_loopg [3, 4] k (fun kq v3 v4 w' => ∃ (x3_1 : Int) (x4_1 : Int), v3 = .int .i64 x3_1 ∧ v4 = .int .i64 x4_1 ∧ Aside0 (spec_l5Ok.l0 kq l0 x3_1 x4_1 = some r) ∧ Aside0 (kq ≤ k) ∧ Aside0 (Below w.heap.size w w'))
 case atStart => exact ⟨(0), (0), xR, xR, H', ⟨Nat.le_refl _⟩, ⟨bl HB⟩⟩
 case round =>
  clear H'
  obtain ⟨x3_1, x4_1, rfl, rfl, HA, HK1, HB⟩ := hrel
  cases gk with
  | zero => exact absurd HA.out (by simp [spec_l5Ok.l0])
  | succ k1 =>
   have H := HA.out
   clear HA
   simp only [spec_l5Ok.l0] at H
   by_cases c2 : x4_1 < (l0.length : Int)
   rotate_left
   ·rw [if_neg c2] at H
    have c2b0 := decide_eq_false c2
    clear c2
    obtain rfl := Option.some.inj H
    go_wp2
    go_ret
    exact ⟨xE, bl HB⟩
   rw [if_pos c2] at H
   have c2b0 := decide_eq_true c2
   clear c2
   replace H := ipd H
   obtain ⟨c3b0, H⟩ := H
   replace H := oa H
   obtain ⟨t174, A4, H⟩ := H
   by_cases c5 : t174 = true
   rotate_left
   ·replace c5 := Bool.eq_false_iff.mpr c5
    subst c5
    rw [if_neg (show ¬ (false = true) by decide)] at H
    obtain rfl := Option.some.inj H
    try go_wp2
    replace HB := am (below_drew1 HB.out)
    have p173 : 0 ≤ (x4_1 : Int) := of_decide_eq_true xA
    have q173 : x4_1 < (l0.length : Int) := of_decide_eq_true xA
    obtain ⟨ad173, e173, hx173_0, hx173_1, hx173_2⟩ := at_T93 HR0.out x4_1 p173 q173
    have hw173_2 := hx173_2
    have hw173_1 := hx173_1
    have hw173_0 := hx173_0
    cases e173
    replace hx173_0 := hc HB hx173_0
    replace hx173_1 := hc HB hx173_1
    replace hx173_2 := hc HB hx173_2
    replace p173 := eq_true p173
    replace q173 := eq_true q173
    refine start_ (n := 33) (S := fun w' => w'.cell? (ad173.add ((x4_1).toNat * 3)) = some (.string ((rd_T93 l0 x4_1).f0)) ∧ w'.cell? ⟨(ad173.add ((x4_1).toNat * 3)).block, (ad173.add ((x4_1).toNat * 3)).off + 1, none⟩ = some (.int .i64 ((rd_T93 l0 x4_1).f1)) ∧ w'.cell? ⟨(ad173.add ((x4_1).toNat * 3)).block, (ad173.add ((x4_1).toNat * 3)).off + 2, none⟩ = some (.int .i64 ((rd_T93 l0 x4_1).f2))) (ds := []) (bm 33 0) (by kernel_rfl) rfl rfl ⟨(hd HB hw173_0), (hd HB hw173_1), (hd HB hw173_2)⟩ (fun hHeld => ?_); refine with_tabW spec_l5Ok.tab5 spec_l5Ok.bits5 (fun HT_ HW_ => ?_)
    generalize wr.drew = w21 at HB hx173_0 hx173_1 hx173_2 hHeld ⊢
    refine pA 0 11 (bm 33 1) HT_ ?_
    refine pA 1 12 (bm 33 3) HT_ ?_
    refine pA 2 13 (bm 33 7) HT_ ?_
    refine tA 3 14 (bm 33 15) HT_ HW_ hHeld ?_
    refine oA 4 (some 15) (bm 33 31) HT_ fun K hK => ?_
    refine gA Tryd.func59 #[.agg #[.string ((rd_T93 l0 x4_1).f0), .int .i64 ((rd_T93 l0 x4_1).f1), .int .i64 ((rd_T93 l0 x4_1).f2)]] ?_
    with_reducible refine (spec_l5PeakOk.calls k1 ((rd_T93 l0 x4_1).f0) ((rd_T93 l0 x4_1).f1) ((rd_T93 l0 x4_1).f2) false _ A4.out).mono ?_
    rintro e w22 ⟨rfl, hb⟩
    refine ⟨_, rfl, ?_⟩
    replace HB := kH HB hb
    (try clear hb)
    (try clear hb2)
    (try clear hk)
    (try clear hi)
    refine hK.out _ _ ⟨(hd HB hw173_0), (hd HB hw173_1), (hd HB hw173_2)⟩ (fun hHeld => ?_)
    clear hK K
    refine nA (some 15) ?_
    refine pA 5 16 (bm 33 63) HT_ ?_
    refine pA 6 17 (bm 33 127) HT_ ?_
    refine pU 7 18 (bm 33 255) HT_ ?_
    refine pU 8 19 (bm 33 511) HT_ ?_
    refine pU 9 20 (bm 33 1023) HT_ ?_
    refine pU 10 21 (bm 33 2047) HT_ ?_
    refine pU 11 22 (bm 33 4095) HT_ ?_
    refine pU 12 23 (bm 33 8191) HT_ ?_
    refine pU 13 24 (bm 33 16383) HT_ ?_
    refine pA 14 25 (bm 33 32767) HT_ ?_
    refine pA 15 26 (bm 33 65535) HT_ ?_
    refine pU 16 27 (bm 33 131071) HT_ ?_
    refine pU 17 28 (bm 33 262143) HT_ ?_
    refine pU 18 29 (bm 33 524287) HT_ ?_
    refine pU 19 30 (bm 33 1048575) HT_ ?_
    refine pU 20 31 (bm 33 2097151) HT_ ?_
    refine pU 21 32 (bm 33 4194303) HT_ ?_
    refine pU 22 33 (bm 33 8388607) HT_ ?_
    refine pU 23 34 (bm 33 16777215) HT_ ?_
    refine pU 24 35 (bm 33 33554431) HT_ ?_
    refine pU 25 36 (bm 33 67108863) HT_ ?_
    refine pU 26 37 (bm 33 134217727) HT_ ?_
    refine pU 27 38 (bm 33 268435455) HT_ ?_
    refine pU 28 39 (bm 33 536870911) HT_ ?_
    refine pU 29 40 (bm 33 1073741823) HT_ ?_
    refine pU 30 41 (bm 33 2147483647) HT_ ?_
    refine pU 31 42 (bm 33 4294967295) HT_ ?_
    refine pA 32 43 (bm 33 8589934591) HT_ ?_
    refine done_ (done_of HT_.out (by kernel_rfl)) ?_
    try go_wp2
    go_ret
    exact ⟨xE, bl HB⟩
   subst c5
   rw [if_pos rfl] at H
   replace H := oa H
   obtain ⟨t176, A6, H⟩ := H
   by_cases c7 : t176 = true
   rotate_left
   ·replace c7 := Bool.eq_false_iff.mpr c7
    subst c7
    rw [if_neg (show ¬ (false = true) by decide)] at H
    obtain rfl := Option.some.inj H
    try go_wp2
    replace HB := am (below_drew1 HB.out)
    have p173 : 0 ≤ (x4_1 : Int) := of_decide_eq_true xA
    have q173 : x4_1 < (l0.length : Int) := of_decide_eq_true xA
    obtain ⟨ad173, e173, hx173_0, hx173_1, hx173_2⟩ := at_T93 HR0.out x4_1 p173 q173
    have hw173_2 := hx173_2
    have hw173_1 := hx173_1
    have hw173_0 := hx173_0
    cases e173
    replace hx173_0 := hc HB hx173_0
    replace hx173_1 := hc HB hx173_1
    replace hx173_2 := hc HB hx173_2
    replace p173 := eq_true p173
    replace q173 := eq_true q173
    have p175 : 0 ≤ (x4_1 : Int) := of_decide_eq_true xA
    have q175 : x4_1 < (l0.length : Int) := of_decide_eq_true xA
    obtain ⟨ad175, e175, hx175_0, hx175_1, hx175_2⟩ := at_T93 HR0.out x4_1 p175 q175
    have hw175_2 := hx175_2
    have hw175_1 := hx175_1
    have hw175_0 := hx175_0
    obtain rfl : ad173 = ad175 := (by injection e175)
    replace hx175_0 := hc HB hx175_0
    replace hx175_1 := hc HB hx175_1
    replace hx175_2 := hc HB hx175_2
    replace p175 := eq_true p175
    replace q175 := eq_true q175
    refine start_ (n := 33) (S := fun w' => w'.cell? (ad173.add ((x4_1).toNat * 3)) = some (.string ((rd_T93 l0 x4_1).f0)) ∧ w'.cell? ⟨(ad173.add ((x4_1).toNat * 3)).block, (ad173.add ((x4_1).toNat * 3)).off + 1, none⟩ = some (.int .i64 ((rd_T93 l0 x4_1).f1)) ∧ w'.cell? ⟨(ad173.add ((x4_1).toNat * 3)).block, (ad173.add ((x4_1).toNat * 3)).off + 2, none⟩ = some (.int .i64 ((rd_T93 l0 x4_1).f2)) ∧ w'.cell? (ad173.add ((x4_1).toNat * 3)) = some (.string ((rd_T93 l0 x4_1).f0)) ∧ w'.cell? ⟨(ad173.add ((x4_1).toNat * 3)).block, (ad173.add ((x4_1).toNat * 3)).off + 1, none⟩ = some (.int .i64 ((rd_T93 l0 x4_1).f1)) ∧ w'.cell? ⟨(ad173.add ((x4_1).toNat * 3)).block, (ad173.add ((x4_1).toNat * 3)).off + 2, none⟩ = some (.int .i64 ((rd_T93 l0 x4_1).f2))) (ds := []) (bm 33 0) (by kernel_rfl) rfl rfl ⟨(hd HB hw173_0), (hd HB hw173_1), (hd HB hw173_2), (hd HB hw175_0), (hd HB hw175_1), (hd HB hw175_2)⟩ (fun hHeld => ?_); refine with_tabW spec_l5Ok.tab5 spec_l5Ok.bits5 (fun HT_ HW_ => ?_)
    generalize wr.drew = w19 at HB hx173_0 hx173_1 hx173_2 hx175_0 hx175_1 hx175_2 hHeld ⊢
    refine pA 0 11 (bm 33 1) HT_ ?_
    refine pA 1 12 (bm 33 3) HT_ ?_
    refine pA 2 13 (bm 33 7) HT_ ?_
    refine tA 3 14 (bm 33 15) HT_ HW_ hHeld ?_
    refine oA 4 (some 15) (bm 33 31) HT_ fun K hK => ?_
    refine gA Tryd.func59 #[.agg #[.string ((rd_T93 l0 x4_1).f0), .int .i64 ((rd_T93 l0 x4_1).f1), .int .i64 ((rd_T93 l0 x4_1).f2)]] ?_
    with_reducible refine (spec_l5PeakOk.calls k1 ((rd_T93 l0 x4_1).f0) ((rd_T93 l0 x4_1).f1) ((rd_T93 l0 x4_1).f2) true _ A4.out).mono ?_
    rintro e w20 ⟨rfl, hb⟩
    refine ⟨_, rfl, ?_⟩
    replace HB := kH HB hb
    (try clear hb)
    (try clear hb2)
    (try clear hk)
    (try clear hi)
    refine hK.out _ _ ⟨(hd HB hw173_0), (hd HB hw173_1), (hd HB hw173_2), (hd HB hw175_0), (hd HB hw175_1), (hd HB hw175_2)⟩ (fun hHeld => ?_)
    clear hK K
    refine nA (some 15) ?_
    refine pA 5 16 (bm 33 63) HT_ ?_
    refine pA 6 17 (bm 33 127) HT_ ?_
    refine pA 7 18 (bm 33 255) HT_ ?_
    refine pA 8 19 (bm 33 511) HT_ ?_
    refine pA 9 20 (bm 33 1023) HT_ ?_
    refine pA 10 21 (bm 33 2047) HT_ ?_
    refine tA 11 22 (bm 33 4095) HT_ HW_ hHeld ?_
    refine oA 12 (some 23) (bm 33 8191) HT_ fun K hK => ?_
    refine gA Tryd.func87 #[.int .i64 ((rd_T93 l0 x4_1).f2)] ?_
    with_reducible refine (spec_l5Two.calls k1 ((rd_T93 l0 x4_1).f2) false _ A6.out).mono ?_
    rintro e w' ⟨rfl, ⟨nd, rfl⟩⟩
    refine ⟨_, rfl, ?_⟩
    refine hK.out _ _ ⟨(hd HB hw173_0), (hd HB hw173_1), (hd HB hw173_2), (hd HB hw175_0), (hd HB hw175_1), (hd HB hw175_2)⟩ (fun hHeld => ?_)
    clear hK K
    refine nA (some 23) ?_
    refine pA 13 24 (bm 33 16383) HT_ ?_
    refine pA 14 25 (bm 33 32767) HT_ ?_
    refine pA 15 26 (bm 33 65535) HT_ ?_
    refine pU 16 27 (bm 33 131071) HT_ ?_
    refine pU 17 28 (bm 33 262143) HT_ ?_
    refine pU 18 29 (bm 33 524287) HT_ ?_
    refine pU 19 30 (bm 33 1048575) HT_ ?_
    refine pU 20 31 (bm 33 2097151) HT_ ?_
    refine pU 21 32 (bm 33 4194303) HT_ ?_
    refine pU 22 33 (bm 33 8388607) HT_ ?_
    refine pU 23 34 (bm 33 16777215) HT_ ?_
    refine pU 24 35 (bm 33 33554431) HT_ ?_
    refine pU 25 36 (bm 33 67108863) HT_ ?_
    refine pU 26 37 (bm 33 134217727) HT_ ?_
    refine pU 27 38 (bm 33 268435455) HT_ ?_
    refine pU 28 39 (bm 33 536870911) HT_ ?_
    refine pU 29 40 (bm 33 1073741823) HT_ ?_
    refine pU 30 41 (bm 33 2147483647) HT_ ?_
    refine pU 31 42 (bm 33 4294967295) HT_ ?_
    refine pA 32 43 (bm 33 8589934591) HT_ ?_
    refine done_ (done_of HT_.out (by kernel_rfl)) ?_
    try go_wp2
    go_ret
    exact ⟨xE, bl HB⟩
   subst c7
   rw [if_pos rfl] at H
   by_cases c8 : x4_1 > 0
   rotate_left
   ·rw [if_neg c8] at H
    have c8b0 := decide_eq_false c8
    clear c8
    have H' := Aside0.mk H
    clear H
    try go_wp2
    replace HB := am (below_drew1 HB.out)
    have p173 : 0 ≤ (x4_1 : Int) := of_decide_eq_true xA
    have q173 : x4_1 < (l0.length : Int) := of_decide_eq_true xA
    obtain ⟨ad173, e173, hx173_0, hx173_1, hx173_2⟩ := at_T93 HR0.out x4_1 p173 q173
    have hw173_2 := hx173_2
    have hw173_1 := hx173_1
    have hw173_0 := hx173_0
    cases e173
    replace hx173_0 := hc HB hx173_0
    replace hx173_1 := hc HB hx173_1
    replace hx173_2 := hc HB hx173_2
    replace p173 := eq_true p173
    replace q173 := eq_true q173
    have p175 : 0 ≤ (x4_1 : Int) := of_decide_eq_true xA
    have q175 : x4_1 < (l0.length : Int) := of_decide_eq_true xA
    obtain ⟨ad175, e175, hx175_0, hx175_1, hx175_2⟩ := at_T93 HR0.out x4_1 p175 q175
    have hw175_2 := hx175_2
    have hw175_1 := hx175_1
    have hw175_0 := hx175_0
    obtain rfl : ad173 = ad175 := (by injection e175)
    replace hx175_0 := hc HB hx175_0
    replace hx175_1 := hc HB hx175_1
    replace hx175_2 := hc HB hx175_2
    replace p175 := eq_true p175
    replace q175 := eq_true q175
    refine start_ (n := 33) (S := fun w' => w'.cell? (ad173.add ((x4_1).toNat * 3)) = some (.string ((rd_T93 l0 x4_1).f0)) ∧ w'.cell? ⟨(ad173.add ((x4_1).toNat * 3)).block, (ad173.add ((x4_1).toNat * 3)).off + 1, none⟩ = some (.int .i64 ((rd_T93 l0 x4_1).f1)) ∧ w'.cell? ⟨(ad173.add ((x4_1).toNat * 3)).block, (ad173.add ((x4_1).toNat * 3)).off + 2, none⟩ = some (.int .i64 ((rd_T93 l0 x4_1).f2)) ∧ w'.cell? (ad173.add ((x4_1).toNat * 3)) = some (.string ((rd_T93 l0 x4_1).f0)) ∧ w'.cell? ⟨(ad173.add ((x4_1).toNat * 3)).block, (ad173.add ((x4_1).toNat * 3)).off + 1, none⟩ = some (.int .i64 ((rd_T93 l0 x4_1).f1)) ∧ w'.cell? ⟨(ad173.add ((x4_1).toNat * 3)).block, (ad173.add ((x4_1).toNat * 3)).off + 2, none⟩ = some (.int .i64 ((rd_T93 l0 x4_1).f2))) (ds := []) (bm 33 0) (by kernel_rfl) rfl rfl ⟨(hd HB hw173_0), (hd HB hw173_1), (hd HB hw173_2), (hd HB hw175_0), (hd HB hw175_1), (hd HB hw175_2)⟩ (fun hHeld => ?_); refine with_tabW spec_l5Ok.tab5 spec_l5Ok.bits5 (fun HT_ HW_ => ?_)
    generalize wr.drew = w17 at HB hx173_0 hx173_1 hx173_2 hx175_0 hx175_1 hx175_2 hHeld ⊢
    refine pA 0 11 (bm 33 1) HT_ ?_
    refine pA 1 12 (bm 33 3) HT_ ?_
    refine pA 2 13 (bm 33 7) HT_ ?_
    refine tA 3 14 (bm 33 15) HT_ HW_ hHeld ?_
    refine oA 4 (some 15) (bm 33 31) HT_ fun K hK => ?_
    refine gA Tryd.func59 #[.agg #[.string ((rd_T93 l0 x4_1).f0), .int .i64 ((rd_T93 l0 x4_1).f1), .int .i64 ((rd_T93 l0 x4_1).f2)]] ?_
    with_reducible refine (spec_l5PeakOk.calls k1 ((rd_T93 l0 x4_1).f0) ((rd_T93 l0 x4_1).f1) ((rd_T93 l0 x4_1).f2) true _ A4.out).mono ?_
    rintro e w18 ⟨rfl, hb⟩
    refine ⟨_, rfl, ?_⟩
    replace HB := kH HB hb
    (try clear hb)
    (try clear hb2)
    (try clear hk)
    (try clear hi)
    refine hK.out _ _ ⟨(hd HB hw173_0), (hd HB hw173_1), (hd HB hw173_2), (hd HB hw175_0), (hd HB hw175_1), (hd HB hw175_2)⟩ (fun hHeld => ?_)
    clear hK K
    refine nA (some 15) ?_
    refine pA 5 16 (bm 33 63) HT_ ?_
    refine pA 6 17 (bm 33 127) HT_ ?_
    refine pA 7 18 (bm 33 255) HT_ ?_
    refine pA 8 19 (bm 33 511) HT_ ?_
    refine pA 9 20 (bm 33 1023) HT_ ?_
    refine pA 10 21 (bm 33 2047) HT_ ?_
    refine tA 11 22 (bm 33 4095) HT_ HW_ hHeld ?_
    refine oA 12 (some 23) (bm 33 8191) HT_ fun K hK => ?_
    refine gA Tryd.func87 #[.int .i64 ((rd_T93 l0 x4_1).f2)] ?_
    with_reducible refine (spec_l5Two.calls k1 ((rd_T93 l0 x4_1).f2) true _ A6.out).mono ?_
    rintro e w' ⟨rfl, ⟨nd, rfl⟩⟩
    refine ⟨_, rfl, ?_⟩
    refine hK.out _ _ ⟨(hd HB hw173_0), (hd HB hw173_1), (hd HB hw173_2), (hd HB hw175_0), (hd HB hw175_1), (hd HB hw175_2)⟩ (fun hHeld => ?_)
    clear hK K
    refine nA (some 23) ?_
    refine pA 13 24 (bm 33 16383) HT_ ?_
    refine pA 14 25 (bm 33 32767) HT_ ?_
    refine pA 15 26 (bm 33 65535) HT_ ?_
    refine pA 16 27 (bm 33 131071) HT_ ?_
    refine pA 17 28 (bm 33 262143) HT_ ?_
    refine pA 18 29 (bm 33 524287) HT_ ?_
    refine pU 19 30 (bm 33 1048575) HT_ ?_
    refine pU 20 31 (bm 33 2097151) HT_ ?_
    refine pU 21 32 (bm 33 4194303) HT_ ?_
    refine pU 22 33 (bm 33 8388607) HT_ ?_
    refine pU 23 34 (bm 33 16777215) HT_ ?_
    refine pU 24 35 (bm 33 33554431) HT_ ?_
    refine pU 25 36 (bm 33 67108863) HT_ ?_
    refine pU 26 37 (bm 33 134217727) HT_ ?_
    refine pU 27 38 (bm 33 268435455) HT_ ?_
    refine pU 28 39 (bm 33 536870911) HT_ ?_
    refine pU 29 40 (bm 33 1073741823) HT_ ?_
    refine pU 30 41 (bm 33 2147483647) HT_ ?_
    refine pA 31 42 (bm 33 4294967295) HT_ ?_
    refine pA 32 43 (bm 33 8589934591) HT_ ?_
    refine done_ (done_of HT_.out (by kernel_rfl)) ?_
    have p180 : 0 ≤ (x4_1 : Int) := of_decide_eq_true xA
    have q180 : x4_1 < (l0.length : Int) := of_decide_eq_true xA
    obtain ⟨ad180, e180, hx180_0, hx180_1, hx180_2⟩ := at_T93 HR0.out x4_1 p180 q180
    obtain rfl : ad173 = ad180 := (by injection e180)
    replace hx180_0 := hc HB hx180_0
    replace hx180_1 := hc HB hx180_1
    replace hx180_2 := hc HB hx180_2
    replace p180 := eq_true p180
    replace q180 := eq_true q180
    try go_wp2
    go_roundg k1
    case measure => have := HK1.out; omega
    case rel => exact ⟨(wrap64 (x3_1 + ((rd_T93 l0 x4_1).f2))), (wrap64 (x4_1 + 1)), xR, xR, H', ⟨xL HK1⟩, ⟨bl HB⟩⟩
   rw [if_pos c8] at H
   have c8b0 := decide_eq_true c8
   clear c8
   obtain ⟨ji9, hji9⟩ := je (wrap64 (x4_1 - 1))
   first | rw [hji9] at H | simp only [hji9] at H
   (try rw [hji9] at A4)
   (try rw [hji9] at A6)
   have hji9w : (IntKind.i64.wrap (x4_1 - 1)) = ji9 := (i64_w _).trans hji9
   replace H := ipd H
   obtain ⟨c10b0, H⟩ := H
   replace H := ipd H
   obtain ⟨c11b0, H⟩ := H
   try go_wp2
   replace HB := am (below_drew1 HB.out)
   have p173 : 0 ≤ (x4_1 : Int) := of_decide_eq_true xA
   have q173 : x4_1 < (l0.length : Int) := of_decide_eq_true xA
   obtain ⟨ad173, e173, hx173_0, hx173_1, hx173_2⟩ := at_T93 HR0.out x4_1 p173 q173
   have hw173_2 := hx173_2
   have hw173_1 := hx173_1
   have hw173_0 := hx173_0
   cases e173
   replace hx173_0 := hc HB hx173_0
   replace hx173_1 := hc HB hx173_1
   replace hx173_2 := hc HB hx173_2
   replace p173 := eq_true p173
   replace q173 := eq_true q173
   have p175 : 0 ≤ (x4_1 : Int) := of_decide_eq_true xA
   have q175 : x4_1 < (l0.length : Int) := of_decide_eq_true xA
   obtain ⟨ad175, e175, hx175_0, hx175_1, hx175_2⟩ := at_T93 HR0.out x4_1 p175 q175
   have hw175_2 := hx175_2
   have hw175_1 := hx175_1
   have hw175_0 := hx175_0
   obtain rfl : ad173 = ad175 := (by injection e175)
   replace hx175_0 := hc HB hx175_0
   replace hx175_1 := hc HB hx175_1
   replace hx175_2 := hc HB hx175_2
   replace p175 := eq_true p175
   replace q175 := eq_true q175
   have p177 : 0 ≤ (x4_1 : Int) := of_decide_eq_true xA
   have q177 : x4_1 < (l0.length : Int) := of_decide_eq_true xA
   obtain ⟨ad177, e177, hx177_0, hx177_1, hx177_2⟩ := at_T93 HR0.out x4_1 p177 q177
   have hw177_2 := hx177_2
   have hw177_1 := hx177_1
   have hw177_0 := hx177_0
   obtain rfl : ad173 = ad177 := (by injection e177)
   replace hx177_0 := hc HB hx177_0
   replace hx177_1 := hc HB hx177_1
   replace hx177_2 := hc HB hx177_2
   replace p177 := eq_true p177
   replace q177 := eq_true q177
   have p178 : 0 ≤ ((ji9) : Int) := of_decide_eq_true xA
   have q178 : (ji9) < (l0.length : Int) := of_decide_eq_true xA
   obtain ⟨ad178, e178, hx178_0, hx178_1, hx178_2⟩ := at_T93 HR0.out (ji9) p178 q178
   have hw178_2 := hx178_2
   have hw178_1 := hx178_1
   have hw178_0 := hx178_0
   obtain rfl : ad173 = ad178 := (by injection e178)
   replace hx178_0 := hc HB hx178_0
   replace hx178_1 := hc HB hx178_1
   replace hx178_2 := hc HB hx178_2
   replace p178 := eq_true p178
   replace q178 := eq_true q178
   refine start_ (n := 33) (S := fun w' => w'.cell? (ad173.add ((x4_1).toNat * 3)) = some (.string ((rd_T93 l0 x4_1).f0)) ∧ w'.cell? ⟨(ad173.add ((x4_1).toNat * 3)).block, (ad173.add ((x4_1).toNat * 3)).off + 1, none⟩ = some (.int .i64 ((rd_T93 l0 x4_1).f1)) ∧ w'.cell? ⟨(ad173.add ((x4_1).toNat * 3)).block, (ad173.add ((x4_1).toNat * 3)).off + 2, none⟩ = some (.int .i64 ((rd_T93 l0 x4_1).f2)) ∧ w'.cell? (ad173.add ((x4_1).toNat * 3)) = some (.string ((rd_T93 l0 x4_1).f0)) ∧ w'.cell? ⟨(ad173.add ((x4_1).toNat * 3)).block, (ad173.add ((x4_1).toNat * 3)).off + 1, none⟩ = some (.int .i64 ((rd_T93 l0 x4_1).f1)) ∧ w'.cell? ⟨(ad173.add ((x4_1).toNat * 3)).block, (ad173.add ((x4_1).toNat * 3)).off + 2, none⟩ = some (.int .i64 ((rd_T93 l0 x4_1).f2)) ∧ w'.cell? (ad173.add ((x4_1).toNat * 3)) = some (.string ((rd_T93 l0 x4_1).f0)) ∧ w'.cell? ⟨(ad173.add ((x4_1).toNat * 3)).block, (ad173.add ((x4_1).toNat * 3)).off + 1, none⟩ = some (.int .i64 ((rd_T93 l0 x4_1).f1)) ∧ w'.cell? ⟨(ad173.add ((x4_1).toNat * 3)).block, (ad173.add ((x4_1).toNat * 3)).off + 2, none⟩ = some (.int .i64 ((rd_T93 l0 x4_1).f2)) ∧ w'.cell? (ad173.add (((ji9)).toNat * 3)) = some (.string ((rd_T93 l0 (ji9)).f0)) ∧ w'.cell? ⟨(ad173.add (((ji9)).toNat * 3)).block, (ad173.add (((ji9)).toNat * 3)).off + 1, none⟩ = some (.int .i64 ((rd_T93 l0 (ji9)).f1)) ∧ w'.cell? ⟨(ad173.add (((ji9)).toNat * 3)).block, (ad173.add (((ji9)).toNat * 3)).off + 2, none⟩ = some (.int .i64 ((rd_T93 l0 (ji9)).f2))) (ds := []) (bm 33 0) (by kernel_rfl) rfl rfl ⟨(hd HB hw173_0), (hd HB hw173_1), (hd HB hw173_2), (hd HB hw175_0), (hd HB hw175_1), (hd HB hw175_2), (hd HB hw177_0), (hd HB hw177_1), (hd HB hw177_2), (hd HB hw178_0), (hd HB hw178_1), (hd HB hw178_2)⟩ (fun hHeld => ?_); refine with_tabW spec_l5Ok.tab5 spec_l5Ok.bits5 (fun HT_ HW_ => ?_)
   generalize wr.drew = w13 at HB hx173_0 hx173_1 hx173_2 hx175_0 hx175_1 hx175_2 hx177_0 hx177_1 hx177_2 hx178_0 hx178_1 hx178_2 hHeld ⊢
   refine pA 0 11 (bm 33 1) HT_ ?_
   refine pA 1 12 (bm 33 3) HT_ ?_
   refine pA 2 13 (bm 33 7) HT_ ?_
   refine tA 3 14 (bm 33 15) HT_ HW_ hHeld ?_
   refine oA 4 (some 15) (bm 33 31) HT_ fun K hK => ?_
   refine gA Tryd.func59 #[.agg #[.string ((rd_T93 l0 x4_1).f0), .int .i64 ((rd_T93 l0 x4_1).f1), .int .i64 ((rd_T93 l0 x4_1).f2)]] ?_
   with_reducible refine (spec_l5PeakOk.calls k1 ((rd_T93 l0 x4_1).f0) ((rd_T93 l0 x4_1).f1) ((rd_T93 l0 x4_1).f2) true _ A4.out).mono ?_
   rintro e w14 ⟨rfl, hb⟩
   refine ⟨_, rfl, ?_⟩
   replace HB := kH HB hb
   (try clear hb)
   (try clear hb2)
   (try clear hk)
   (try clear hi)
   refine hK.out _ _ ⟨(hd HB hw173_0), (hd HB hw173_1), (hd HB hw173_2), (hd HB hw175_0), (hd HB hw175_1), (hd HB hw175_2), (hd HB hw177_0), (hd HB hw177_1), (hd HB hw177_2), (hd HB hw178_0), (hd HB hw178_1), (hd HB hw178_2)⟩ (fun hHeld => ?_)
   clear hK K
   refine nA (some 15) ?_
   refine pA 5 16 (bm 33 63) HT_ ?_
   refine pA 6 17 (bm 33 127) HT_ ?_
   refine pA 7 18 (bm 33 255) HT_ ?_
   refine pA 8 19 (bm 33 511) HT_ ?_
   refine pA 9 20 (bm 33 1023) HT_ ?_
   refine pA 10 21 (bm 33 2047) HT_ ?_
   refine tA 11 22 (bm 33 4095) HT_ HW_ hHeld ?_
   refine oA 12 (some 23) (bm 33 8191) HT_ fun K hK => ?_
   refine gA Tryd.func87 #[.int .i64 ((rd_T93 l0 x4_1).f2)] ?_
   with_reducible refine (spec_l5Two.calls k1 ((rd_T93 l0 x4_1).f2) true _ A6.out).mono ?_
   rintro e w' ⟨rfl, ⟨nd, rfl⟩⟩
   refine ⟨_, rfl, ?_⟩
   refine hK.out _ _ ⟨(hd HB hw173_0), (hd HB hw173_1), (hd HB hw173_2), (hd HB hw175_0), (hd HB hw175_1), (hd HB hw175_2), (hd HB hw177_0), (hd HB hw177_1), (hd HB hw177_2), (hd HB hw178_0), (hd HB hw178_1), (hd HB hw178_2)⟩ (fun hHeld => ?_)
   clear hK K
   refine nA (some 23) ?_
   refine pA 13 24 (bm 33 16383) HT_ ?_
   refine pA 14 25 (bm 33 32767) HT_ ?_
   refine pA 15 26 (bm 33 65535) HT_ ?_
   refine pA 16 27 (bm 33 131071) HT_ ?_
   refine pA 17 28 (bm 33 262143) HT_ ?_
   refine pA 18 29 (bm 33 524287) HT_ ?_
   refine pA 19 30 (bm 33 1048575) HT_ ?_
   refine pA 20 31 (bm 33 2097151) HT_ ?_
   refine pA 21 32 (bm 33 4194303) HT_ ?_
   refine pA 22 33 (bm 33 8388607) HT_ ?_
   refine pA 24 35 (bm 33 25165823) HT_ ?_
   refine pA 25 36 (bm 33 58720255) HT_ ?_
   refine pA 26 37 (bm 33 125829119) HT_ ?_
   refine pA 27 38 (bm 33 260046847) HT_ ?_
   refine pA 28 39 (bm 33 528482303) HT_ ?_
   refine tA 23 34 (bm 33 536870911) HT_ HW_ hHeld ?_
   refine tA 29 40 (bm 33 1073741823) HT_ HW_ hHeld ?_
   refine pA 30 41 (bm 33 2147483647) HT_ ?_
   refine pA 31 42 (bm 33 4294967295) HT_ ?_
   refine pA 32 43 (bm 33 8589934591) HT_ ?_
   refine done_ (done_of HT_.out (by kernel_rfl)) ?_
   by_cases c12 : ((rd_T93 l0 x4_1).f2) ≥ ((rd_T93 l0 (ji9)).f2)
   ·rw [if_pos c12] at H
    have c12b0 := decide_eq_true c12
    try simp only [c12b0]
    clear c12
    obtain rfl := Option.some.inj H
    try go_wp2
    go_ret
    exact ⟨by first | rfl | (simp [errW_none, errW_some] <;> rfl) | (simp only [← hji9]; first | rfl | (simp [errW_none, errW_some] <;> rfl)) | (simp [*, errW_none, errW_some] <;> rfl), bl HB⟩
   rw [if_neg c12] at H
   have c12b0 := decide_eq_false c12
   try simp only [c12b0]
   clear c12
   have H' := Aside0.mk H
   clear H
   have p179 : 0 ≤ (x4_1 : Int) := of_decide_eq_true xA
   have q179 : x4_1 < (l0.length : Int) := of_decide_eq_true xA
   obtain ⟨ad179, e179, hx179_0, hx179_1, hx179_2⟩ := at_T93 HR0.out x4_1 p179 q179
   obtain rfl : ad173 = ad179 := (by injection e179)
   replace hx179_0 := hc HB hx179_0
   replace hx179_1 := hc HB hx179_1
   replace hx179_2 := hc HB hx179_2
   replace p179 := eq_true p179
   replace q179 := eq_true q179
   try go_wp2
   go_roundg k1
   case measure => have := HK1.out; omega
   case rel => exact ⟨(wrap64 (x3_1 + ((rd_T93 l0 x4_1).f2))), (wrap64 (x4_1 + 1)), xR, xR, H', ⟨xL HK1⟩, ⟨bl HB⟩⟩


/-! ### spec_l9Ok: function 30 -/
mutual
def spec_l9Ok.l0 : Nat → Int → Int → ByteArray → ByteArray → Int → Int → Int → List (S93) → List (S93) → List (S85) → Option (Bool)
 | 0, _, _, _, _, _, _, _, _, _, _ => none
 | k + 1, x3, x182000, x182001, x182002, x182003, x182004, x182005, x182006, x182007, x182008 => if x3 < (x182008.length : Int) then (if 0 ≤ x3 then ((spec_l1IsSum.f k ((rd_T85 x182008 x3).f0)).bind fun t183 => (if t183 = true then (spec_l9Ok.l0 k (wrap64 (x3 + 1)) x182000 x182001 x182002 x182003 x182004 x182005 x182006 x182007 x182008) else (some false))) else (none)) else (spec_l9Ok.l1 k 0 x182000 x182001 x182002 x182003 x182004 x182005 x182006 x182007 x182008)
def spec_l9Ok.l1 : Nat → Int → Int → ByteArray → ByteArray → Int → Int → Int → List (S93) → List (S93) → List (S85) → Option (Bool)
 | 0, _, _, _, _, _, _, _, _, _, _ => none
 | k + 1, x4, x182000, x182001, x182002, x182003, x182004, x182005, x182006, x182007, x182008 => if x4 < (x182007.length : Int) then (if 0 ≤ x4 then ((spec_l5PeakOk.f k ((rd_T93 x182007 x4).f0) ((rd_T93 x182007 x4).f1) ((rd_T93 x182007 x4).f2)).bind fun t185 => (if t185 = true then (spec_l9Ok.l1 k (wrap64 (x4 + 1)) x182000 x182001 x182002 x182003 x182004 x182005 x182006 x182007 x182008) else (some false))) else (none)) else ((spec_l1In.f x182000 0 19).bind fun t186 => (if t186 = true then ((spec_l3Ok.f k x182001 x182002 x182003 x182004 x182005).bind fun t187 => (if t187 = true then ((spec_l5Ok.f k x182006).bind fun t188 => (if t188 = true then (if (x182008.length : Int) ≤ 8 then (some (decide ((x182007.length : Int) ≤ 8))) else (some false)) else (some false))) else (some false))) else (some false)))
end
def spec_l9Ok.f (k : Nat) (a0_0 : Int) (a0_1 : ByteArray) (a0_2 : ByteArray) (a0_3 : Int) (a0_4 : Int) (a0_5 : Int) (l0_6 : List (S93)) (l0_7 : List (S93)) (l0_8 : List (S85)) : Option (Bool) := spec_l9Ok.l0 k 0 a0_0 a0_1 a0_2 a0_3 a0_4 a0_5 l0_6 l0_7 l0_8
theorem spec_l9Ok.mono_l : ∀ k, (∀ y0 y1 y2 y3 y4 y5 y6 y7 y8 y9, LeO (spec_l9Ok.l0 k y0 y1 y2 y3 y4 y5 y6 y7 y8 y9) (spec_l9Ok.l0 (k + 1) y0 y1 y2 y3 y4 y5 y6 y7 y8 y9)) ∧ (∀ y0 y1 y2 y3 y4 y5 y6 y7 y8 y9, LeO (spec_l9Ok.l1 k y0 y1 y2 y3 y4 y5 y6 y7 y8 y9) (spec_l9Ok.l1 (k + 1) y0 y1 y2 y3 y4 y5 y6 y7 y8 y9))
 | 0 => ⟨fun _ _ _ _ _ _ _ _ _ _ r h => by simp [spec_l9Ok.l0] at h, fun _ _ _ _ _ _ _ _ _ _ r h => by simp [spec_l9Ok.l1] at h⟩
 | k + 1 => by
  obtain ⟨ih0, ih1⟩ := spec_l9Ok.mono_l k
  refine ⟨?_, ?_⟩
  ·intro y0 y1 y2 y3 y4 y5 y6 y7 y8 y9
   unfold spec_l9Ok.l0
   exact mo6 ih0 ih1 spec_l1IsSum.mono spec_l3Ok.mono spec_l5Ok.mono spec_l5PeakOk.mono
  ·intro y0 y1 y2 y3 y4 y5 y6 y7 y8 y9
   unfold spec_l9Ok.l1
   exact mo6 ih0 ih1 spec_l1IsSum.mono spec_l3Ok.mono spec_l5Ok.mono spec_l5PeakOk.mono
theorem spec_l9Ok.mono : ∀ a0 a1 a2 a3 a4 a5 a6 a7 a8 k, LeO (spec_l9Ok.f k a0 a1 a2 a3 a4 a5 a6 a7 a8) (spec_l9Ok.f (k + 1) a0 a1 a2 a3 a4 a5 a6 a7 a8) := by
 intro a0 a1 a2 a3 a4 a5 a6 a7 a8 k
 obtain ⟨ih0, ih1⟩ := spec_l9Ok.mono_l k
 unfold spec_l9Ok.f
 exact mo6 ih0 ih1 spec_l1IsSum.mono spec_l3Ok.mono spec_l5Ok.mono spec_l5PeakOk.mono
set_option maxHeartbeats 64000000 in
set_option maxRecDepth 100000 in
theorem spec_l9Ok.calls (k : Nat) (a0_0 : Int) (a0_1 : ByteArray) (a0_2 : ByteArray) (a0_3 : Int) (a0_4 : Int) (a0_5 : Int) (A0_6 : Option Addr) (c0_6 : Nat) (l0_6 : List (S93)) (A0_7 : Option Addr) (c0_7 : Nat) (l0_7 : List (S93)) (A0_8 : Option Addr) (c0_8 : Nat) (l0_8 : List (S85)) (r : Bool) (w : World) (hr0_6 : Kd.C k93 w A0_6 l0_6.length l0_6) (hc0_6 : l0_6.length ≤ c0_6) (hr0_7 : Kd.C k93 w A0_7 l0_7.length l0_7) (hc0_7 : l0_7.length ≤ c0_7) (hr0_8 : Kd.C k85 w A0_8 l0_8.length l0_8) (hc0_8 : l0_8.length ≤ c0_8) (h : spec_l9Ok.f k a0_0 a0_1 a0_2 a0_3 a0_4 a0_5 l0_6 l0_7 l0_8 = some r) :
  Calls Tryd.prog 30 #[.agg #[.int .i64 a0_0, .string a0_1, .string a0_2, .int .i64 a0_3, .int .i64 a0_4, .int .i64 a0_5, .slice A0_6 l0_6.length c0_6, .slice A0_7 l0_7.length c0_7, .slice A0_8 l0_8.length c0_8]] w fun e w' => e = .returned (.bool r) ∧ Below w.heap.size w w' := by
 have hu29 := Tryd.underlying29
 have hu93 := Tryd.underlying93
 have hu23 := Tryd.underlying23
 have HR0_6 := Aside0.mk hr0_6
 have HC0_6 := Aside0.mk hc0_6
 clear hr0_6 hc0_6
 have HR0_7 := Aside0.mk hr0_7
 have HC0_7 := Aside0.mk hc0_7
 clear hr0_7 hc0_7
 have HR0_8 := Aside0.mk hr0_8
 have HC0_8 := Aside0.mk hc0_8
 clear hr0_8 hc0_8
 have HB := Aside0.mk (Below.refl w.heap.size w)
 have H : (spec_l9Ok.l0 k 0 a0_0 a0_1 a0_2 a0_3 a0_4 a0_5 l0_6 l0_7 l0_8) = some r := h
 clear h
 have H' := Aside0.mk H
 clear H
 go_enter Tryd.func30, Tryd.ntmps30
 go_wp2_with ((with_reducible refine gate_dst (N := 1) rfl ?_); (try (refine gate_guard (by rfl) ?_; dsimp only)); refine box_event ?hg (N := 1) ?hd (cs := #[.int .i64 a0_0, .string a0_1, .string a0_2, .int .i64 a0_3, .int .i64 a0_4, .int .i64 a0_5, .slice A0_6 l0_6.length c0_6, .slice A0_7 l0_7.length c0_7, .slice A0_8 l0_8.length c0_8]) (t := 29) ?hr ?_; (case hd => rfl); (case hg => rfl); (case hr => first | (go_simp; done) | (go_simp; rfl)); intro gb181 hg w2 hbox hb; have BK181 := am (hbox); have GW181 := zB hg HB; have GE181 := zB hg HB; replace HB := kH HB hb; clear hb hbox hg)
 go_loopg [3] k (fun kq v3 w' => ∃ (x3_1 : Int), v3 = .int .i64 x3_1 ∧ Aside0 (spec_l9Ok.l0 kq x3_1 a0_0 a0_1 a0_2 a0_3 a0_4 a0_5 l0_6 l0_7 l0_8 = some r) ∧ Aside0 (kq ≤ k) ∧ Aside0 (w'.heap[gb181]? = some (.cells #[.int .i64 a0_0, .string a0_1, .string a0_2, .int .i64 a0_3, .int .i64 a0_4, .int .i64 a0_5, (.slice A0_6 l0_6.length c0_6), (.slice A0_7 l0_7.length c0_7), (.slice A0_8 l0_8.length c0_8)] 29 (0, 0))) ∧ Aside0 (Below w.heap.size w w'))
 case atStart => exact ⟨(0), xR, H', ⟨Nat.le_refl _⟩, ⟨kb BK181⟩, ⟨xB HB⟩⟩
 case round =>
  clear H'
  try clear p2
  obtain ⟨x3_1, rfl, HA, HK1, BK181, HB⟩ := hrel
  cases gk with
  | zero => exact absurd HA.out (by simp [spec_l9Ok.l0])
  | succ k1 =>
   have H := HA.out
   clear HA
   simp only [spec_l9Ok.l0] at H
   by_cases c3 : x3_1 < (l0_8.length : Int)
   ·rw [if_pos c3] at H
    have c3b0 := decide_eq_true c3
    clear c3
    replace H := ipd H
    obtain ⟨c4b0, H⟩ := H
    replace H := oa H
    obtain ⟨t183, A5, H⟩ := H
    have hz7 := bc9 BK181
    have p182 : 0 ≤ (x3_1 : Int) := of_decide_eq_true xA
    have q182 : x3_1 < (l0_8.length : Int) := of_decide_eq_true xA
    obtain ⟨ad182, e182, hx182_0, hx182_1⟩ := at_T85 HR0_8.out x3_1 p182 q182
    cases e182
    replace hx182_0 := hc HB hx182_0
    replace hx182_1 := hc HB hx182_1
    replace p182 := eq_true p182
    replace q182 := eq_true q182
    go_upto_if 19 with ((with_reducible refine gg ?_); refine gL 18 Tryd.func58 #[.string ((rd_T85 l0_8 x3_1).f0)] ?_; (with_reducible refine (spec_l1IsSum.calls k1 ((rd_T85 l0_8 x3_1).f0) t183 _ A5.out).mono ?_); rintro e w' ⟨rfl, ⟨nd, rfl⟩⟩; refine ⟨_, rfl, ?_⟩)
    by_cases c6 : t183 = true
    rotate_left
    ·replace c6 := Bool.eq_false_iff.mpr c6
     subst c6
     try simp only [Bool.not_true, Bool.not_false]
     rw [if_neg (show ¬ (false = true) by decide)] at H
     obtain rfl := Option.some.inj H
     go_wp2
     go_ret
     exact ⟨xE, xB HB⟩
    subst c6
    try simp only [Bool.not_true, Bool.not_false]
    rw [if_pos rfl] at H
    have H' := Aside0.mk H
    clear H
    go_wp2
    go_roundg k1
    case measure => have := HK1.out; omega
    case rel => exact ⟨(wrap64 (x3_1 + 1)), xR, H', ⟨xL HK1⟩, ⟨kb BK181⟩, ⟨xB HB⟩⟩
   rw [if_neg c3] at H
   have c3b0 := decide_eq_false c3
   clear c3
   have H' := Aside0.mk H
   clear H
   have hz9 := bc9 BK181
   go_wp2
   go_loopg [4] k1 (fun kq v4 w' => ∃ (x4_2 : Int), v4 = .int .i64 x4_2 ∧ Aside0 (spec_l9Ok.l1 kq x4_2 a0_0 a0_1 a0_2 a0_3 a0_4 a0_5 l0_6 l0_7 l0_8 = some r) ∧ Aside0 (kq ≤ k1) ∧ Aside0 (w'.heap[gb181]? = some (.cells #[.int .i64 a0_0, .string a0_1, .string a0_2, .int .i64 a0_3, .int .i64 a0_4, .int .i64 a0_5, (.slice A0_6 l0_6.length c0_6), (.slice A0_7 l0_7.length c0_7), (.slice A0_8 l0_8.length c0_8)] 29 (0, 0))) ∧ Aside0 (Below w.heap.size w w'))
   case atStart => exact ⟨(0), xR, H', ⟨Nat.le_refl _⟩, ⟨kb BK181⟩, ⟨xB HB⟩⟩
   case round =>
    clear H'
    try clear p1
    try clear q1
    try clear hx1
    try clear p2
    try clear c3
    try clear c3b0
    try clear c4
    try clear c4b0
    try clear c5
    try clear c6
    try clear p6
    try clear hz7
    try clear hz8
    try clear hz9
    try clear hx182_0
    try clear hx182_1
    try clear p182
    try clear p2
    try clear q182
    obtain ⟨x4_2, rfl, HA, HK2, BK181, HB⟩ := hrel
    cases gk with
    | zero => exact absurd HA.out (by simp [spec_l9Ok.l1])
    | succ k2 =>
     have H := HA.out
     clear HA
     simp only [spec_l9Ok.l1] at H
     by_cases c10 : x4_2 < (l0_7.length : Int)
     ·rw [if_pos c10] at H
      have c10b0 := decide_eq_true c10
      clear c10
      replace H := ipd H
      obtain ⟨c11b0, H⟩ := H
      replace H := oa H
      obtain ⟨t185, A12, H⟩ := H
      have hz14 := bc9 BK181
      have p184 : 0 ≤ (x4_2 : Int) := of_decide_eq_true xA
      have q184 : x4_2 < (l0_7.length : Int) := of_decide_eq_true xA
      obtain ⟨ad184, e184, hx184_0, hx184_1, hx184_2⟩ := at_T93 HR0_7.out x4_2 p184 q184
      cases e184
      replace hx184_0 := hc HB hx184_0
      replace hx184_1 := hc HB hx184_1
      replace hx184_2 := hc HB hx184_2
      replace p184 := eq_true p184
      replace q184 := eq_true q184
      go_upto_if 35 with ((with_reducible refine gg ?_); refine gL 34 Tryd.func59 #[.agg #[.string ((rd_T93 l0_7 x4_2).f0), .int .i64 ((rd_T93 l0_7 x4_2).f1), .int .i64 ((rd_T93 l0_7 x4_2).f2)]] ?_; (with_reducible refine (spec_l5PeakOk.calls k2 ((rd_T93 l0_7 x4_2).f0) ((rd_T93 l0_7 x4_2).f1) ((rd_T93 l0_7 x4_2).f2) t185 _ A12.out).mono ?_); rintro e w15 ⟨rfl, hb⟩; refine ⟨_, rfl, ?_⟩; replace BK181 := kP _ BK181 hb; replace HB := kH HB hb; (try clear hb))
      by_cases c13 : t185 = true
      rotate_left
      ·replace c13 := Bool.eq_false_iff.mpr c13
       subst c13
       try simp only [Bool.not_true, Bool.not_false]
       rw [if_neg (show ¬ (false = true) by decide)] at H
       obtain rfl := Option.some.inj H
       go_wp2
       go_ret
       exact ⟨xE, xB HB⟩
      subst c13
      try simp only [Bool.not_true, Bool.not_false]
      rw [if_pos rfl] at H
      have H' := Aside0.mk H
      clear H
      go_wp2
      go_roundg k2
      case measure => have := HK1.out; have := HK2.out; omega
      case rel => exact ⟨(wrap64 (x4_2 + 1)), xR, H', ⟨by have := HK1.out; have := HK2.out; omega⟩, ⟨kb BK181⟩, ⟨xB HB⟩⟩
     rw [if_neg c10] at H
     have c10b0 := decide_eq_false c10
     clear c10
     replace H := oa H
     obtain ⟨t186, A18, H⟩ := H
     by_cases c19 : t186 = true
     rotate_left
     ·replace c19 := Bool.eq_false_iff.mpr c19
      subst c19
      rw [if_neg (show ¬ (false = true) by decide)] at H
      obtain rfl := Option.some.inj H
      have hz41 := bc9 BK181
      go_wp2_with ((with_reducible refine gg ?_); refine gL 38 Tryd.func60 #[.int .i64 a0_0, .int .i64 0, .int .i64 19] ?_; (with_reducible refine (spec_l1In.calls a0_0 0 19 false _ A18.out).mono ?_); rintro e w' ⟨rfl, ⟨nd, rfl⟩⟩; refine ⟨_, rfl, ?_⟩)
      go_ret
      exact ⟨xE, xB HB⟩
     subst c19
     rw [if_pos rfl] at H
     replace H := oa H
     obtain ⟨t187, A20, H⟩ := H
     by_cases c21 : t187 = true
     rotate_left
     ·replace c21 := Bool.eq_false_iff.mpr c21
      subst c21
      rw [if_neg (show ¬ (false = true) by decide)] at H
      obtain rfl := Option.some.inj H
      have hz39 := bc9 BK181
      go_wp2_with (first | ((with_reducible refine gg ?_); refine gL 38 Tryd.func60 #[.int .i64 a0_0, .int .i64 0, .int .i64 19] ?_; (with_reducible refine (spec_l1In.calls a0_0 0 19 true _ A18.out).mono ?_); rintro e w' ⟨rfl, ⟨nd, rfl⟩⟩; refine ⟨_, rfl, ?_⟩) | (go_at_call 43; (with_reducible refine (spec_l3Ok.calls k2 a0_1 a0_2 a0_3 a0_4 a0_5 false _ A20.out).mono ?_); rintro e w40 ⟨rfl, hb⟩; replace BK181 := kP _ BK181 hb; replace HB := kH HB hb; (try clear hb)))
      go_ret
      exact ⟨xE, xB HB⟩
     subst c21
     rw [if_pos rfl] at H
     replace H := oa H
     obtain ⟨t188, A22, H⟩ := H
     by_cases c23 : t188 = true
     rotate_left
     ·replace c23 := Bool.eq_false_iff.mpr c23
      subst c23
      rw [if_neg (show ¬ (false = true) by decide)] at H
      obtain rfl := Option.some.inj H
      have hz35 := bc9 BK181
      go_wp2_with (first | ((with_reducible refine gg ?_); refine gL 38 Tryd.func60 #[.int .i64 a0_0, .int .i64 0, .int .i64 19] ?_; (with_reducible refine (spec_l1In.calls a0_0 0 19 true _ A18.out).mono ?_); rintro e w' ⟨rfl, ⟨nd, rfl⟩⟩; refine ⟨_, rfl, ?_⟩) | (go_at_call 43; (with_reducible refine (spec_l3Ok.calls k2 a0_1 a0_2 a0_3 a0_4 a0_5 true _ A20.out).mono ?_); rintro e w36 ⟨rfl, hb⟩; replace BK181 := kP _ BK181 hb; replace HB := kH HB hb; (try clear hb); have hz37 := bc9 BK181) | (go_at_call 61; (with_reducible refine (spec_l5Ok.calls k2 _ _ l0_6 false _ ?side1 ?side2 A22.out).mono ?_); (case side1 => exact cb HR0_6 HB); (case side2 => exact HC0_6.out); rintro e w38 ⟨rfl, hb⟩; replace BK181 := kP _ BK181 hb; replace HB := kH HB hb; (try clear hb)))
      go_ret
      exact ⟨xE, xB HB⟩
     subst c23
     rw [if_pos rfl] at H
     by_cases c24 : (l0_8.length : Int) ≤ 8
     ·rw [if_pos c24] at H
      have c24b0 := decide_eq_true c24
      have c24b1 : decide (l0_8.length ≤ 8) = true := decide_eq_true (by omega)
      clear c24
      obtain rfl := Option.some.inj H
      have hz25 := bc9 BK181
      go_wp2_with (first | ((with_reducible refine gg ?_); refine gL 38 Tryd.func60 #[.int .i64 a0_0, .int .i64 0, .int .i64 19] ?_; (with_reducible refine (spec_l1In.calls a0_0 0 19 true _ A18.out).mono ?_); rintro e w' ⟨rfl, ⟨nd, rfl⟩⟩; refine ⟨_, rfl, ?_⟩) | (go_at_call 43; (with_reducible refine (spec_l3Ok.calls k2 a0_1 a0_2 a0_3 a0_4 a0_5 true _ A20.out).mono ?_); rintro e w26 ⟨rfl, hb⟩; replace BK181 := kP _ BK181 hb; replace HB := kH HB hb; (try clear hb); have hz27 := bc9 BK181) | (go_at_call 61; (with_reducible refine (spec_l5Ok.calls k2 _ _ l0_6 true _ ?side1 ?side2 A22.out).mono ?_); (case side1 => exact cb HR0_6 HB); (case side2 => exact HC0_6.out); rintro e w28 ⟨rfl, hb⟩; replace BK181 := kP _ BK181 hb; replace HB := kH HB hb; (try clear hb); have hz29 := bc9 BK181))
      go_ret
      exact ⟨xE, xB HB⟩
     rw [if_neg c24] at H
     have c24b0 := decide_eq_false c24
     have c24b1 : decide (l0_8.length ≤ 8) = false := decide_eq_false (by omega)
     clear c24
     obtain rfl := Option.some.inj H
     have hz30 := bc9 BK181
     go_wp2_with (first | ((with_reducible refine gg ?_); refine gL 38 Tryd.func60 #[.int .i64 a0_0, .int .i64 0, .int .i64 19] ?_; (with_reducible refine (spec_l1In.calls a0_0 0 19 true _ A18.out).mono ?_); rintro e w' ⟨rfl, ⟨nd, rfl⟩⟩; refine ⟨_, rfl, ?_⟩) | (go_at_call 43; (with_reducible refine (spec_l3Ok.calls k2 a0_1 a0_2 a0_3 a0_4 a0_5 true _ A20.out).mono ?_); rintro e w31 ⟨rfl, hb⟩; replace BK181 := kP _ BK181 hb; replace HB := kH HB hb; (try clear hb); have hz32 := bc9 BK181) | (go_at_call 61; (with_reducible refine (spec_l5Ok.calls k2 _ _ l0_6 true _ ?side1 ?side2 A22.out).mono ?_); (case side1 => exact cb HR0_6 HB); (case side2 => exact HC0_6.out); rintro e w33 ⟨rfl, hb⟩; replace BK181 := kP _ BK181 hb; replace HB := kH HB hb; (try clear hb); have hz34 := bc9 BK181))
     go_ret
     exact ⟨xE, xB HB⟩


/-! ### spec_l9Peaks: function 63 -/
def spec_l9Peaks.l0 : Nat → List (S93) → ByteArray → Int → Option (ByteArray)
 | 0, _, _, _ => none
 | k + 1, x0, x3, x4 => if x4 < (x0.length : Int) then (if x3.size + 1 ≤ 9223372036854775807 then (if 0 ≤ x4 then (if (x3 ++ (⟨#[32]⟩ : ByteArray)).size + ((rd_T93 x0 x4).f0).size ≤ 9223372036854775807 then (if ((x3 ++ (⟨#[32]⟩ : ByteArray)) ++ ((rd_T93 x0 x4).f0)).size + 1 ≤ 9223372036854775807 then ((spec_l1Dec.f k ((rd_T93 x0 x4).f1)).bind fun t191 => (if (((x3 ++ (⟨#[32]⟩ : ByteArray)) ++ ((rd_T93 x0 x4).f0)) ++ (⟨#[58]⟩ : ByteArray)).size + t191.size ≤ 9223372036854775807 then (if ((((x3 ++ (⟨#[32]⟩ : ByteArray)) ++ ((rd_T93 x0 x4).f0)) ++ (⟨#[58]⟩ : ByteArray)) ++ t191).size + 1 ≤ 9223372036854775807 then ((spec_l1Dec.f k ((rd_T93 x0 x4).f2)).bind fun t193 => (if (((((x3 ++ (⟨#[32]⟩ : ByteArray)) ++ ((rd_T93 x0 x4).f0)) ++ (⟨#[58]⟩ : ByteArray)) ++ t191) ++ (⟨#[58]⟩ : ByteArray)).size + t193.size ≤ 9223372036854775807 then (spec_l9Peaks.l0 k x0 ((((((x3 ++ (⟨#[32]⟩ : ByteArray)) ++ ((rd_T93 x0 x4).f0)) ++ (⟨#[58]⟩ : ByteArray)) ++ t191) ++ (⟨#[58]⟩ : ByteArray)) ++ t193) (wrap64 (x4 + 1))) else (none))) else (none)) else (none))) else (none)) else (none)) else (none)) else (none)) else (some x3)
def spec_l9Peaks.f (k : Nat) (l0 : List (S93)) : Option (ByteArray) := spec_l9Peaks.l0 k l0 (⟨#[]⟩ : ByteArray) 0
theorem spec_l9Peaks.mono_l : ∀ k, (∀ y0 y1 y2, LeO (spec_l9Peaks.l0 k y0 y1 y2) (spec_l9Peaks.l0 (k + 1) y0 y1 y2))
 | 0 => fun _ _ _ r h => by simp [spec_l9Peaks.l0] at h
 | k + 1 => by
  have ih0 := spec_l9Peaks.mono_l k
  ·intro y0 y1 y2
   unfold spec_l9Peaks.l0
   exact mo2 ih0 spec_l1Dec.mono
theorem spec_l9Peaks.mono : ∀ a0 k, LeO (spec_l9Peaks.f k a0) (spec_l9Peaks.f (k + 1) a0) := by
 intro a0 k
 have ih0 := spec_l9Peaks.mono_l k
 unfold spec_l9Peaks.f
 exact mo2 ih0 spec_l1Dec.mono
def spec_l9Peaks.T5 : Bool × List (List Nat × List Nat) := (true, [([], []), ([0], [0]), ([], []), ([], []), ([2, 3], [2, 3]), ([4], [4]), ([5], [5]), ([1, 6], [1, 6]), ([7], [7]), ([], []), ([], []), ([9, 10], [9, 10]), ([11], [11]), ([12], [12]), ([13], [13]), ([8, 14], [8, 14]), ([15], [15]), ([], []), ([], []), ([17, 18], [17, 18]), ([19], [19]), ([20], [20]), ([21, 14], [21]), ([16, 22], [16, 22]), ([23, 22, 0, 1, 2, 3, 4, 5, 6, 7, 8, 9, 10, 11, 12, 13, 14, 15, 16, 17, 18, 19, 20, 21, 22, 23], [0, 23])])
def spec_l9Peaks.B5 : List Nat := [0, 1, 0, 0, 12, 28, 60, 127, 255, 0, 0, 1536, 3584, 7680, 15872, 32767, 65535, 0, 0, 393216, 917504, 1966080, 4095488, 8388607, 16777215]
theorem spec_l9Peaks.tab5 : rtab .any (opsOf Tryd.f63 5) = spec_l9Peaks.T5 := by kernel_rfl
theorem spec_l9Peaks.bits5 : waitsOk spec_l9Peaks.T5.2 spec_l9Peaks.B5 = true := by kernel_rfl
set_option maxHeartbeats 64000000 in
set_option maxRecDepth 100000 in
theorem spec_l9Peaks.calls (k : Nat) (A0 : Option Addr) (c0 : Nat) (l0 : List (S93)) (r : ByteArray) (w : World) (hr0 : Kd.C k93 w A0 l0.length l0) (hc0 : l0.length ≤ c0) (h : spec_l9Peaks.f k l0 = some r) :
  Calls Tryd.prog 63 #[.slice A0 l0.length c0] w fun e w' => e = .returned (.string r) ∧ Below w.heap.size w w' := by
 have HR0 := Aside0.mk hr0
 have HC0 := Aside0.mk hc0
 clear hr0 hc0
 have HB := Aside0.mk (Below.refl w.heap.size w)
 have H : (spec_l9Peaks.l0 k l0 (⟨#[]⟩ : ByteArray) 0) = some r := h
 clear h
 have H' := Aside0.mk H
 clear H
 go_enter Tryd.func63, Tryd.ntmps63
 go_wp2
 go_loopg [3, 4] k (fun kq v3 v4 w' => ∃ (x3_1 : ByteArray) (x4_1 : Int), v3 = .string x3_1 ∧ v4 = .int .i64 x4_1 ∧ Aside0 (spec_l9Peaks.l0 kq l0 x3_1 x4_1 = some r) ∧ Aside0 (kq ≤ k) ∧ Aside0 (Below w.heap.size w w'))
 case atStart => exact ⟨((⟨#[]⟩ : ByteArray)), (0), xR, xR, H', ⟨Nat.le_refl _⟩, ⟨bl HB⟩⟩
 case round =>
  clear H'
  obtain ⟨x3_1, x4_1, rfl, rfl, HA, HK1, HB⟩ := hrel
  cases gk with
  | zero => exact absurd HA.out (by simp [spec_l9Peaks.l0])
  | succ k1 =>
   have H := HA.out
   clear HA
   simp only [spec_l9Peaks.l0] at H
   by_cases c2 : x4_1 < (l0.length : Int)
   rotate_left
   ·rw [if_neg c2] at H
    have c2b0 := decide_eq_false c2
    clear c2
    obtain rfl := Option.some.inj H
    go_wp2
    go_ret
    exact ⟨xE, bl HB⟩
   rw [if_pos c2] at H
   have c2b0 := decide_eq_true c2
   clear c2
   replace H := ip H
   obtain ⟨c3, H⟩ := H
   have c3b0 := eq_true c3
   have c3b1 := decide_eq_true c3
   have c3b2 := nf c3
   replace H := ipd H
   obtain ⟨c4b0, H⟩ := H
   replace H := ip H
   obtain ⟨c5, H⟩ := H
   have c5b0 := eq_true c5
   have c5b1 := decide_eq_true c5
   have c5b2 := nf c5
   try (have c5b3 := c5b2; simp only [ByteArray.size_append, show (⟨#[32]⟩ : ByteArray).size = 1 from rfl] at c5b3)
   replace H := ip H
   obtain ⟨c6, H⟩ := H
   have c6b0 := eq_true c6
   have c6b1 := decide_eq_true c6
   have c6b2 := nf c6
   try (have c6b3 := c6b2; simp only [ByteArray.size_append, show (⟨#[32]⟩ : ByteArray).size = 1 from rfl] at c6b3)
   replace H := oa H
   obtain ⟨t191, A7, H⟩ := H
   replace H := ip H
   obtain ⟨c8, H⟩ := H
   have c8b0 := eq_true c8
   have c8b1 := decide_eq_true c8
   have c8b2 := nf c8
   try (have c8b3 := c8b2; simp only [ByteArray.size_append, show (⟨#[32]⟩ : ByteArray).size = 1 from rfl, show (⟨#[58]⟩ : ByteArray).size = 1 from rfl] at c8b3)
   replace H := ip H
   obtain ⟨c9, H⟩ := H
   have c9b0 := eq_true c9
   have c9b1 := decide_eq_true c9
   have c9b2 := nf c9
   try (have c9b3 := c9b2; simp only [ByteArray.size_append, show (⟨#[32]⟩ : ByteArray).size = 1 from rfl, show (⟨#[58]⟩ : ByteArray).size = 1 from rfl] at c9b3)
   replace H := oa H
   obtain ⟨t193, A10, H⟩ := H
   replace H := ip H
   obtain ⟨c11, H⟩ := H
   have c11b0 := eq_true c11
   have c11b1 := decide_eq_true c11
   have c11b2 := nf c11
   try (have c11b3 := c11b2; simp only [ByteArray.size_append, show (⟨#[32]⟩ : ByteArray).size = 1 from rfl, show (⟨#[58]⟩ : ByteArray).size = 1 from rfl] at c11b3)
   have H' := Aside0.mk H
   clear H
   try go_wp2
   replace HB := am (below_drew1 HB.out)
   have p189 : 0 ≤ (x4_1 : Int) := of_decide_eq_true xA
   have q189 : x4_1 < (l0.length : Int) := of_decide_eq_true xA
   obtain ⟨ad189, e189, hx189_0, hx189_1, hx189_2⟩ := at_T93 HR0.out x4_1 p189 q189
   have hw189_2 := hx189_2
   have hw189_1 := hx189_1
   have hw189_0 := hx189_0
   cases e189
   replace hx189_0 := hc HB hx189_0
   replace hx189_1 := hc HB hx189_1
   replace hx189_2 := hc HB hx189_2
   replace p189 := eq_true p189
   replace q189 := eq_true q189
   have p190 : 0 ≤ (x4_1 : Int) := of_decide_eq_true xA
   have q190 : x4_1 < (l0.length : Int) := of_decide_eq_true xA
   obtain ⟨ad190, e190, hx190_0, hx190_1, hx190_2⟩ := at_T93 HR0.out x4_1 p190 q190
   have hw190_2 := hx190_2
   have hw190_1 := hx190_1
   have hw190_0 := hx190_0
   obtain rfl : ad189 = ad190 := (by injection e190)
   replace hx190_0 := hc HB hx190_0
   replace hx190_1 := hc HB hx190_1
   replace hx190_2 := hc HB hx190_2
   replace p190 := eq_true p190
   replace q190 := eq_true q190
   have p192 : 0 ≤ (x4_1 : Int) := of_decide_eq_true xA
   have q192 : x4_1 < (l0.length : Int) := of_decide_eq_true xA
   obtain ⟨ad192, e192, hx192_0, hx192_1, hx192_2⟩ := at_T93 HR0.out x4_1 p192 q192
   have hw192_2 := hx192_2
   have hw192_1 := hx192_1
   have hw192_0 := hx192_0
   obtain rfl : ad189 = ad192 := (by injection e192)
   replace hx192_0 := hc HB hx192_0
   replace hx192_1 := hc HB hx192_1
   replace hx192_2 := hc HB hx192_2
   replace p192 := eq_true p192
   replace q192 := eq_true q192
   refine start_ (n := 25) (S := fun w' => w'.cell? (ad189.add ((x4_1).toNat * 3)) = some (.string ((rd_T93 l0 x4_1).f0)) ∧ w'.cell? ⟨(ad189.add ((x4_1).toNat * 3)).block, (ad189.add ((x4_1).toNat * 3)).off + 1, none⟩ = some (.int .i64 ((rd_T93 l0 x4_1).f1)) ∧ w'.cell? ⟨(ad189.add ((x4_1).toNat * 3)).block, (ad189.add ((x4_1).toNat * 3)).off + 2, none⟩ = some (.int .i64 ((rd_T93 l0 x4_1).f2)) ∧ w'.cell? (ad189.add ((x4_1).toNat * 3)) = some (.string ((rd_T93 l0 x4_1).f0)) ∧ w'.cell? ⟨(ad189.add ((x4_1).toNat * 3)).block, (ad189.add ((x4_1).toNat * 3)).off + 1, none⟩ = some (.int .i64 ((rd_T93 l0 x4_1).f1)) ∧ w'.cell? ⟨(ad189.add ((x4_1).toNat * 3)).block, (ad189.add ((x4_1).toNat * 3)).off + 2, none⟩ = some (.int .i64 ((rd_T93 l0 x4_1).f2)) ∧ w'.cell? (ad189.add ((x4_1).toNat * 3)) = some (.string ((rd_T93 l0 x4_1).f0)) ∧ w'.cell? ⟨(ad189.add ((x4_1).toNat * 3)).block, (ad189.add ((x4_1).toNat * 3)).off + 1, none⟩ = some (.int .i64 ((rd_T93 l0 x4_1).f1)) ∧ w'.cell? ⟨(ad189.add ((x4_1).toNat * 3)).block, (ad189.add ((x4_1).toNat * 3)).off + 2, none⟩ = some (.int .i64 ((rd_T93 l0 x4_1).f2))) (ds := []) (bm 25 0) (by kernel_rfl) rfl rfl ⟨(hd HB hw189_0), (hd HB hw189_1), (hd HB hw189_2), (hd HB hw190_0), (hd HB hw190_1), (hd HB hw190_2), (hd HB hw192_0), (hd HB hw192_1), (hd HB hw192_2)⟩ (fun hHeld => ?_); refine with_tabW spec_l9Peaks.tab5 spec_l9Peaks.bits5 (fun HT_ HW_ => ?_)
   generalize wr.drew = w12 at HB hx189_0 hx189_1 hx189_2 hx190_0 hx190_1 hx190_2 hx192_0 hx192_1 hx192_2 hHeld ⊢
   refine pA 0 11 (bm 25 1) HT_ ?_
   refine pA 1 12 (bm 25 3) HT_ ?_
   refine pA 2 13 (bm 25 7) HT_ ?_
   refine pA 3 14 (bm 25 15) HT_ ?_
   refine pA 4 15 (bm 25 31) HT_ ?_
   refine pA 5 16 (bm 25 63) HT_ ?_
   refine pA 9 20 (bm 25 575) HT_ ?_
   refine pA 10 21 (bm 25 1599) HT_ ?_
   refine pA 11 22 (bm 25 3647) HT_ ?_
   refine pA 12 23 (bm 25 7743) HT_ ?_
   refine pA 17 28 (bm 25 138815) HT_ ?_
   refine pA 18 29 (bm 25 400959) HT_ ?_
   refine pA 19 30 (bm 25 925247) HT_ ?_
   refine pA 20 31 (bm 25 1973823) HT_ ?_
   refine tA 6 17 (bm 25 1973887) HT_ HW_ hHeld ?_
   refine pA 7 18 (bm 25 1974015) HT_ ?_
   refine pA 8 19 (bm 25 1974271) HT_ ?_
   refine tA 13 24 (bm 25 1982463) HT_ HW_ hHeld ?_
   refine tA 21 32 (bm 25 4079615) HT_ HW_ hHeld ?_
   refine oA 14 (some 25) (bm 25 4095999) HT_ fun K hK => ?_
   refine gA Tryd.func62 #[.int .i64 ((rd_T93 l0 x4_1).f1)] ?_
   with_reducible refine (spec_l1Dec.calls k1 ((rd_T93 l0 x4_1).f1) t191 _ A7.out).mono ?_
   rintro e w13 ⟨rfl, hb⟩
   refine ⟨_, rfl, ?_⟩
   replace HB := kH HB hb
   (try clear hb)
   (try clear hb2)
   (try clear hk)
   (try clear hi)
   refine hK.out _ _ ⟨(hd HB hw189_0), (hd HB hw189_1), (hd HB hw189_2), (hd HB hw190_0), (hd HB hw190_1), (hd HB hw190_2), (hd HB hw192_0), (hd HB hw192_1), (hd HB hw192_2)⟩ (fun hHeld => ?_)
   clear hK K
   refine nA (some 25) ?_
   refine pA 15 26 (bm 25 4128767) HT_ ?_
   refine pA 16 27 (bm 25 4194303) HT_ ?_
   refine oA 22 (some 33) (bm 25 8388607) HT_ fun K hK => ?_
   refine gA Tryd.func62 #[.int .i64 ((rd_T93 l0 x4_1).f2)] ?_
   with_reducible refine (spec_l1Dec.calls k1 ((rd_T93 l0 x4_1).f2) t193 _ A10.out).mono ?_
   rintro e w14 ⟨rfl, hb⟩
   refine ⟨_, rfl, ?_⟩
   replace HB := kH HB hb
   (try clear hb)
   (try clear hb2)
   (try clear hk)
   (try clear hi)
   refine hK.out _ _ ⟨(hd HB hw189_0), (hd HB hw189_1), (hd HB hw189_2), (hd HB hw190_0), (hd HB hw190_1), (hd HB hw190_2), (hd HB hw192_0), (hd HB hw192_1), (hd HB hw192_2)⟩ (fun hHeld => ?_)
   clear hK K
   refine nA (some 33) ?_
   refine pA 23 34 (bm 25 16777215) HT_ ?_
   refine pA 24 3 (bm 25 33554431) HT_ ?_
   refine done_ (done_of HT_.out (by kernel_rfl)) ?_
   try go_wp2
   go_roundg k1
   case measure => have := HK1.out; omega
   case rel => exact ⟨((((((x3_1 ++ (⟨#[32]⟩ : ByteArray)) ++ ((rd_T93 l0 x4_1).f0)) ++ (⟨#[58]⟩ : ByteArray)) ++ t191) ++ (⟨#[58]⟩ : ByteArray)) ++ t193), (wrap64 (x4_1 + 1)), xR, xR, H', ⟨xL HK1⟩, ⟨bl HB⟩⟩

/-! ### spec_l9Sides: function 64 -/
def spec_l9Sides.l0 : Nat → List (S85) → ByteArray → Int → Option (ByteArray)
 | 0, _, _, _ => none
 | k + 1, x0, x3, x4 => if x4 < (x0.length : Int) then (if 0 ≤ x4 then (if (rd_T85 x0 x4).f1 = true then (if x3.size + 1 ≤ 9223372036854775807 then (if (x3 ++ (⟨#[32]⟩ : ByteArray)).size + 1 ≤ 9223372036854775807 then (if ((x3 ++ (⟨#[32]⟩ : ByteArray)) ++ (⟨#[108]⟩ : ByteArray)).size + ((rd_T85 x0 x4).f0).size ≤ 9223372036854775807 then (spec_l9Sides.l0 k x0 (((x3 ++ (⟨#[32]⟩ : ByteArray)) ++ (⟨#[108]⟩ : ByteArray)) ++ ((rd_T85 x0 x4).f0)) (wrap64 (x4 + 1))) else (none)) else (none)) else (none)) else (if x3.size + 1 ≤ 9223372036854775807 then (if (x3 ++ (⟨#[32]⟩ : ByteArray)).size + 1 ≤ 9223372036854775807 then (if ((x3 ++ (⟨#[32]⟩ : ByteArray)) ++ (⟨#[114]⟩ : ByteArray)).size + ((rd_T85 x0 x4).f0).size ≤ 9223372036854775807 then (spec_l9Sides.l0 k x0 (((x3 ++ (⟨#[32]⟩ : ByteArray)) ++ (⟨#[114]⟩ : ByteArray)) ++ ((rd_T85 x0 x4).f0)) (wrap64 (x4 + 1))) else (none)) else (none)) else (none))) else (none)) else (some x3)
def spec_l9Sides.f (k : Nat) (l0 : List (S85)) : Option (ByteArray) := spec_l9Sides.l0 k l0 (⟨#[]⟩ : ByteArray) 0
theorem spec_l9Sides.mono_l : ∀ k, (∀ y0 y1 y2, LeO (spec_l9Sides.l0 k y0 y1 y2) (spec_l9Sides.l0 (k + 1) y0 y1 y2))
 | 0 => fun _ _ _ r h => by simp [spec_l9Sides.l0] at h
 | k + 1 => by
  have ih0 := spec_l9Sides.mono_l k
  ·intro y0 y1 y2
   unfold spec_l9Sides.l0
   exact mo1 ih0
theorem spec_l9Sides.mono : ∀ a0 k, LeO (spec_l9Sides.f k a0) (spec_l9Sides.f (k + 1) a0) := by
 intro a0 k
 have ih0 := spec_l9Sides.mono_l k
 unfold spec_l9Sides.f
 exact mo1 ih0
set_option maxHeartbeats 64000000 in
set_option maxRecDepth 100000 in
theorem spec_l9Sides.calls (k : Nat) (A0 : Option Addr) (c0 : Nat) (l0 : List (S85)) (r : ByteArray) (w : World) (hr0 : Kd.C k85 w A0 l0.length l0) (hc0 : l0.length ≤ c0) (h : spec_l9Sides.f k l0 = some r) :
  Calls Tryd.prog 64 #[.slice A0 l0.length c0] w fun e w' => e = .returned (.string r) ∧ Drawn0 w w' := by
 have HR0 := Aside0.mk hr0
 have HC0 := Aside0.mk hc0
 clear hr0 hc0
 have H : (spec_l9Sides.l0 k l0 (⟨#[]⟩ : ByteArray) 0) = some r := h
 clear h
 have H' := Aside0.mk H
 clear H
 go_enter Tryd.func64, Tryd.ntmps64
 go_wp2
 go_loopg [3, 4] k (fun kq v3 v4 w' => ∃ (x3_1 : ByteArray) (x4_1 : Int), v3 = .string x3_1 ∧ v4 = .int .i64 x4_1 ∧ Aside0 (spec_l9Sides.l0 kq l0 x3_1 x4_1 = some r) ∧ Aside0 (kq ≤ k) ∧ Drawn0 w w')
 case atStart => exact ⟨((⟨#[]⟩ : ByteArray)), (0), xR, xR, H', ⟨Nat.le_refl _⟩, xW⟩
 case round =>
  clear H'
  obtain ⟨x3_1, x4_1, rfl, rfl, HA, HK1, ⟨m1, rfl⟩⟩ := hrel
  cases gk with
  | zero => exact absurd HA.out (by simp [spec_l9Sides.l0])
  | succ k1 =>
   have H := HA.out
   clear HA
   simp only [spec_l9Sides.l0] at H
   by_cases c2 : x4_1 < (l0.length : Int)
   rotate_left
   ·rw [if_neg c2] at H
    have c2b0 := decide_eq_false c2
    clear c2
    obtain rfl := Option.some.inj H
    go_wp2
    go_ret
    exact ⟨xR, xW⟩
   rw [if_pos c2] at H
   have c2b0 := decide_eq_true c2
   clear c2
   replace H := ipd H
   obtain ⟨c3b0, H⟩ := H
   obtain ⟨bq4, hbq4⟩ : ∃ b_ : Bool, b_ = ((rd_T85 l0 x4_1).f1) := ⟨_, rfl⟩
   replace H : (if bq4 = true then (if x3_1.size + 1 ≤ 9223372036854775807 then (if (x3_1 ++ (⟨#[32]⟩ : ByteArray)).size + 1 ≤ 9223372036854775807 then (if ((x3_1 ++ (⟨#[32]⟩ : ByteArray)) ++ (⟨#[108]⟩ : ByteArray)).size + ((rd_T85 l0 x4_1).f0).size ≤ 9223372036854775807 then (spec_l9Sides.l0 k1 l0 (((x3_1 ++ (⟨#[32]⟩ : ByteArray)) ++ (⟨#[108]⟩ : ByteArray)) ++ ((rd_T85 l0 x4_1).f0)) (wrap64 (x4_1 + 1))) else (none)) else (none)) else (none)) else (if x3_1.size + 1 ≤ 9223372036854775807 then (if (x3_1 ++ (⟨#[32]⟩ : ByteArray)).size + 1 ≤ 9223372036854775807 then (if ((x3_1 ++ (⟨#[32]⟩ : ByteArray)) ++ (⟨#[114]⟩ : ByteArray)).size + ((rd_T85 l0 x4_1).f0).size ≤ 9223372036854775807 then (spec_l9Sides.l0 k1 l0 (((x3_1 ++ (⟨#[32]⟩ : ByteArray)) ++ (⟨#[114]⟩ : ByteArray)) ++ ((rd_T85 l0 x4_1).f0)) (wrap64 (x4_1 + 1))) else (none)) else (none)) else (none))) = some r := by rw [← hbq4] at H; exact H
   have Nbq4 := Aside0.mk hbq4
   clear hbq4
   have p194 : 0 ≤ (x4_1 : Int) := of_decide_eq_true xA
   have q194 : x4_1 < (l0.length : Int) := of_decide_eq_true xA
   obtain ⟨ad194, e194, hx194_0, hx194_1⟩ := at_T85 HR0.out x4_1 p194 q194
   (try rw [← Nbq4.out] at hx194_1)
   cases e194
   replace p194 := eq_true p194
   replace q194 := eq_true q194
   by_cases c5 : bq4 = true
   ·subst c5
    rw [if_pos rfl] at H
    replace H := ip H
    obtain ⟨c6, H⟩ := H
    have c6b0 := eq_true c6
    have c6b1 := decide_eq_true c6
    have c6b2 := nf c6
    replace H := ip H
    obtain ⟨c7, H⟩ := H
    have c7b0 := eq_true c7
    have c7b1 := decide_eq_true c7
    have c7b2 := nf c7
    try (have c7b3 := c7b2; simp only [ByteArray.size_append, show (⟨#[32]⟩ : ByteArray).size = 1 from rfl] at c7b3)
    replace H := ip H
    obtain ⟨c8, H⟩ := H
    have c8b0 := eq_true c8
    have c8b1 := decide_eq_true c8
    have c8b2 := nf c8
    try (have c8b3 := c8b2; simp only [ByteArray.size_append, show (⟨#[108]⟩ : ByteArray).size = 1 from rfl, show (⟨#[32]⟩ : ByteArray).size = 1 from rfl] at c8b3)
    have H' := Aside0.mk H
    clear H
    have p195 : 0 ≤ (x4_1 : Int) := of_decide_eq_true xA
    have q195 : x4_1 < (l0.length : Int) := of_decide_eq_true xA
    obtain ⟨ad195, e195, hx195_0, hx195_1⟩ := at_T85 HR0.out x4_1 p195 q195
    (try rw [← Nbq4.out] at hx195_1)
    obtain rfl : ad194 = ad195 := (by injection e195)
    replace p195 := eq_true p195
    replace q195 := eq_true q195
    go_wp2
    go_roundg k1
    case measure => have := HK1.out; omega
    case rel => exact ⟨(((x3_1 ++ (⟨#[32]⟩ : ByteArray)) ++ (⟨#[108]⟩ : ByteArray)) ++ ((rd_T85 l0 x4_1).f0)), (wrap64 (x4_1 + 1)), xR, xR, H', ⟨xL HK1⟩, xW⟩
   replace c5 := Bool.eq_false_iff.mpr c5
   subst c5
   rw [if_neg (show ¬ (false = true) by decide)] at H
   replace H := ip H
   obtain ⟨c9, H⟩ := H
   have c9b0 := eq_true c9
   have c9b1 := decide_eq_true c9
   have c9b2 := nf c9
   replace H := ip H
   obtain ⟨c10, H⟩ := H
   have c10b0 := eq_true c10
   have c10b1 := decide_eq_true c10
   have c10b2 := nf c10
   try (have c10b3 := c10b2; simp only [ByteArray.size_append, show (⟨#[32]⟩ : ByteArray).size = 1 from rfl] at c10b3)
   replace H := ip H
   obtain ⟨c11, H⟩ := H
   have c11b0 := eq_true c11
   have c11b1 := decide_eq_true c11
   have c11b2 := nf c11
   try (have c11b3 := c11b2; simp only [ByteArray.size_append, show (⟨#[114]⟩ : ByteArray).size = 1 from rfl, show (⟨#[32]⟩ : ByteArray).size = 1 from rfl] at c11b3)
   have H' := Aside0.mk H
   clear H
   have p196 : 0 ≤ (x4_1 : Int) := of_decide_eq_true xA
   have q196 : x4_1 < (l0.length : Int) := of_decide_eq_true xA
   obtain ⟨ad196, e196, hx196_0, hx196_1⟩ := at_T85 HR0.out x4_1 p196 q196
   (try rw [← Nbq4.out] at hx196_1)
   obtain rfl : ad194 = ad196 := (by injection e196)
   replace p196 := eq_true p196
   replace q196 := eq_true q196
   go_wp2
   go_roundg k1
   case measure => have := HK1.out; omega
   case rel => exact ⟨(((x3_1 ++ (⟨#[32]⟩ : ByteArray)) ++ (⟨#[114]⟩ : ByteArray)) ++ ((rd_T85 l0 x4_1).f0)), (wrap64 (x4_1 + 1)), xR, xR, H', ⟨xL HK1⟩, xW⟩


/-! ### spec_l9Put: function 31 -/
def spec_l9Put.f (k : Nat) (a0_0 : Int) (a0_1 : ByteArray) (a0_2 : ByteArray) (a0_3 : Int) (a0_4 : Int) (a0_5 : Int) (l0_6 : List (S93)) (l0_7 : List (S93)) (l0_8 : List (S85)) : Option (ByteArray) := (spec_l1Dec.f k a0_0).bind fun t198 => (if t198.size + 1 ≤ 9223372036854775807 then ((spec_l3Put.f k a0_1 a0_2 a0_3 a0_4 a0_5).bind fun t199 => (if (t198 ++ (⟨#[32]⟩ : ByteArray)).size + t199.size ≤ 9223372036854775807 then (if ((t198 ++ (⟨#[32]⟩ : ByteArray)) ++ t199).size + 6 ≤ 9223372036854775807 then ((spec_l9Peaks.f k l0_6).bind fun t200 => (if (((t198 ++ (⟨#[32]⟩ : ByteArray)) ++ t199) ++ (⟨#[10, 112, 101, 97, 107, 115]⟩ : ByteArray)).size + t200.size ≤ 9223372036854775807 then (if ((((t198 ++ (⟨#[32]⟩ : ByteArray)) ++ t199) ++ (⟨#[10, 112, 101, 97, 107, 115]⟩ : ByteArray)) ++ t200).size + 6 ≤ 9223372036854775807 then ((spec_l9Peaks.f k l0_7).bind fun t201 => (if (((((t198 ++ (⟨#[32]⟩ : ByteArray)) ++ t199) ++ (⟨#[10, 112, 101, 97, 107, 115]⟩ : ByteArray)) ++ t200) ++ (⟨#[10, 115, 116, 101, 112, 115]⟩ : ByteArray)).size + t201.size ≤ 9223372036854775807 then (if ((((((t198 ++ (⟨#[32]⟩ : ByteArray)) ++ t199) ++ (⟨#[10, 112, 101, 97, 107, 115]⟩ : ByteArray)) ++ t200) ++ (⟨#[10, 115, 116, 101, 112, 115]⟩ : ByteArray)) ++ t201).size + 6 ≤ 9223372036854775807 then ((spec_l9Sides.f k l0_8).bind fun t202 => (if (((((((t198 ++ (⟨#[32]⟩ : ByteArray)) ++ t199) ++ (⟨#[10, 112, 101, 97, 107, 115]⟩ : ByteArray)) ++ t200) ++ (⟨#[10, 115, 116, 101, 112, 115]⟩ : ByteArray)) ++ t201) ++ (⟨#[10, 115, 105, 100, 101, 115]⟩ : ByteArray)).size + t202.size ≤ 9223372036854775807 then (if ((((((((t198 ++ (⟨#[32]⟩ : ByteArray)) ++ t199) ++ (⟨#[10, 112, 101, 97, 107, 115]⟩ : ByteArray)) ++ t200) ++ (⟨#[10, 115, 116, 101, 112, 115]⟩ : ByteArray)) ++ t201) ++ (⟨#[10, 115, 105, 100, 101, 115]⟩ : ByteArray)) ++ t202).size + 1 ≤ 9223372036854775807 then (some (((((((((t198 ++ (⟨#[32]⟩ : ByteArray)) ++ t199) ++ (⟨#[10, 112, 101, 97, 107, 115]⟩ : ByteArray)) ++ t200) ++ (⟨#[10, 115, 116, 101, 112, 115]⟩ : ByteArray)) ++ t201) ++ (⟨#[10, 115, 105, 100, 101, 115]⟩ : ByteArray)) ++ t202) ++ (⟨#[10]⟩ : ByteArray))) else (none)) else (none))) else (none)) else (none))) else (none)) else (none))) else (none)) else (none))) else (none))
theorem spec_l9Put.mono : ∀ a0 a1 a2 a3 a4 a5 a6 a7 a8 k, LeO (spec_l9Put.f k a0 a1 a2 a3 a4 a5 a6 a7 a8) (spec_l9Put.f (k + 1) a0 a1 a2 a3 a4 a5 a6 a7 a8) := by
 intro a0 a1 a2 a3 a4 a5 a6 a7 a8 k
 unfold spec_l9Put.f
 exact mo4 spec_l1Dec.mono spec_l3Put.mono spec_l9Peaks.mono spec_l9Sides.mono
def spec_l9Put.T1 : Bool × List (List Nat × List Nat) := (true, [([], []), ([0], [0]), ([1], [1]), ([2], [2]), ([], []), ([4], [4]), ([5, 2], [5]), ([3, 6], [3, 6]), ([7], [7]), ([], []), ([9], [9]), ([10], [10]), ([11, 6], [11]), ([8, 12], [8, 12]), ([13], [13]), ([], []), ([15], [15]), ([16], [16]), ([17, 12], [17]), ([14, 18], [14, 18]), ([19], [19]), ([], []), ([21], [21]), ([22, 18], [22]), ([20, 23], [20, 23]), ([24], [24]), ([25, 23, 0, 1, 2, 3, 4, 5, 6, 7, 8, 9, 10, 11, 12, 13, 14, 15, 16, 17, 18, 19, 20, 21, 22, 23, 24, 25], [25])])
def spec_l9Put.B1 : List Nat := [0, 1, 3, 7, 0, 16, 55, 127, 255, 0, 512, 1536, 3703, 8191, 16383, 0, 32768, 98304, 237175, 524287, 1048575, 0, 2097152, 6790775, 16777215, 33554431, 67108863]
theorem spec_l9Put.tab1 : rtab .any (opsOf Tryd.f31 1) = spec_l9Put.T1 := by kernel_rfl
theorem spec_l9Put.bits1 : waitsOk spec_l9Put.T1.2 spec_l9Put.B1 = true := by kernel_rfl
set_option maxHeartbeats 64000000 in
set_option maxRecDepth 100000 in
theorem spec_l9Put.calls (k : Nat) (a0_0 : Int) (a0_1 : ByteArray) (a0_2 : ByteArray) (a0_3 : Int) (a0_4 : Int) (a0_5 : Int) (A0_6 : Option Addr) (c0_6 : Nat) (l0_6 : List (S93)) (A0_7 : Option Addr) (c0_7 : Nat) (l0_7 : List (S93)) (A0_8 : Option Addr) (c0_8 : Nat) (l0_8 : List (S85)) (r : ByteArray) (w : World) (hr0_6 : Kd.C k93 w A0_6 l0_6.length l0_6) (hc0_6 : l0_6.length ≤ c0_6) (hr0_7 : Kd.C k93 w A0_7 l0_7.length l0_7) (hc0_7 : l0_7.length ≤ c0_7) (hr0_8 : Kd.C k85 w A0_8 l0_8.length l0_8) (hc0_8 : l0_8.length ≤ c0_8) (h : spec_l9Put.f k a0_0 a0_1 a0_2 a0_3 a0_4 a0_5 l0_6 l0_7 l0_8 = some r) :
  Calls Tryd.prog 31 #[.agg #[.int .i64 a0_0, .string a0_1, .string a0_2, .int .i64 a0_3, .int .i64 a0_4, .int .i64 a0_5, .slice A0_6 l0_6.length c0_6, .slice A0_7 l0_7.length c0_7, .slice A0_8 l0_8.length c0_8]] w fun e w' => e = .returned (.string r) ∧ Below w.heap.size w w' := by
 have hu29 := Tryd.underlying29
 have hu23 := Tryd.underlying23
 have HR0_6 := Aside0.mk hr0_6
 have HC0_6 := Aside0.mk hc0_6
 clear hr0_6 hc0_6
 have HR0_7 := Aside0.mk hr0_7
 have HC0_7 := Aside0.mk hc0_7
 clear hr0_7 hc0_7
 have HR0_8 := Aside0.mk hr0_8
 have HC0_8 := Aside0.mk hc0_8
 clear hr0_8 hc0_8
 have HB := Aside0.mk (Below.refl w.heap.size w)
 have H : ((spec_l1Dec.f k a0_0).bind fun t198 => (if t198.size + 1 ≤ 9223372036854775807 then ((spec_l3Put.f k a0_1 a0_2 a0_3 a0_4 a0_5).bind fun t199 => (if (t198 ++ (⟨#[32]⟩ : ByteArray)).size + t199.size ≤ 9223372036854775807 then (if ((t198 ++ (⟨#[32]⟩ : ByteArray)) ++ t199).size + 6 ≤ 9223372036854775807 then ((spec_l9Peaks.f k l0_6).bind fun t200 => (if (((t198 ++ (⟨#[32]⟩ : ByteArray)) ++ t199) ++ (⟨#[10, 112, 101, 97, 107, 115]⟩ : ByteArray)).size + t200.size ≤ 9223372036854775807 then (if ((((t198 ++ (⟨#[32]⟩ : ByteArray)) ++ t199) ++ (⟨#[10, 112, 101, 97, 107, 115]⟩ : ByteArray)) ++ t200).size + 6 ≤ 9223372036854775807 then ((spec_l9Peaks.f k l0_7).bind fun t201 => (if (((((t198 ++ (⟨#[32]⟩ : ByteArray)) ++ t199) ++ (⟨#[10, 112, 101, 97, 107, 115]⟩ : ByteArray)) ++ t200) ++ (⟨#[10, 115, 116, 101, 112, 115]⟩ : ByteArray)).size + t201.size ≤ 9223372036854775807 then (if ((((((t198 ++ (⟨#[32]⟩ : ByteArray)) ++ t199) ++ (⟨#[10, 112, 101, 97, 107, 115]⟩ : ByteArray)) ++ t200) ++ (⟨#[10, 115, 116, 101, 112, 115]⟩ : ByteArray)) ++ t201).size + 6 ≤ 9223372036854775807 then ((spec_l9Sides.f k l0_8).bind fun t202 => (if (((((((t198 ++ (⟨#[32]⟩ : ByteArray)) ++ t199) ++ (⟨#[10, 112, 101, 97, 107, 115]⟩ : ByteArray)) ++ t200) ++ (⟨#[10, 115, 116, 101, 112, 115]⟩ : ByteArray)) ++ t201) ++ (⟨#[10, 115, 105, 100, 101, 115]⟩ : ByteArray)).size + t202.size ≤ 9223372036854775807 then (if ((((((((t198 ++ (⟨#[32]⟩ : ByteArray)) ++ t199) ++ (⟨#[10, 112, 101, 97, 107, 115]⟩ : ByteArray)) ++ t200) ++ (⟨#[10, 115, 116, 101, 112, 115]⟩ : ByteArray)) ++ t201) ++ (⟨#[10, 115, 105, 100, 101, 115]⟩ : ByteArray)) ++ t202).size + 1 ≤ 9223372036854775807 then (some (((((((((t198 ++ (⟨#[32]⟩ : ByteArray)) ++ t199) ++ (⟨#[10, 112, 101, 97, 107, 115]⟩ : ByteArray)) ++ t200) ++ (⟨#[10, 115, 116, 101, 112, 115]⟩ : ByteArray)) ++ t201) ++ (⟨#[10, 115, 105, 100, 101, 115]⟩ : ByteArray)) ++ t202) ++ (⟨#[10]⟩ : ByteArray))) else (none)) else (none))) else (none)) else (none))) else (none)) else (none))) else (none)) else (none))) else (none))) = some r := h
 clear h
 replace H := oa H
 obtain ⟨t198, A2, H⟩ := H
 replace H := ip H
 obtain ⟨c3, H⟩ := H
 have c3b0 := eq_true c3
 have c3b1 := decide_eq_true c3
 have c3b2 := nf c3
 replace H := oa H
 obtain ⟨t199, A4, H⟩ := H
 replace H := ip H
 obtain ⟨c5, H⟩ := H
 have c5b0 := eq_true c5
 have c5b1 := decide_eq_true c5
 have c5b2 := nf c5
 try (have c5b3 := c5b2; simp only [ByteArray.size_append, show (⟨#[32]⟩ : ByteArray).size = 1 from rfl] at c5b3)
 replace H := ip H
 obtain ⟨c6, H⟩ := H
 have c6b0 := eq_true c6
 have c6b1 := decide_eq_true c6
 have c6b2 := nf c6
 try (have c6b3 := c6b2; simp only [ByteArray.size_append, show (⟨#[32]⟩ : ByteArray).size = 1 from rfl] at c6b3)
 replace H := oa H
 obtain ⟨t200, A7, H⟩ := H
 replace H := ip H
 obtain ⟨c8, H⟩ := H
 have c8b0 := eq_true c8
 have c8b1 := decide_eq_true c8
 have c8b2 := nf c8
 try (have c8b3 := c8b2; simp only [ByteArray.size_append, show (⟨#[10, 112, 101, 97, 107, 115]⟩ : ByteArray).size = 6 from rfl, show (⟨#[32]⟩ : ByteArray).size = 1 from rfl] at c8b3)
 replace H := ip H
 obtain ⟨c9, H⟩ := H
 have c9b0 := eq_true c9
 have c9b1 := decide_eq_true c9
 have c9b2 := nf c9
 try (have c9b3 := c9b2; simp only [ByteArray.size_append, show (⟨#[10, 112, 101, 97, 107, 115]⟩ : ByteArray).size = 6 from rfl, show (⟨#[32]⟩ : ByteArray).size = 1 from rfl] at c9b3)
 replace H := oa H
 obtain ⟨t201, A10, H⟩ := H
 replace H := ip H
 obtain ⟨c11, H⟩ := H
 have c11b0 := eq_true c11
 have c11b1 := decide_eq_true c11
 have c11b2 := nf c11
 try (have c11b3 := c11b2; simp only [ByteArray.size_append, show (⟨#[10, 112, 101, 97, 107, 115]⟩ : ByteArray).size = 6 from rfl, show (⟨#[10, 115, 116, 101, 112, 115]⟩ : ByteArray).size = 6 from rfl, show (⟨#[32]⟩ : ByteArray).size = 1 from rfl] at c11b3)
 replace H := ip H
 obtain ⟨c12, H⟩ := H
 have c12b0 := eq_true c12
 have c12b1 := decide_eq_true c12
 have c12b2 := nf c12
 try (have c12b3 := c12b2; simp only [ByteArray.size_append, show (⟨#[10, 112, 101, 97, 107, 115]⟩ : ByteArray).size = 6 from rfl, show (⟨#[10, 115, 116, 101, 112, 115]⟩ : ByteArray).size = 6 from rfl, show (⟨#[32]⟩ : ByteArray).size = 1 from rfl] at c12b3)
 replace H := oa H
 obtain ⟨t202, A13, H⟩ := H
 replace H := ip H
 obtain ⟨c14, H⟩ := H
 have c14b0 := eq_true c14
 have c14b1 := decide_eq_true c14
 have c14b2 := nf c14
 try (have c14b3 := c14b2; simp only [ByteArray.size_append, show (⟨#[10, 112, 101, 97, 107, 115]⟩ : ByteArray).size = 6 from rfl, show (⟨#[10, 115, 105, 100, 101, 115]⟩ : ByteArray).size = 6 from rfl, show (⟨#[10, 115, 116, 101, 112, 115]⟩ : ByteArray).size = 6 from rfl, show (⟨#[32]⟩ : ByteArray).size = 1 from rfl] at c14b3)
 replace H := ip H
 obtain ⟨c15, H⟩ := H
 have c15b0 := eq_true c15
 have c15b1 := decide_eq_true c15
 have c15b2 := nf c15
 try (have c15b3 := c15b2; simp only [ByteArray.size_append, show (⟨#[10, 112, 101, 97, 107, 115]⟩ : ByteArray).size = 6 from rfl, show (⟨#[10, 115, 105, 100, 101, 115]⟩ : ByteArray).size = 6 from rfl, show (⟨#[10, 115, 116, 101, 112, 115]⟩ : ByteArray).size = 6 from rfl, show (⟨#[32]⟩ : ByteArray).size = 1 from rfl] at c15b3)
 obtain rfl := Option.some.inj H
 go_enter Tryd.func31, Tryd.ntmps31
 try go_wp2_with ((with_reducible refine gg ?_); first | (refine bE 1 #[.int .i64 a0_0, .string a0_1, .string a0_2, .int .i64 a0_3, .int .i64 a0_4, .int .i64 a0_5, .slice A0_6 l0_6.length c0_6, .slice A0_7 l0_7.length c0_7, .slice A0_8 l0_8.length c0_8] 29 ?_; intro gb197 hg w16 hbox hb; have BK197 := am (hbox); have GW197 := zB hg HB; have GE197 := zB hg HB; replace HB := kH HB hb; clear hb hbox hg) | (refine store_event (t := 29) (p := 1) (v := ?vo_) (w1 := ?wo_) ?hg ?ho ?hn ?hr ?_; (case ho => rfl); (case hg => rfl); (case hn => rfl); (case hr => go_simp; rfl); intro wq_ hW_; have BQ_ := am hW_; have hzq_ := am hW_; replace hW_ := am hW_))
 replace BK197 := am (blk_drew BK197.out)
 replace HB := am (below_drew1 HB.out)
 (try (clear hzq_ BQ_; obtain ⟨hW_⟩ := hW_; subst hW_))
 refine start_ (n := 27) (S := cs9 gb197 (.int .i64 a0_0) (.string a0_1) (.string a0_2) (.int .i64 a0_3) (.int .i64 a0_4) (.int .i64 a0_5) (.slice A0_6 l0_6.length c0_6) (.slice A0_7 l0_7.length c0_7) (.slice A0_8 l0_8.length c0_8)) (ds := []) (bm 27 0) (by kernel_rfl) rfl rfl (bz9 BK197) (fun hHeld => ?_); refine with_tabW spec_l9Put.tab1 spec_l9Put.bits1 (fun HT_ HW_ => ?_)
 generalize w16.drew = w17 at BK197 HB hHeld ⊢
 refine pA 0 3 (bm 27 1) HT_ ?_
 refine pA 4 7 (bm 27 17) HT_ ?_
 refine pA 9 12 (bm 27 529) HT_ ?_
 refine pA 10 13 (bm 27 1553) HT_ ?_
 refine pA 15 18 (bm 27 34321) HT_ ?_
 refine pA 16 19 (bm 27 99857) HT_ ?_
 refine pA 21 24 (bm 27 2197009) HT_ ?_
 refine tA 1 4 (bm 27 2197011) HT_ HW_ hHeld ?_
 refine tA 5 8 (bm 27 2197043) HT_ HW_ hHeld ?_
 refine tA 11 14 (bm 27 2199091) HT_ HW_ hHeld ?_
 refine tA 17 20 (bm 27 2330163) HT_ HW_ hHeld ?_
 refine tA 22 25 (bm 27 6524467) HT_ HW_ hHeld ?_
 refine oA 2 (some 5) (bm 27 6524471) HT_ fun K hK => ?_
 refine gA Tryd.func62 #[.int .i64 a0_0] ?_
 with_reducible refine (spec_l1Dec.calls k a0_0 t198 _ A2.out).mono ?_
 rintro e w18 ⟨rfl, hb⟩
 refine ⟨_, rfl, ?_⟩
 replace BK197 := kP _ BK197 hb
 replace HB := kH HB hb
 (try clear hb)
 (try clear hb2)
 (try clear hk)
 (try clear hi)
 refine hK.out _ _ (bz9 BK197) (fun hHeld => ?_)
 clear hK K
 refine nA (some 5) ?_
 refine pA 3 6 (bm 27 6524479) HT_ ?_
 refine oA 6 (some 9) (bm 27 6524543) HT_ fun K hK => ?_
 refine gA Tryd.func44 #[.agg #[.string a0_1, .string a0_2, .int .i64 a0_3, .int .i64 a0_4, .int .i64 a0_5]] ?_
 with_reducible refine (spec_l3Put.calls k a0_1 a0_2 a0_3 a0_4 a0_5 t199 _ A4.out).mono ?_
 rintro e w19 ⟨rfl, hb⟩
 refine ⟨_, rfl, ?_⟩
 replace BK197 := kP _ BK197 hb
 replace HB := kH HB hb
 (try clear hb)
 (try clear hb2)
 (try clear hk)
 (try clear hi)
 refine hK.out _ _ (bz9 BK197) (fun hHeld => ?_)
 clear hK K
 refine nA (some 9) ?_
 refine pA 7 10 (bm 27 6524671) HT_ ?_
 refine pA 8 11 (bm 27 6524927) HT_ ?_
 refine oA 12 (some 15) (bm 27 6529023) HT_ fun K hK => ?_
 refine gA Tryd.func63 #[.slice A0_6 l0_6.length c0_6] ?_
 with_reducible refine (spec_l9Peaks.calls k _ _ l0_6 t200 _ ?side1 ?side2 A7.out).mono ?_
 (case side1 => exact cb HR0_6 HB)
 (case side2 => exact HC0_6.out)
 rintro e w20 ⟨rfl, hb⟩
 refine ⟨_, rfl, ?_⟩
 replace BK197 := kP _ BK197 hb
 replace HB := kH HB hb
 (try clear hb)
 (try clear hb2)
 (try clear hk)
 (try clear hi)
 refine hK.out _ _ (bz9 BK197) (fun hHeld => ?_)
 clear hK K
 refine nA (some 15) ?_
 refine pA 13 16 (bm 27 6537215) HT_ ?_
 refine pA 14 17 (bm 27 6553599) HT_ ?_
 refine oA 18 (some 21) (bm 27 6815743) HT_ fun K hK => ?_
 refine gA Tryd.func63 #[.slice A0_7 l0_7.length c0_7] ?_
 with_reducible refine (spec_l9Peaks.calls k _ _ l0_7 t201 _ ?side1 ?side2 A10.out).mono ?_
 (case side1 => exact cb HR0_7 HB)
 (case side2 => exact HC0_7.out)
 rintro e w21 ⟨rfl, hb⟩
 refine ⟨_, rfl, ?_⟩
 replace BK197 := kP _ BK197 hb
 replace HB := kH HB hb
 (try clear hb)
 (try clear hb2)
 (try clear hk)
 (try clear hi)
 refine hK.out _ _ (bz9 BK197) (fun hHeld => ?_)
 clear hK K
 refine nA (some 21) ?_
 refine pA 19 22 (bm 27 7340031) HT_ ?_
 refine pA 20 23 (bm 27 8388607) HT_ ?_
 refine oA 23 (some 26) (bm 27 16777215) HT_ fun K hK => ?_
 refine gA Tryd.func64 #[.slice A0_8 l0_8.length c0_8] ?_
 with_reducible refine (spec_l9Sides.calls k _ _ l0_8 t202 _ ?side1 ?side2 A13.out).mono ?_
 (case side1 => exact cb HR0_8 HB)
 (case side2 => exact HC0_8.out)
 rintro e w' ⟨rfl, ⟨nd, rfl⟩⟩
 refine ⟨_, rfl, ?_⟩
 refine hK.out _ _ (bz9 BK197) (fun hHeld => ?_)
 clear hK K
 refine nA (some 26) ?_
 refine pA 24 27 (bm 27 33554431) HT_ ?_
 refine pA 25 28 (bm 27 67108863) HT_ ?_
 refine pA 26 2 (bm 27 134217727) HT_ ?_
 refine done_ (done_of HT_.out (by kernel_rfl)) ?_
 try go_wp2
 (try (clear hzq_ BQ_; obtain ⟨hW_⟩ := hW_; subst hW_))
 go_ret
 exact ⟨xE, xB HB⟩

end Go.Proofs.YtgjljbaadglpnaaDoor.PFnExactPaidGet
