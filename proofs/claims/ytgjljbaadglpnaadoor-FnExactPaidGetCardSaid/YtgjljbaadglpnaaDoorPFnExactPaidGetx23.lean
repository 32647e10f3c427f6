/- Functions of the program and what each answers: the kit's print, shortened (wip/press2.py). -/
import Derived.Test.YtgjljbaadglpnaaDoorPFnExactPaidGetx0
import Derived.Test.YtgjljbaadglpnaaDoorPFnExactPaidGetx21
namespace Go.Proofs.YtgjljbaadglpnaaDoor.PFnExactPaidGet
open Go.Proofs.YtgjljbaadglpnaaDoor.Sq Go.RowKit Go.Proofs.YtgjljbaadglpnaaDoorW.PrintWords Go.Proofs.YtgjljbaadglpnaaDoorW.PrintLast Go.Proofs.YtgjljbaadglpnaaDoorW.PrintMore
attribute [local go_sem] max2_int min2_int max_two min_two max_three min_three max_four min_four   -- for this text's walks alone
set_option linter.unusedVariables false
set_option linter.unusedSimpArgs false

/-! ### laws_heldPeakS: function 74 -/
def laws_heldPeakS.l0 : Nat → List (S93) → Int → Int → Option (Int)
 | 0, _, _, _ => none
 | k + 1, x0, x1, x5 => if x5 < (x0.length : Int) then (if 0 ≤ x5 then ((laws_markText.f k x1).bind fun t431 => (if ((rd_T93 x0 x5).f0).toList = t431.toList then (if ((rd_T93 x0 x5).f1) = (wrap64 (x1 + 1)) then (if ((rd_T93 x0 x5).f2) = (wrap64 ((wrap64 (x1 + 1)) + 1)) then (laws_heldPeakS.l0 k x0 (wrap64 ((wrap64 ((wrap64 (x1 + 1)) + 1)) + 1)) (wrap64 (x5 + 1))) else (some (-1))) else (some (-1))) else (some (-1)))) else (none)) else (some x1)
def laws_heldPeakS.f (k : Nat) (l0 : List (S93)) (a1 : Int) : Option (Int) := laws_heldPeakS.l0 k l0 a1 0
theorem laws_heldPeakS.mono_l : ∀ k, (∀ y0 y1 y2, LeO (laws_heldPeakS.l0 k y0 y1 y2) (laws_heldPeakS.l0 (k + 1) y0 y1 y2))
 | 0 => fun _ _ _ r h => by simp [laws_heldPeakS.l0] at h
 | k + 1 => by
  have ih0 := laws_heldPeakS.mono_l k
  ·intro y0 y1 y2
   unfold laws_heldPeakS.l0
   exact mo2 ih0 laws_markText.mono
theorem laws_heldPeakS.mono : ∀ a0 a1 k, LeO (laws_heldPeakS.f k a0 a1) (laws_heldPeakS.f (k + 1) a0 a1) := by
 intro a0 a1 k
 have ih0 := laws_heldPeakS.mono_l k
 unfold laws_heldPeakS.f
 exact mo2 ih0 laws_markText.mono
def laws_heldPeakS.T4 : Bool × List (List Nat × List Nat) := (true, [([], []), ([], []), ([0, 1], [0, 1]), ([2], [2]), ([3], [3]), ([], []), ([5], [5]), ([4, 6], [4, 6])])
def laws_heldPeakS.B4 : List Nat := [0, 0, 3, 7, 15, 0, 32, 127]
theorem laws_heldPeakS.tab4 : rtab .any (opsOf Tryd.f74 4) = laws_heldPeakS.T4 := by kernel_rfl
theorem laws_heldPeakS.bits4 : waitsOk laws_heldPeakS.T4.2 laws_heldPeakS.B4 = true := by kernel_rfl
set_option maxHeartbeats 64000000 in
set_option maxRecDepth 100000 in
theorem laws_heldPeakS.calls (k : Nat) (A0 : Option Addr) (c0 : Nat) (l0 : List (S93)) (a1 : Int) (r : Int) (w : World) (hr0 : Kd.C k93 w A0 l0.length l0) (hc0 : l0.length ≤ c0) (h : laws_heldPeakS.f k l0 a1 = some r) :
  Calls Tryd.prog 74 #[.slice A0 l0.length c0, .int .i64 a1] w fun e w' => e = .returned (.int .i64 r) ∧ Below w.heap.size w w' := by
 have HR0 := Aside0.mk hr0
 have HC0 := Aside0.mk hc0
 clear hr0 hc0
 have HB := Aside0.mk (Below.refl w.heap.size w)
 have H : (laws_heldPeakS.l0 k l0 a1 0) = some r := h
 clear h
 have H' := Aside0.mk H
 clear H
 go_enter Tryd.func74, Tryd.ntmps74
 go_wp2
 go_loopg [1, 5] k (fun kq v1 v5 w' => ∃ (x1_1 : Int) (x5_1 : Int), v1 = .int .i64 x1_1 ∧ v5 = .int .i64 x5_1 ∧ Aside0 (laws_heldPeakS.l0 kq l0 x1_1 x5_1 = some r) ∧ Aside0 (kq ≤ k) ∧ Aside0 (Below w.heap.size w w'))
 case atStart => exact ⟨(a1), (0), xR, xR, H', ⟨Nat.le_refl _⟩, ⟨bl HB⟩⟩
 case round =>
  clear H'
  try clear p2
  obtain ⟨x1_1, x5_1, rfl, rfl, HA, HK1, HB⟩ := hrel
  cases gk with
  | zero => exact absurd HA.out (by simp [laws_heldPeakS.l0])
  | succ k1 =>
   have H := HA.out
   clear HA
   simp only [laws_heldPeakS.l0] at H
   by_cases c3 : x5_1 < (l0.length : Int)
   rotate_left
   ·rw [if_neg c3] at H
    have c3b0 := decide_eq_false c3
    clear c3
    obtain rfl := Option.some.inj H
    go_wp2
    go_ret
    exact ⟨xE, bl HB⟩
   rw [if_pos c3] at H
   have c3b0 := decide_eq_true c3
   clear c3
   replace H := ipd H
   obtain ⟨c4b0, H⟩ := H
   replace H := oa H
   obtain ⟨t431, A5, H⟩ := H
   try go_wp2
   replace HB := am (below_drew1 HB.out)
   have p430 : 0 ≤ (x5_1 : Int) := of_decide_eq_true xA
   have q430 : x5_1 < (l0.length : Int) := of_decide_eq_true xA
   obtain ⟨ad430, e430, hx430_0, hx430_1, hx430_2⟩ := at_T93 HR0.out x5_1 p430 q430
   have hw430_2 := hx430_2
   have hw430_1 := hx430_1
   have hw430_0 := hx430_0
   cases e430
   replace hx430_0 := hc HB hx430_0
   replace hx430_1 := hc HB hx430_1
   replace hx430_2 := hc HB hx430_2
   replace p430 := eq_true p430
   replace q430 := eq_true q430
   refine start_ (n := 8) (S := fun w' => w'.cell? (ad430.add ((x5_1).toNat * 3)) = some (.string ((rd_T93 l0 x5_1).f0)) ∧ w'.cell? ⟨(ad430.add ((x5_1).toNat * 3)).block, (ad430.add ((x5_1).toNat * 3)).off + 1, none⟩ = some (.int .i64 ((rd_T93 l0 x5_1).f1)) ∧ w'.cell? ⟨(ad430.add ((x5_1).toNat * 3)).block, (ad430.add ((x5_1).toNat * 3)).off + 2, none⟩ = some (.int .i64 ((rd_T93 l0 x5_1).f2))) (ds := []) (bm 8 0) (by kernel_rfl) rfl rfl ⟨(hd HB hw430_0), (hd HB hw430_1), (hd HB hw430_2)⟩ (fun hHeld => ?_); refine with_tabW laws_heldPeakS.tab4 laws_heldPeakS.bits4 (fun HT_ HW_ => ?_)
   generalize wr.drew = w9 at HB hx430_0 hx430_1 hx430_2 hHeld ⊢
   refine pA 0 12 (bm 8 1) HT_ ?_
   refine pA 1 13 (bm 8 3) HT_ ?_
   refine pA 2 14 (bm 8 7) HT_ ?_
   refine pA 3 15 (bm 8 15) HT_ ?_
   refine pA 5 17 (bm 8 47) HT_ ?_
   refine tA 4 16 (bm 8 63) HT_ HW_ hHeld ?_
   refine oA 6 (some 18) (bm 8 127) HT_ fun K hK => ?_
   refine gA Tryd.func73 #[.int .i64 x1_1] ?_
   with_reducible refine (laws_markText.calls k1 x1_1 t431 _ A5.out).mono ?_
   rintro e w10 ⟨rfl, hb⟩
   refine ⟨_, rfl, ?_⟩
   replace HB := kH HB hb
   (try clear hb)
   (try clear hb2)
   (try clear hk)
   (try clear hi)
   refine hK.out _ _ ⟨(hd HB hw430_0), (hd HB hw430_1), (hd HB hw430_2)⟩ (fun hHeld => ?_)
   clear hK K
   refine nA (some 18) ?_
   refine pA 7 19 (bm 8 255) HT_ ?_
   refine done_ (done_of HT_.out (by kernel_rfl)) ?_
   by_cases c6 : ((rd_T93 l0 x5_1).f0).toList = t431.toList
   rotate_left
   ·rw [if_neg c6] at H
    have c6b0 := beq_eq_false_iff_ne.mpr c6
    have c6b1 := bne_iff_ne.mpr c6
    try simp only [c6b0, c6b1, Bool.not_true, Bool.not_false]
    obtain rfl := Option.some.inj H
    try go_wp2
    go_ret
    exact ⟨xE, bl HB⟩
   rw [if_pos c6] at H
   have c6b0 := beq_iff_eq.mpr c6
   have c6b1 := bne_eq_false_iff_eq.mpr c6
   try simp only [c6b0, c6b1, Bool.not_true, Bool.not_false]
   clear c6
   have p432 : 0 ≤ (x5_1 : Int) := of_decide_eq_true xA
   have q432 : x5_1 < (l0.length : Int) := of_decide_eq_true xA
   obtain ⟨ad432, e432, hx432_0, hx432_1, hx432_2⟩ := at_T93 HR0.out x5_1 p432 q432
   obtain rfl : ad430 = ad432 := (by injection e432)
   replace hx432_0 := hc HB hx432_0
   replace hx432_1 := hc HB hx432_1
   replace hx432_2 := hc HB hx432_2
   replace p432 := eq_true p432
   replace q432 := eq_true q432
   by_cases c7 : ((rd_T93 l0 x5_1).f1) = (wrap64 (x1_1 + 1))
   rotate_left
   ·rw [if_neg c7] at H
    have c7b0 := beq_eq_false_iff_ne.mpr c7
    have c7b1 := bne_iff_ne.mpr c7
    obtain rfl := Option.some.inj H
    try go_wp2
    go_ret
    exact ⟨xE, bl HB⟩
   rw [if_pos c7] at H
   have c7b0 := beq_iff_eq.mpr c7
   have c7b1 := bne_eq_false_iff_eq.mpr c7
   clear c7
   have p433 : 0 ≤ (x5_1 : Int) := of_decide_eq_true xA
   have q433 : x5_1 < (l0.length : Int) := of_decide_eq_true xA
   obtain ⟨ad433, e433, hx433_0, hx433_1, hx433_2⟩ := at_T93 HR0.out x5_1 p433 q433
   obtain rfl : ad430 = ad433 := (by injection e433)
   replace hx433_0 := hc HB hx433_0
   replace hx433_1 := hc HB hx433_1
   replace hx433_2 := hc HB hx433_2
   replace p433 := eq_true p433
   replace q433 := eq_true q433
   by_cases c8 : ((rd_T93 l0 x5_1).f2) = (wrap64 ((wrap64 (x1_1 + 1)) + 1))
   rotate_left
   ·rw [if_neg c8] at H
    have c8b0 := beq_eq_false_iff_ne.mpr c8
    have c8b1 := bne_iff_ne.mpr c8
    obtain rfl := Option.some.inj H
    try go_wp2
    go_ret
    exact ⟨xE, bl HB⟩
   rw [if_pos c8] at H
   have c8b0 := beq_iff_eq.mpr c8
   have c8b1 := bne_eq_false_iff_eq.mpr c8
   clear c8
   have H' := Aside0.mk H
   clear H
   try go_wp2
   go_roundg k1
   case measure => have := HK1.out; omega
   case rel => exact ⟨(wrap64 ((wrap64 ((wrap64 (x1_1 + 1)) + 1)) + 1)), (wrap64 (x5_1 + 1)), xR, xR, H', ⟨xL HK1⟩, ⟨bl HB⟩⟩

/-! ### laws_heldProof: function 41 -/
def laws_heldProof.f (k : Nat) (l0_0 : List (S93)) (l0_1 : List (S93)) (a1 : Int) : Option (Int) := (laws_heldPeakS.f k l0_0 a1).bind fun t435 => (if t435 < 0 then (some (-1)) else ((laws_heldPeakS.f k l0_1 t435).bind fun t436 => (if t436 < 0 then (some (-1)) else (some t436))))
theorem laws_heldProof.mono : ∀ a0 a1 a2 k, LeO (laws_heldProof.f k a0 a1 a2) (laws_heldProof.f (k + 1) a0 a1 a2) := by
 intro a0 a1 a2 k
 unfold laws_heldProof.f
 exact mo1 laws_heldPeakS.mono
set_option maxHeartbeats 64000000 in
set_option maxRecDepth 100000 in
theorem laws_heldProof.calls (k : Nat) (A0_0 : Option Addr) (c0_0 : Nat) (l0_0 : List (S93)) (A0_1 : Option Addr) (c0_1 : Nat) (l0_1 : List (S93)) (a1 : Int) (r : Int) (w : World) (hr0_0 : Kd.C k93 w A0_0 l0_0.length l0_0) (hc0_0 : l0_0.length ≤ c0_0) (hr0_1 : Kd.C k93 w A0_1 l0_1.length l0_1) (hc0_1 : l0_1.length ≤ c0_1) (h : laws_heldProof.f k l0_0 l0_1 a1 = some r) :
  Calls Tryd.prog 41 #[.agg #[.slice A0_0 l0_0.length c0_0, .slice A0_1 l0_1.length c0_1], .int .i64 a1] w fun e w' => e = .returned (.int .i64 r) ∧ Below w.heap.size w w' := by
 have hu26 := Tryd.underlying26
 have HR0_0 := Aside0.mk hr0_0
 have HC0_0 := Aside0.mk hc0_0
 clear hr0_0 hc0_0
 have HR0_1 := Aside0.mk hr0_1
 have HC0_1 := Aside0.mk hc0_1
 clear hr0_1 hc0_1
 have HB := Aside0.mk (Below.refl w.heap.size w)
 have H : ((laws_heldPeakS.f k l0_0 a1).bind fun t435 => (if t435 < 0 then (some (-1)) else ((laws_heldPeakS.f k l0_1 t435).bind fun t436 => (if t436 < 0 then (some (-1)) else (some t436))))) = some r := h
 clear h
 replace H := oa H
 obtain ⟨t435, A3, H⟩ := H
 go_enter Tryd.func41, Tryd.ntmps41
 go_upto_if 10 with ((with_reducible refine gg ?_); first | (refine bE 2 #[.slice A0_0 l0_0.length c0_0, .slice A0_1 l0_1.length c0_1] 26 ?_; intro gb434 hg w5 hbox hb; have BK434 := am (hbox); have GW434 := zB hg HB; have GE434 := zB hg HB; replace HB := kH HB hb; clear hb hbox hg; have hz6 := bc2 BK434) | (refine gL 8 Tryd.func74 #[.slice A0_0 l0_0.length c0_0, .int .i64 a1] ?_; (with_reducible refine (laws_heldPeakS.calls k _ _ l0_0 a1 t435 _ ?side1 ?side2 A3.out).mono ?_); (case side1 => exact cb HR0_0 HB); (case side2 => exact HC0_0.out); rintro e w7 ⟨rfl, hb⟩; refine ⟨_, rfl, ?_⟩; replace BK434 := kP _ BK434 hb; replace HB := kH HB hb; (try clear hb)))
 by_cases c4 : t435 < 0
 ·rw [if_pos c4] at H
  have c4b0 := decide_eq_true c4
  try simp only [c4b0, Bool.not_true, Bool.not_false]
  clear c4
  obtain rfl := Option.some.inj H
  go_wp2
  go_ret
  exact ⟨xE, xB HB⟩
 rw [if_neg c4] at H
 have c4b0 := decide_eq_false c4
 try simp only [c4b0, Bool.not_true, Bool.not_false]
 clear c4
 replace H := oa H
 obtain ⟨t436, A8, H⟩ := H
 have hz13 := bc2 BK434
 go_upto_if 16 with ((with_reducible refine gg ?_); refine gL 14 Tryd.func74 #[.slice A0_1 l0_1.length c0_1, .int .i64 t435] ?_; (with_reducible refine (laws_heldPeakS.calls k _ _ l0_1 t435 t436 _ ?side1 ?side2 A8.out).mono ?_); (case side1 => exact cb HR0_1 HB); (case side2 => exact HC0_1.out); rintro e w14 ⟨rfl, hb⟩; refine ⟨_, rfl, ?_⟩; replace BK434 := kP _ BK434 hb; replace HB := kH HB hb; (try clear hb))
 by_cases c9 : t436 < 0
 ·rw [if_pos c9] at H
  have c9b0 := decide_eq_true c9
  try simp only [c9b0, Bool.not_true, Bool.not_false]
  clear c9
  obtain rfl := Option.some.inj H
  go_wp2
  go_ret
  exact ⟨xE, xB HB⟩
 rw [if_neg c9] at H
 have c9b0 := decide_eq_false c9
 try simp only [c9b0, Bool.not_true, Bool.not_false]
 clear c9
 obtain rfl := Option.some.inj H
 go_wp2
 go_ret
 exact ⟨xE, xB HB⟩


/-! ### laws_heldSideS: function 42 -/
def laws_heldSideS.l0 : Nat → List (S85) → Int → Int → Option (Int)
 | 0, _, _, _ => none
 | k + 1, x0, x1, x5 => if x5 < (x0.length : Int) then (if 0 ≤ x5 then ((laws_markText.f k x1).bind fun t438 => (if ((rd_T85 x0 x5).f0).toList = t438.toList then (if (((rd_T85 x0 x5).f1) != ((Int.tmod (wrap64 (x1 + 1)) 3) == 0)) = true then (some (-1)) else (laws_heldSideS.l0 k x0 (wrap64 ((wrap64 (x1 + 1)) + 1)) (wrap64 (x5 + 1)))) else (some (-1)))) else (none)) else (some x1)
def laws_heldSideS.f (k : Nat) (l0 : List (S85)) (a1 : Int) : Option (Int) := laws_heldSideS.l0 k l0 a1 0
theorem laws_heldSideS.mono_l : ∀ k, (∀ y0 y1 y2, LeO (laws_heldSideS.l0 k y0 y1 y2) (laws_heldSideS.l0 (k + 1) y0 y1 y2))
 | 0 => fun _ _ _ r h => by simp [laws_heldSideS.l0] at h
 | k + 1 => by
  have ih0 := laws_heldSideS.mono_l k
  ·intro y0 y1 y2
   unfold laws_heldSideS.l0
   exact mo2 ih0 laws_markText.mono
theorem laws_heldSideS.mono : ∀ a0 a1 k, LeO (laws_heldSideS.f k a0 a1) (laws_heldSideS.f (k + 1) a0 a1) := by
 intro a0 a1 k
 have ih0 := laws_heldSideS.mono_l k
 unfold laws_heldSideS.f
 exact mo2 ih0 laws_markText.mono
def laws_heldSideS.T4 : Bool × List (List Nat × List Nat) := (true, [([], []), ([], []), ([0, 1], [0, 1]), ([2], [2]), ([3], [3]), ([], []), ([5], [5]), ([4, 6], [4, 6])])
def laws_heldSideS.B4 : List Nat := [0, 0, 3, 7, 15, 0, 32, 127]
theorem laws_heldSideS.tab4 : rtab .any (opsOf Tryd.f42 4) = laws_heldSideS.T4 := by kernel_rfl
theorem laws_heldSideS.bits4 : waitsOk laws_heldSideS.T4.2 laws_heldSideS.B4 = true := by kernel_rfl
set_option maxHeartbeats 64000000 in
set_option maxRecDepth 100000 in
theorem laws_heldSideS.calls (k : Nat) (A0 : Option Addr) (c0 : Nat) (l0 : List (S85)) (a1 : Int) (r : Int) (w : World) (hr0 : Kd.C k85 w A0 l0.length l0) (hc0 : l0.length ≤ c0) (h : laws_heldSideS.f k l0 a1 = some r) :
  Calls Tryd.prog 42 #[.slice A0 l0.length c0, .int .i64 a1] w fun e w' => e = .returned (.int .i64 r) ∧ Below w.heap.size w w' := by
 have HR0 := Aside0.mk hr0
 have HC0 := Aside0.mk hc0
 clear hr0 hc0
 have HB := Aside0.mk (Below.refl w.heap.size w)
 have H : (laws_heldSideS.l0 k l0 a1 0) = some r := h
 clear h
 have H' := Aside0.mk H
 clear H
 go_enter Tryd.func42, Tryd.ntmps42
 go_wp2
 go_loopg [1, 5] k (fun kq v1 v5 w' => ∃ (x1_1 : Int) (x5_1 : Int), v1 = .int .i64 x1_1 ∧ v5 = .int .i64 x5_1 ∧ Aside0 (laws_heldSideS.l0 kq l0 x1_1 x5_1 = some r) ∧ Aside0 (kq ≤ k) ∧ Aside0 (Below w.heap.size w w'))
 case atStart => exact ⟨(a1), (0), xR, xR, H', ⟨Nat.le_refl _⟩, ⟨bl HB⟩⟩
 case round =>
  clear H'
  try clear p2
  obtain ⟨x1_1, x5_1, rfl, rfl, HA, HK1, HB⟩ := hrel
  cases gk with
  | zero => exact absurd HA.out (by simp [laws_heldSideS.l0])
  | succ k1 =>
   have H := HA.out
   clear HA
   simp only [laws_heldSideS.l0] at H
   by_cases c3 : x5_1 < (l0.length : Int)
   rotate_left
   ·rw [if_neg c3] at H
    have c3b0 := decide_eq_false c3
    clear c3
    obtain rfl := Option.some.inj H
    go_wp2
    go_ret
    exact ⟨xE, bl HB⟩
   rw [if_pos c3] at H
   have c3b0 := decide_eq_true c3
   clear c3
   replace H := ipd H
   obtain ⟨c4b0, H⟩ := H
   replace H := oa H
   obtain ⟨t438, A5, H⟩ := H
   by_cases c6 : ((rd_T85 l0 x5_1).f0).toList = t438.toList
   rotate_left
   ·rw [if_neg c6] at H
    have c6b0 := beq_eq_false_iff_ne.mpr c6
    have c6b1 := bne_iff_ne.mpr c6
    obtain rfl := Option.some.inj H
    try go_wp2
    replace HB := am (below_drew1 HB.out)
    have p437 : 0 ≤ (x5_1 : Int) := of_decide_eq_true xA
    have q437 : x5_1 < (l0.length : Int) := of_decide_eq_true xA
    obtain ⟨ad437, e437, hx437_0, hx437_1⟩ := at_T85 HR0.out x5_1 p437 q437
    have hw437_1 := hx437_1
    have hw437_0 := hx437_0
    cases e437
    replace hx437_0 := hc HB hx437_0
    replace hx437_1 := hc HB hx437_1
    replace p437 := eq_true p437
    replace q437 := eq_true q437
    refine start_ (n := 8) (S := fun w' => w'.cell? (ad437.add ((x5_1).toNat * 2)) = some (.string ((rd_T85 l0 x5_1).f0)) ∧ w'.cell? ⟨(ad437.add ((x5_1).toNat * 2)).block, (ad437.add ((x5_1).toNat * 2)).off + 1, none⟩ = some (.bool ((rd_T85 l0 x5_1).f1))) (ds := []) (bm 8 0) (by kernel_rfl) rfl rfl ⟨(hd HB hw437_0), (hd HB hw437_1)⟩ (fun hHeld => ?_); refine with_tabW laws_heldSideS.tab4 laws_heldSideS.bits4 (fun HT_ HW_ => ?_)
    generalize wr.drew = w12 at HB hx437_0 hx437_1 hHeld ⊢
    refine pA 0 12 (bm 8 1) HT_ ?_
    refine pA 1 13 (bm 8 3) HT_ ?_
    refine pA 2 14 (bm 8 7) HT_ ?_
    refine pA 3 15 (bm 8 15) HT_ ?_
    refine pA 5 17 (bm 8 47) HT_ ?_
    refine tA 4 16 (bm 8 63) HT_ HW_ hHeld ?_
    refine oA 6 (some 18) (bm 8 127) HT_ fun K hK => ?_
    refine gA Tryd.func73 #[.int .i64 x1_1] ?_
    with_reducible refine (laws_markText.calls k1 x1_1 t438 _ A5.out).mono ?_
    rintro e w13 ⟨rfl, hb⟩
    refine ⟨_, rfl, ?_⟩
    replace HB := kH HB hb
    (try clear hb)
    (try clear hb2)
    (try clear hk)
    (try clear hi)
    refine hK.out _ _ ⟨(hd HB hw437_0), (hd HB hw437_1)⟩ (fun hHeld => ?_)
    clear hK K
    refine nA (some 18) ?_
    refine pA 7 19 (bm 8 255) HT_ ?_
    refine done_ (done_of HT_.out (by kernel_rfl)) ?_
    try go_wp2
    go_ret
    exact ⟨xE, bl HB⟩
   rw [if_pos c6] at H
   have c6b0 := beq_iff_eq.mpr c6
   have c6b1 := bne_eq_false_iff_eq.mpr c6
   clear c6
   by_cases c7 : (((rd_T85 l0 x5_1).f1) != ((Int.tmod (wrap64 (x1_1 + 1)) 3) == 0)) = true
   ·rw [if_pos c7] at H
    have c7b0 : (((rd_T85 l0 x5_1).f1) != ((Int.tmod (wrap64 (x1_1 + 1)) 3) == 0)) = true := c7
    (try (have c7b1 : decide (((rd_T85 l0 x5_1).f1) = ((Int.tmod (wrap64 (x1_1 + 1)) 3) == 0)) = false := by simpa using c7))
    (try (have c7b2 : (((rd_T85 l0 x5_1).f1) == ((Int.tmod (wrap64 (x1_1 + 1)) 3) == 0)) = false := by simpa using c7))
    (try (have c7b3 : ¬ (((rd_T85 l0 x5_1).f1) = ((Int.tmod (wrap64 (x1_1 + 1)) 3) == 0)) := by simpa using c7))
    clear c7
    obtain rfl := Option.some.inj H
    try go_wp2
    replace HB := am (below_drew1 HB.out)
    have p437 : 0 ≤ (x5_1 : Int) := of_decide_eq_true xA
    have q437 : x5_1 < (l0.length : Int) := of_decide_eq_true xA
    obtain ⟨ad437, e437, hx437_0, hx437_1⟩ := at_T85 HR0.out x5_1 p437 q437
    have hw437_1 := hx437_1
    have hw437_0 := hx437_0
    cases e437
    replace hx437_0 := hc HB hx437_0
    replace hx437_1 := hc HB hx437_1
    replace p437 := eq_true p437
    replace q437 := eq_true q437
    refine start_ (n := 8) (S := fun w' => w'.cell? (ad437.add ((x5_1).toNat * 2)) = some (.string ((rd_T85 l0 x5_1).f0)) ∧ w'.cell? ⟨(ad437.add ((x5_1).toNat * 2)).block, (ad437.add ((x5_1).toNat * 2)).off + 1, none⟩ = some (.bool ((rd_T85 l0 x5_1).f1))) (ds := []) (bm 8 0) (by kernel_rfl) rfl rfl ⟨(hd HB hw437_0), (hd HB hw437_1)⟩ (fun hHeld => ?_); refine with_tabW laws_heldSideS.tab4 laws_heldSideS.bits4 (fun HT_ HW_ => ?_)
    generalize wr.drew = w8 at HB hx437_0 hx437_1 hHeld ⊢
    refine pA 0 12 (bm 8 1) HT_ ?_
    refine pA 1 13 (bm 8 3) HT_ ?_
    refine pA 2 14 (bm 8 7) HT_ ?_
    refine pA 3 15 (bm 8 15) HT_ ?_
    refine pA 5 17 (bm 8 47) HT_ ?_
    refine tA 4 16 (bm 8 63) HT_ HW_ hHeld ?_
    refine oA 6 (some 18) (bm 8 127) HT_ fun K hK => ?_
    refine gA Tryd.func73 #[.int .i64 x1_1] ?_
    with_reducible refine (laws_markText.calls k1 x1_1 t438 _ A5.out).mono ?_
    rintro e w9 ⟨rfl, hb⟩
    refine ⟨_, rfl, ?_⟩
    replace HB := kH HB hb
    (try clear hb)
    (try clear hb2)
    (try clear hk)
    (try clear hi)
    refine hK.out _ _ ⟨(hd HB hw437_0), (hd HB hw437_1)⟩ (fun hHeld => ?_)
    clear hK K
    refine nA (some 18) ?_
    refine pA 7 19 (bm 8 255) HT_ ?_
    refine done_ (done_of HT_.out (by kernel_rfl)) ?_
    have p439 : 0 ≤ (x5_1 : Int) := of_decide_eq_true xA
    have q439 : x5_1 < (l0.length : Int) := of_decide_eq_true xA
    obtain ⟨ad439, e439, hx439_0, hx439_1⟩ := at_T85 HR0.out x5_1 p439 q439
    obtain rfl : ad437 = ad439 := (by injection e439)
    replace hx439_0 := hc HB hx439_0
    replace hx439_1 := hc HB hx439_1
    replace p439 := eq_true p439
    replace q439 := eq_true q439
    try go_wp2
    go_ret
    exact ⟨xE, bl HB⟩
   rw [if_neg c7] at H
   have c7b0 : (((rd_T85 l0 x5_1).f1) != ((Int.tmod (wrap64 (x1_1 + 1)) 3) == 0)) = false := by simpa using c7
   (try (have c7b1 : decide (((rd_T85 l0 x5_1).f1) = ((Int.tmod (wrap64 (x1_1 + 1)) 3) == 0)) = true := by simpa using c7))
   (try (have c7b2 : (((rd_T85 l0 x5_1).f1) == ((Int.tmod (wrap64 (x1_1 + 1)) 3) == 0)) = true := by simpa using c7))
   clear c7
   have H' := Aside0.mk H
   clear H
   try go_wp2
   replace HB := am (below_drew1 HB.out)
   have p437 : 0 ≤ (x5_1 : Int) := of_decide_eq_true xA
   have q437 : x5_1 < (l0.length : Int) := of_decide_eq_true xA
   obtain ⟨ad437, e437, hx437_0, hx437_1⟩ := at_T85 HR0.out x5_1 p437 q437
   have hw437_1 := hx437_1
   have hw437_0 := hx437_0
   cases e437
   replace hx437_0 := hc HB hx437_0
   replace hx437_1 := hc HB hx437_1
   replace p437 := eq_true p437
   replace q437 := eq_true q437
   refine start_ (n := 8) (S := fun w' => w'.cell? (ad437.add ((x5_1).toNat * 2)) = some (.string ((rd_T85 l0 x5_1).f0)) ∧ w'.cell? ⟨(ad437.add ((x5_1).toNat * 2)).block, (ad437.add ((x5_1).toNat * 2)).off + 1, none⟩ = some (.bool ((rd_T85 l0 x5_1).f1))) (ds := []) (bm 8 0) (by kernel_rfl) rfl rfl ⟨(hd HB hw437_0), (hd HB hw437_1)⟩ (fun hHeld => ?_); refine with_tabW laws_heldSideS.tab4 laws_heldSideS.bits4 (fun HT_ HW_ => ?_)
   generalize wr.drew = w10 at HB hx437_0 hx437_1 hHeld ⊢
   refine pA 0 12 (bm 8 1) HT_ ?_
   refine pA 1 13 (bm 8 3) HT_ ?_
   refine pA 2 14 (bm 8 7) HT_ ?_
   refine pA 3 15 (bm 8 15) HT_ ?_
   refine pA 5 17 (bm 8 47) HT_ ?_
   refine tA 4 16 (bm 8 63) HT_ HW_ hHeld ?_
   refine oA 6 (some 18) (bm 8 127) HT_ fun K hK => ?_
   refine gA Tryd.func73 #[.int .i64 x1_1] ?_
   with_reducible refine (laws_markText.calls k1 x1_1 t438 _ A5.out).mono ?_
   rintro e w11 ⟨rfl, hb⟩
   refine ⟨_, rfl, ?_⟩
   replace HB := kH HB hb
   (try clear hb)
   (try clear hb2)
   (try clear hk)
   (try clear hi)
   refine hK.out _ _ ⟨(hd HB hw437_0), (hd HB hw437_1)⟩ (fun hHeld => ?_)
   clear hK K
   refine nA (some 18) ?_
   refine pA 7 19 (bm 8 255) HT_ ?_
   refine done_ (done_of HT_.out (by kernel_rfl)) ?_
   have p439 : 0 ≤ (x5_1 : Int) := of_decide_eq_true xA
   have q439 : x5_1 < (l0.length : Int) := of_decide_eq_true xA
   obtain ⟨ad439, e439, hx439_0, hx439_1⟩ := at_T85 HR0.out x5_1 p439 q439
   obtain rfl : ad437 = ad439 := (by injection e439)
   replace hx439_0 := hc HB hx439_0
   replace hx439_1 := hc HB hx439_1
   replace p439 := eq_true p439
   replace q439 := eq_true q439
   try go_wp2
   go_roundg k1
   case measure => have := HK1.out; omega
   case rel => exact ⟨(wrap64 ((wrap64 (x1_1 + 1)) + 1)), (wrap64 (x5_1 + 1)), xR, xR, H', ⟨xL HK1⟩, ⟨bl HB⟩⟩

/-! ### laws_heldPaid: function 12 -/
def laws_heldPaid.f (k : Nat) (a0_0 : Int) (a0_1 : ByteArray) (a0_2 : ByteArray) (a0_3 : Int) (a0_4 : Int) (a0_5 : Int) (l0_6 : List (S93)) (l0_7 : List (S93)) (l0_8 : List (S85)) (a1 : Int) : Option (Int) := (laws_heldProof.f k l0_6 l0_7 a1).bind fun t441 => (if t441 < 0 then (some (-1)) else ((laws_heldSideS.f k l0_8 t441).bind fun t442 => (if t442 < 0 then (some (-1)) else (some t442))))
theorem laws_heldPaid.mono : ∀ a0 a1 a2 a3 a4 a5 a6 a7 a8 a9 k, LeO (laws_heldPaid.f k a0 a1 a2 a3 a4 a5 a6 a7 a8 a9) (laws_heldPaid.f (k + 1) a0 a1 a2 a3 a4 a5 a6 a7 a8 a9) := by
 intro a0 a1 a2 a3 a4 a5 a6 a7 a8 a9 k
 unfold laws_heldPaid.f
 exact mo2 laws_heldProof.mono laws_heldSideS.mono
set_option maxHeartbeats 64000000 in
set_option maxRecDepth 100000 in
theorem laws_heldPaid.calls (k : Nat) (a0_0 : Int) (a0_1 : ByteArray) (a0_2 : ByteArray) (a0_3 : Int) (a0_4 : Int) (a0_5 : Int) (A0_6 : Option Addr) (c0_6 : Nat) (l0_6 : List (S93)) (A0_7 : Option Addr) (c0_7 : Nat) (l0_7 : List (S93)) (A0_8 : Option Addr) (c0_8 : Nat) (l0_8 : List (S85)) (a1 : Int) (r : Int) (w : World) (hr0_6 : Kd.C k93 w A0_6 l0_6.length l0_6) (hc0_6 : l0_6.length ≤ c0_6) (hr0_7 : Kd.C k93 w A0_7 l0_7.length l0_7) (hc0_7 : l0_7.length ≤ c0_7) (hr0_8 : Kd.C k85 w A0_8 l0_8.length l0_8) (hc0_8 : l0_8.length ≤ c0_8) (h : laws_heldPaid.f k a0_0 a0_1 a0_2 a0_3 a0_4 a0_5 l0_6 l0_7 l0_8 a1 = some r) :
  Calls Tryd.prog 12 #[.agg #[.int .i64 a0_0, .string a0_1, .string a0_2, .int .i64 a0_3, .int .i64 a0_4, .int .i64 a0_5, .slice A0_6 l0_6.length c0_6, .slice A0_7 l0_7.length c0_7, .slice A0_8 l0_8.length c0_8], .int .i64 a1] w fun e w' => e = .returned (.int .i64 r) ∧ Below w.heap.size w w' := by
 have hu29 := Tryd.underlying29
 have hu26 := Tryd.underlying26
 have HR0_6 := Aside0.mk hr0_6
 have HC0_6 := Aside0.mk hc0_6
 clear hr0_6 hc0_6
 have HR0_7 := Aside0.mk hr0_7
 have HC0_7 := Aside0.mk hc0_7
 clear hr0_7 hc0_7
 have HR0_8 := Aside0.mk hr0_8
 have HC0_8 := Aside0.mk hc0_8
 clear hr0_8 hc0_8
 have HB := Aside0.mk (Below.refl w.heap.size w)
 have H : ((laws_heldProof.f k l0_6 l0_7 a1).bind fun t441 => (if t441 < 0 then (some (-1)) else ((laws_heldSideS.f k l0_8 t441).bind fun t442 => (if t442 < 0 then (some (-1)) else (some t442))))) = some r := h
 clear h
 replace H := oa H
 obtain ⟨t441, A3, H⟩ := H
 go_enter Tryd.func12, Tryd.ntmps12
 go_upto_if 10 with ((with_reducible refine gg ?_); first | (refine bE 2 #[.int .i64 a0_0, .string a0_1, .string a0_2, .int .i64 a0_3, .int .i64 a0_4, .int .i64 a0_5, .slice A0_6 l0_6.length c0_6, .slice A0_7 l0_7.length c0_7, .slice A0_8 l0_8.length c0_8] 29 ?_; intro gb440 hg w5 hbox hb; have BK440 := am (hbox); have GW440 := zB hg HB; have GE440 := zB hg HB; replace HB := kH HB hb; clear hb hbox hg; have hz6 := bc9 BK440) | (refine gL 8 Tryd.func41 #[.agg #[.slice A0_6 l0_6.length c0_6, .slice A0_7 l0_7.length c0_7], .int .i64 a1] ?_; (with_reducible refine (laws_heldProof.calls k _ _ l0_6 _ _ l0_7 a1 t441 _ ?side1 ?side2 ?side3 ?side4 A3.out).mono ?_); (case side1 => exact cb HR0_6 HB); (case side2 => exact HC0_6.out); (case side3 => exact cb HR0_7 HB); (case side4 => exact HC0_7.out); rintro e w7 ⟨rfl, hb⟩; refine ⟨_, rfl, ?_⟩; replace BK440 := kP _ BK440 hb; replace HB := kH HB hb; (try clear hb)))
 by_cases c4 : t441 < 0
 ·rw [if_pos c4] at H
  have c4b0 := decide_eq_true c4
  try simp only [c4b0, Bool.not_true, Bool.not_false]
  clear c4
  obtain rfl := Option.some.inj H
  go_wp2
  go_ret
  exact ⟨xE, xB HB⟩
 rw [if_neg c4] at H
 have c4b0 := decide_eq_false c4
 try simp only [c4b0, Bool.not_true, Bool.not_false]
 clear c4
 replace H := oa H
 obtain ⟨t442, A8, H⟩ := H
 have hz13 := bc9 BK440
 go_upto_if 16 with ((with_reducible refine gg ?_); refine gL 14 Tryd.func42 #[.slice A0_8 l0_8.length c0_8, .int .i64 t441] ?_; (with_reducible refine (laws_heldSideS.calls k _ _ l0_8 t441 t442 _ ?side1 ?side2 A8.out).mono ?_); (case side1 => exact cb HR0_8 HB); (case side2 => exact HC0_8.out); rintro e w14 ⟨rfl, hb⟩; refine ⟨_, rfl, ?_⟩; replace BK440 := kP _ BK440 hb; replace HB := kH HB hb; (try clear hb))
 by_cases c9 : t442 < 0
 ·rw [if_pos c9] at H
  have c9b0 := decide_eq_true c9
  try simp only [c9b0, Bool.not_true, Bool.not_false]
  clear c9
  obtain rfl := Option.some.inj H
  go_wp2
  go_ret
  exact ⟨xE, xB HB⟩
 rw [if_neg c9] at H
 have c9b0 := decide_eq_false c9
 try simp only [c9b0, Bool.not_true, Bool.not_false]
 clear c9
 obtain rfl := Option.some.inj H
 go_wp2
 go_ret
 exact ⟨xE, xB HB⟩

end Go.Proofs.YtgjljbaadglpnaaDoor.PFnExactPaidGet
