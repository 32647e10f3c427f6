/- Functions of the program and what each answers: the kit's print, shortened (wip/press2.py). -/
import Derived.Test.YtgjljbaadglpnaaDoorPFnExactPaidGetx0
import Derived.Test.YtgjljbaadglpnaaDoorPFnExactPaidGetx19
namespace Go.Proofs.YtgjljbaadglpnaaDoor.PFnExactPaidGet
open Go.Proofs.YtgjljbaadglpnaaDoor.Sq Go.RowKit Go.Proofs.YtgjljbaadglpnaaDoorW.PrintWords Go.Proofs.YtgjljbaadglpnaaDoorW.PrintLast Go.Proofs.YtgjljbaadglpnaaDoorW.PrintMore
attribute [local go_sem] max2_int min2_int max_two min_two max_three min_three max_four min_four   -- for this text's walks alone
set_option linter.unusedVariables false
set_option linter.unusedSimpArgs false

/-! ### laws_eqPeakS: function 70 -/
def laws_eqPeakS.l0 : Nat → List (S93) → List (S93) → Int → Option (Bool)
 | 0, _, _, _ => none
 | k + 1, x0, x1, x5 => if x5 < (x0.length : Int) then (if 0 ≤ x5 then (if x5 < (x1.length : Int) then ((laws_eqPeak.f ((rd_T93 x0 x5).f0) ((rd_T93 x0 x5).f1) ((rd_T93 x0 x5).f2) ((rd_T93 x1 x5).f0) ((rd_T93 x1 x5).f1) ((rd_T93 x1 x5).f2)).bind fun t394 => (if t394 = true then (laws_eqPeakS.l0 k x0 x1 (wrap64 (x5 + 1))) else (some false))) else (none)) else (none)) else (some true)
def laws_eqPeakS.f (k : Nat) (l0 : List (S93)) (l1 : List (S93)) : Option (Bool) := if (l0.length : Int) = (l1.length : Int) then (laws_eqPeakS.l0 k l0 l1 0) else (some false)
theorem laws_eqPeakS.mono_l : ∀ k, (∀ y0 y1 y2, LeO (laws_eqPeakS.l0 k y0 y1 y2) (laws_eqPeakS.l0 (k + 1) y0 y1 y2))
 | 0 => fun _ _ _ r h => by simp [laws_eqPeakS.l0] at h
 | k + 1 => by
  have ih0 := laws_eqPeakS.mono_l k
  ·intro y0 y1 y2
   unfold laws_eqPeakS.l0
   exact mo1 ih0
theorem laws_eqPeakS.mono : ∀ a0 a1 k, LeO (laws_eqPeakS.f k a0 a1) (laws_eqPeakS.f (k + 1) a0 a1) := by
 intro a0 a1 k
 have ih0 := laws_eqPeakS.mono_l k
 unfold laws_eqPeakS.f
 exact mo1 ih0
def laws_eqPeakS.T6 : Bool × List (List Nat × List Nat) := (true, [([], []), ([], []), ([0, 1], [0, 1]), ([2], [2]), ([], []), ([], []), ([4, 5], [4, 5]), ([6], [6]), ([3, 7], [3, 7]), ([8], [8])])
def laws_eqPeakS.B6 : List Nat := [0, 0, 3, 7, 0, 0, 48, 112, 255, 511]
theorem laws_eqPeakS.tab6 : rtab .any (opsOf Tryd.f70 6) = laws_eqPeakS.T6 := by kernel_rfl
theorem laws_eqPeakS.bits6 : waitsOk laws_eqPeakS.T6.2 laws_eqPeakS.B6 = true := by kernel_rfl
set_option maxHeartbeats 64000000 in
set_option maxRecDepth 100000 in
theorem laws_eqPeakS.calls (k : Nat) (A0 : Option Addr) (c0 : Nat) (l0 : List (S93)) (A1 : Option Addr) (c1 : Nat) (l1 : List (S93)) (r : Bool) (w : World) (hr0 : Kd.C k93 w A0 l0.length l0) (hc0 : l0.length ≤ c0) (hr1 : Kd.C k93 w A1 l1.length l1) (hc1 : l1.length ≤ c1) (h : laws_eqPeakS.f k l0 l1 = some r) :
  Calls Tryd.prog 70 #[.slice A0 l0.length c0, .slice A1 l1.length c1] w fun e w' => e = .returned (.bool r) ∧ Below w.heap.size w w' := by
 have hu93 := Tryd.underlying93
 have HR0 := Aside0.mk hr0
 have HC0 := Aside0.mk hc0
 clear hr0 hc0
 have HR1 := Aside0.mk hr1
 have HC1 := Aside0.mk hc1
 clear hr1 hc1
 have HB := Aside0.mk (Below.refl w.heap.size w)
 have H : (if (l0.length : Int) = (l1.length : Int) then (laws_eqPeakS.l0 k l0 l1 0) else (some false)) = some r := h
 clear h
 by_cases c3 : (l0.length : Int) = (l1.length : Int)
 rotate_left
 ·rw [if_neg c3] at H
  have c3b0 := beq_eq_false_iff_ne.mpr c3
  have c3b1 := bne_iff_ne.mpr c3
  have c3b2 : (l0.length == l1.length) = false := by first | simpa using c3 | (simp at c3 ⊢; omega)
  obtain rfl := Option.some.inj H
  go_enter Tryd.func70, Tryd.ntmps70
  go_wp2
  go_ret
  exact ⟨xE, bl HB⟩
 rw [if_pos c3] at H
 have c3b0 := beq_iff_eq.mpr c3
 have c3b1 := bne_eq_false_iff_eq.mpr c3
 have c3b2 : (l0.length == l1.length) = true := by first | simpa using c3 | (simp at c3 ⊢; omega)
 clear c3
 have H' := Aside0.mk H
 clear H
 go_enter Tryd.func70, Tryd.ntmps70
 go_wp2
 go_loopg [5] k (fun kq v5 w' => ∃ (x5_1 : Int), v5 = .int .i64 x5_1 ∧ Aside0 (laws_eqPeakS.l0 kq l0 l1 x5_1 = some r) ∧ Aside0 (kq ≤ k) ∧ Aside0 (Below w.heap.size w w'))
 case atStart => exact ⟨(0), xR, H', ⟨Nat.le_refl _⟩, ⟨bl HB⟩⟩
 case round =>
  clear H'
  try clear c1
  try clear p2
  try clear c3
  try clear c3b0
  try clear c3b1
  try clear c3b2
  obtain ⟨x5_1, rfl, HA, HK1, HB⟩ := hrel
  cases gk with
  | zero => exact absurd HA.out (by simp [laws_eqPeakS.l0])
  | succ k1 =>
   have H := HA.out
   clear HA
   simp only [laws_eqPeakS.l0] at H
   by_cases c4 : x5_1 < (l0.length : Int)
   rotate_left
   ·rw [if_neg c4] at H
    have c4b0 := decide_eq_false c4
    clear c4
    obtain rfl := Option.some.inj H
    go_wp2
    go_ret
    exact ⟨xE, bl HB⟩
   rw [if_pos c4] at H
   have c4b0 := decide_eq_true c4
   clear c4
   replace H := ipd H
   obtain ⟨c5b0, H⟩ := H
   replace H := ipd H
   obtain ⟨c6b0, H⟩ := H
   replace H := oa H
   obtain ⟨t394, A7, H⟩ := H
   try go_wp2
   replace HB := am (below_drew1 HB.out)
   have p392 : 0 ≤ (x5_1 : Int) := of_decide_eq_true xA
   have q392 : x5_1 < (l0.length : Int) := of_decide_eq_true xA
   obtain ⟨ad392, e392, hx392_0, hx392_1, hx392_2⟩ := at_T93 HR0.out x5_1 p392 q392
   have hw392_2 := hx392_2
   have hw392_1 := hx392_1
   have hw392_0 := hx392_0
   cases e392
   replace hx392_0 := hc HB hx392_0
   replace hx392_1 := hc HB hx392_1
   replace hx392_2 := hc HB hx392_2
   replace p392 := eq_true p392
   replace q392 := eq_true q392
   have p393 : 0 ≤ (x5_1 : Int) := of_decide_eq_true xA
   have q393 : x5_1 < (l1.length : Int) := of_decide_eq_true xA
   obtain ⟨ad393, e393, hx393_0, hx393_1, hx393_2⟩ := at_T93 HR1.out x5_1 p393 q393
   have hw393_2 := hx393_2
   have hw393_1 := hx393_1
   have hw393_0 := hx393_0
   cases e393
   replace hx393_0 := hc HB hx393_0
   replace hx393_1 := hc HB hx393_1
   replace hx393_2 := hc HB hx393_2
   replace p393 := eq_true p393
   replace q393 := eq_true q393
   refine start_ (n := 10) (S := fun w' => w'.cell? (ad392.add ((x5_1).toNat * 3)) = some (.string ((rd_T93 l0 x5_1).f0)) ∧ w'.cell? ⟨(ad392.add ((x5_1).toNat * 3)).block, (ad392.add ((x5_1).toNat * 3)).off + 1, none⟩ = some (.int .i64 ((rd_T93 l0 x5_1).f1)) ∧ w'.cell? ⟨(ad392.add ((x5_1).toNat * 3)).block, (ad392.add ((x5_1).toNat * 3)).off + 2, none⟩ = some (.int .i64 ((rd_T93 l0 x5_1).f2)) ∧ w'.cell? (ad393.add ((x5_1).toNat * 3)) = some (.string ((rd_T93 l1 x5_1).f0)) ∧ w'.cell? ⟨(ad393.add ((x5_1).toNat * 3)).block, (ad393.add ((x5_1).toNat * 3)).off + 1, none⟩ = some (.int .i64 ((rd_T93 l1 x5_1).f1)) ∧ w'.cell? ⟨(ad393.add ((x5_1).toNat * 3)).block, (ad393.add ((x5_1).toNat * 3)).off + 2, none⟩ = some (.int .i64 ((rd_T93 l1 x5_1).f2))) (ds := []) (bm 10 0) (by kernel_rfl) rfl rfl ⟨(hd HB hw392_0), (hd HB hw392_1), (hd HB hw392_2), (hd HB hw393_0), (hd HB hw393_1), (hd HB hw393_2)⟩ (fun hHeld => ?_); refine with_tabW laws_eqPeakS.tab6 laws_eqPeakS.bits6 (fun HT_ HW_ => ?_)
   generalize wr.drew = w9 at HB hx392_0 hx392_1 hx392_2 hx393_0 hx393_1 hx393_2 hHeld ⊢
   refine pA 0 17 (bm 10 1) HT_ ?_
   refine pA 1 18 (bm 10 3) HT_ ?_
   refine pA 2 19 (bm 10 7) HT_ ?_
   refine pA 4 21 (bm 10 23) HT_ ?_
   refine pA 5 22 (bm 10 55) HT_ ?_
   refine pA 6 23 (bm 10 119) HT_ ?_
   refine tA 3 20 (bm 10 127) HT_ HW_ hHeld ?_
   refine tA 7 24 (bm 10 255) HT_ HW_ hHeld ?_
   refine oA 8 (some 25) (bm 10 511) HT_ fun K hK => ?_
   refine gA Tryd.func92 #[.agg #[.string ((rd_T93 l0 x5_1).f0), .int .i64 ((rd_T93 l0 x5_1).f1), .int .i64 ((rd_T93 l0 x5_1).f2)], .agg #[.string ((rd_T93 l1 x5_1).f0), .int .i64 ((rd_T93 l1 x5_1).f1), .int .i64 ((rd_T93 l1 x5_1).f2)]] ?_
   with_reducible refine (laws_eqPeak.calls ((rd_T93 l0 x5_1).f0) ((rd_T93 l0 x5_1).f1) ((rd_T93 l0 x5_1).f2) ((rd_T93 l1 x5_1).f0) ((rd_T93 l1 x5_1).f1) ((rd_T93 l1 x5_1).f2) t394 _ A7.out).mono ?_
   rintro e w10 ⟨rfl, hb⟩
   refine ⟨_, rfl, ?_⟩
   replace HB := kH HB hb
   (try clear hb)
   (try clear hb2)
   (try clear hk)
   (try clear hi)
   refine hK.out _ _ ⟨(hd HB hw392_0), (hd HB hw392_1), (hd HB hw392_2), (hd HB hw393_0), (hd HB hw393_1), (hd HB hw393_2)⟩ (fun hHeld => ?_)
   clear hK K
   refine nA (some 25) ?_
   refine pA 9 26 (bm 10 1023) HT_ ?_
   refine done_ (done_of HT_.out (by kernel_rfl)) ?_
   by_cases c8 : t394 = true
   rotate_left
   ·replace c8 := Bool.eq_false_iff.mpr c8
    subst c8
    try simp only [Bool.not_true, Bool.not_false]
    rw [if_neg (show ¬ (false = true) by decide)] at H
    obtain rfl := Option.some.inj H
    try go_wp2
    go_ret
    exact ⟨xE, bl HB⟩
   subst c8
   try simp only [Bool.not_true, Bool.not_false]
   rw [if_pos rfl] at H
   have H' := Aside0.mk H
   clear H
   try go_wp2
   go_roundg k1
   case measure => have := HK1.out; omega
   case rel => exact ⟨(wrap64 (x5_1 + 1)), xR, H', ⟨xL HK1⟩, ⟨bl HB⟩⟩

/-! ### laws_eqProof: function 37 -/
def laws_eqProof.f (k : Nat) (l0_0 : List (S93)) (l0_1 : List (S93)) (l1_0 : List (S93)) (l1_1 : List (S93)) : Option (Bool) := (laws_eqPeakS.f k l0_0 l1_0).bind fun t397 => (if t397 = true then ((laws_eqPeakS.f k l0_1 l1_1).bind fun t398 => (if t398 = true then (some true) else (some false))) else (some false))
theorem laws_eqProof.mono : ∀ a0 a1 a2 a3 k, LeO (laws_eqProof.f k a0 a1 a2 a3) (laws_eqProof.f (k + 1) a0 a1 a2 a3) := by
 intro a0 a1 a2 a3 k
 unfold laws_eqProof.f
 exact mo1 laws_eqPeakS.mono
set_option maxHeartbeats 64000000 in
set_option maxRecDepth 100000 in
theorem laws_eqProof.calls (k : Nat) (A0_0 : Option Addr) (c0_0 : Nat) (l0_0 : List (S93)) (A0_1 : Option Addr) (c0_1 : Nat) (l0_1 : List (S93)) (A1_0 : Option Addr) (c1_0 : Nat) (l1_0 : List (S93)) (A1_1 : Option Addr) (c1_1 : Nat) (l1_1 : List (S93)) (r : Bool) (w : World) (hr0_0 : Kd.C k93 w A0_0 l0_0.length l0_0) (hc0_0 : l0_0.length ≤ c0_0) (hr0_1 : Kd.C k93 w A0_1 l0_1.length l0_1) (hc0_1 : l0_1.length ≤ c0_1) (hr1_0 : Kd.C k93 w A1_0 l1_0.length l1_0) (hc1_0 : l1_0.length ≤ c1_0) (hr1_1 : Kd.C k93 w A1_1 l1_1.length l1_1) (hc1_1 : l1_1.length ≤ c1_1) (h : laws_eqProof.f k l0_0 l0_1 l1_0 l1_1 = some r) :
  Calls Tryd.prog 37 #[.agg #[.slice A0_0 l0_0.length c0_0, .slice A0_1 l0_1.length c0_1], .agg #[.slice A1_0 l1_0.length c1_0, .slice A1_1 l1_1.length c1_1]] w fun e w' => e = .returned (.bool r) ∧ Below w.heap.size w w' := by
 have hu26 := Tryd.underlying26
 have HR0_0 := Aside0.mk hr0_0
 have HC0_0 := Aside0.mk hc0_0
 clear hr0_0 hc0_0
 have HR0_1 := Aside0.mk hr0_1
 have HC0_1 := Aside0.mk hc0_1
 clear hr0_1 hc0_1
 have HR1_0 := Aside0.mk hr1_0
 have HC1_0 := Aside0.mk hc1_0
 clear hr1_0 hc1_0
 have HR1_1 := Aside0.mk hr1_1
 have HC1_1 := Aside0.mk hc1_1
 clear hr1_1 hc1_1
 have HB := Aside0.mk (Below.refl w.heap.size w)
 have H : ((laws_eqPeakS.f k l0_0 l1_0).bind fun t397 => (if t397 = true then ((laws_eqPeakS.f k l0_1 l1_1).bind fun t398 => (if t398 = true then (some true) else (some false))) else (some false))) = some r := h
 clear h
 replace H := oa H
 obtain ⟨t397, A3, H⟩ := H
 go_enter Tryd.func37, Tryd.ntmps37
 go_upto_if 10 with ((with_reducible refine gg ?_); first | (refine bE 2 #[.slice A0_0 l0_0.length c0_0, .slice A0_1 l0_1.length c0_1] 26 ?_; intro gb395 hg w7 hbox hb; have BK395 := am (hbox); have GW395 := zB hg HB; have GE395 := zB hg HB; replace HB := kH HB hb; clear hb hbox hg) | (refine bE 3 #[.slice A1_0 l1_0.length c1_0, .slice A1_1 l1_1.length c1_1] 26 ?_; intro gb396 hg w8 hbox hb; have BK396 := am (hbox); have GW396 := zB hg HB; have GE396 := zB hg HB; replace HB := kH HB hb; have NB395_396 := nl hg (kb BK395); have NB396_395 := ng hg (kb BK395); replace BK395 := kP _ BK395 hb; clear hb hbox hg; have hnb9 := NB395_396.out; have hnc9 := NB396_395.out; have hz10 := bc2 BK395; have hz11 := bc2 BK396) | (refine gL 9 Tryd.func70 #[.slice A0_0 l0_0.length c0_0, .slice A1_0 l1_0.length c1_0] ?_; (with_reducible refine (laws_eqPeakS.calls k _ _ l0_0 _ _ l1_0 t397 _ ?side1 ?side2 ?side3 ?side4 A3.out).mono ?_); (case side1 => exact cb HR0_0 HB); (case side2 => exact HC0_0.out); (case side3 => exact cb HR1_0 HB); (case side4 => exact HC1_0.out); rintro e w12 ⟨rfl, hb⟩; refine ⟨_, rfl, ?_⟩; replace BK395 := kP _ BK395 hb; replace BK396 := kP _ BK396 hb; replace HB := kH HB hb; (try clear hb)))
 by_cases c4 : t397 = true
 rotate_left
 ·replace c4 := Bool.eq_false_iff.mpr c4
  subst c4
  try simp only [Bool.not_true, Bool.not_false]
  rw [if_neg (show ¬ (false = true) by decide)] at H
  obtain rfl := Option.some.inj H
  go_wp2
  go_ret
  exact ⟨xE, xB HB⟩
 subst c4
 try simp only [Bool.not_true, Bool.not_false]
 rw [if_pos rfl] at H
 replace H := oa H
 obtain ⟨t398, A5, H⟩ := H
 have hz13 := bc2 BK395
 have hz14 := bc2 BK396
 go_upto_if 16 with ((with_reducible refine gg ?_); refine gL 15 Tryd.func70 #[.slice A0_1 l0_1.length c0_1, .slice A1_1 l1_1.length c1_1] ?_; (with_reducible refine (laws_eqPeakS.calls k _ _ l0_1 _ _ l1_1 t398 _ ?side1 ?side2 ?side3 ?side4 A5.out).mono ?_); (case side1 => exact cb HR0_1 HB); (case side2 => exact HC0_1.out); (case side3 => exact cb HR1_1 HB); (case side4 => exact HC1_1.out); rintro e w15 ⟨rfl, hb⟩; refine ⟨_, rfl, ?_⟩; replace BK395 := kP _ BK395 hb; replace BK396 := kP _ BK396 hb; replace HB := kH HB hb; (try clear hb))
 by_cases c6 : t398 = true
 ·subst c6
  try simp only [Bool.not_true, Bool.not_false]
  rw [if_pos rfl] at H
  obtain rfl := Option.some.inj H
  go_wp2
  go_ret
  exact ⟨xE, xB HB⟩
 replace c6 := Bool.eq_false_iff.mpr c6
 subst c6
 try simp only [Bool.not_true, Bool.not_false]
 rw [if_neg (show ¬ (false = true) by decide)] at H
 obtain rfl := Option.some.inj H
 go_wp2
 go_ret
 exact ⟨xE, xB HB⟩

/-! ### laws_eqSide: function 71 -/
def laws_eqSide.f (a0_0 : ByteArray) (a0_1 : Bool) (a1_0 : ByteArray) (a1_1 : Bool) : Option (Bool) := if a0_0.toList = a1_0.toList then (if (a0_1 != a1_1) = true then (some false) else (some true)) else (some false)
set_option maxHeartbeats 64000000 in
set_option maxRecDepth 100000 in
theorem laws_eqSide.calls (a0_0 : ByteArray) (a0_1 : Bool) (a1_0 : ByteArray) (a1_1 : Bool) (r : Bool) (w : World) (h : laws_eqSide.f a0_0 a0_1 a1_0 a1_1 = some r) :
  Calls Tryd.prog 71 #[.agg #[.string a0_0, .bool a0_1], .agg #[.string a1_0, .bool a1_1]] w fun e w' => e = .returned (.bool r) ∧ Below w.heap.size w w' := by
 have hu85 := Tryd.underlying85
 have HB := Aside0.mk (Below.refl w.heap.size w)
 have H : (if a0_0.toList = a1_0.toList then (if (a0_1 != a1_1) = true then (some false) else (some true)) else (some false)) = some r := h
 clear h
 by_cases c3 : a0_0.toList = a1_0.toList
 rotate_left
 ·rw [if_neg c3] at H
  have c3b0 := beq_eq_false_iff_ne.mpr c3
  have c3b1 := bne_iff_ne.mpr c3
  obtain rfl := Option.some.inj H
  go_enter Tryd.func71, Tryd.ntmps71
  go_wp2_with ((with_reducible refine gg ?_); first | (refine bE 2 #[.string a0_0, .bool a0_1] 85 ?_; intro gb399 hg w15 hbox hb; have BK399 := am (hbox); have GW399 := zB hg HB; have GE399 := zB hg HB; replace HB := kH HB hb; clear hb hbox hg) | (refine bE 3 #[.string a1_0, .bool a1_1] 85 ?_; intro gb400 hg w16 hbox hb; have BK400 := am (hbox); have GW400 := zB hg HB; have GE400 := zB hg HB; replace HB := kH HB hb; have NB399_400 := nl hg (kb BK399); have NB400_399 := ng hg (kb BK399); replace BK399 := kP _ BK399 hb; clear hb hbox hg; have hnb17 := NB399_400.out; have hnc17 := NB400_399.out; have hz18 := bc2 BK399; have hz19 := bc2 BK400))
  go_ret
  exact ⟨xE, xB HB⟩
 rw [if_pos c3] at H
 have c3b0 := beq_iff_eq.mpr c3
 have c3b1 := bne_eq_false_iff_eq.mpr c3
 clear c3
 by_cases c4 : (a0_1 != a1_1) = true
 rotate_left
 ·rw [if_neg c4] at H
  have c4b0 : (a0_1 != a1_1) = false := by simpa using c4
  (try (have c4b1 : decide (a0_1 = a1_1) = true := by simpa using c4))
  (try (have c4b2 : (a0_1 == a1_1) = true := by simpa using c4))
  clear c4
  obtain rfl := Option.some.inj H
  go_enter Tryd.func71, Tryd.ntmps71
  go_wp2_with ((with_reducible refine gg ?_); first | (refine bE 2 #[.string a0_0, .bool a0_1] 85 ?_; intro gb399 hg w10 hbox hb; have BK399 := am (hbox); have GW399 := zB hg HB; have GE399 := zB hg HB; replace HB := kH HB hb; clear hb hbox hg) | (refine bE 3 #[.string a1_0, .bool a1_1] 85 ?_; intro gb400 hg w11 hbox hb; have BK400 := am (hbox); have GW400 := zB hg HB; have GE400 := zB hg HB; replace HB := kH HB hb; have NB399_400 := nl hg (kb BK399); have NB400_399 := ng hg (kb BK399); replace BK399 := kP _ BK399 hb; clear hb hbox hg; have hnb12 := NB399_400.out; have hnc12 := NB400_399.out; have hz13 := bc2 BK399; have hz14 := bc2 BK400))
  go_ret
  exact ⟨xE, xB HB⟩
 rw [if_pos c4] at H
 have c4b0 : (a0_1 != a1_1) = true := c4
 (try (have c4b1 : decide (a0_1 = a1_1) = false := by simpa using c4))
 (try (have c4b2 : (a0_1 == a1_1) = false := by simpa using c4))
 (try (have c4b3 : ¬ (a0_1 = a1_1) := by simpa using c4))
 clear c4
 obtain rfl := Option.some.inj H
 go_enter Tryd.func71, Tryd.ntmps71
 go_wp2_with ((with_reducible refine gg ?_); first | (refine bE 2 #[.string a0_0, .bool a0_1] 85 ?_; intro gb399 hg w5 hbox hb; have BK399 := am (hbox); have GW399 := zB hg HB; have GE399 := zB hg HB; replace HB := kH HB hb; clear hb hbox hg) | (refine bE 3 #[.string a1_0, .bool a1_1] 85 ?_; intro gb400 hg w6 hbox hb; have BK400 := am (hbox); have GW400 := zB hg HB; have GE400 := zB hg HB; replace HB := kH HB hb; have NB399_400 := nl hg (kb BK399); have NB400_399 := ng hg (kb BK399); replace BK399 := kP _ BK399 hb; clear hb hbox hg; have hnb7 := NB399_400.out; have hnc7 := NB400_399.out; have hz8 := bc2 BK399; have hz9 := bc2 BK400))
 go_ret
 exact ⟨xE, xB HB⟩

/-! ### laws_eqSideS: function 38 -/
def laws_eqSideS.l0 : Nat → List (S85) → List (S85) → Int → Option (Bool)
 | 0, _, _, _ => none
 | k + 1, x0, x1, x5 => if x5 < (x0.length : Int) then (if 0 ≤ x5 then (if x5 < (x1.length : Int) then ((laws_eqSide.f ((rd_T85 x0 x5).f0) ((rd_T85 x0 x5).f1) ((rd_T85 x1 x5).f0) ((rd_T85 x1 x5).f1)).bind fun t403 => (if t403 = true then (laws_eqSideS.l0 k x0 x1 (wrap64 (x5 + 1))) else (some false))) else (none)) else (none)) else (some true)
def laws_eqSideS.f (k : Nat) (l0 : List (S85)) (l1 : List (S85)) : Option (Bool) := if (l0.length : Int) = (l1.length : Int) then (laws_eqSideS.l0 k l0 l1 0) else (some false)
theorem laws_eqSideS.mono_l : ∀ k, (∀ y0 y1 y2, LeO (laws_eqSideS.l0 k y0 y1 y2) (laws_eqSideS.l0 (k + 1) y0 y1 y2))
 | 0 => fun _ _ _ r h => by simp [laws_eqSideS.l0] at h
 | k + 1 => by
  have ih0 := laws_eqSideS.mono_l k
  ·intro y0 y1 y2
   unfold laws_eqSideS.l0
   exact mo1 ih0
theorem laws_eqSideS.mono : ∀ a0 a1 k, LeO (laws_eqSideS.f k a0 a1) (laws_eqSideS.f (k + 1) a0 a1) := by
 intro a0 a1 k
 have ih0 := laws_eqSideS.mono_l k
 unfold laws_eqSideS.f
 exact mo1 ih0
def laws_eqSideS.T6 : Bool × List (List Nat × List Nat) := (true, [([], []), ([], []), ([0, 1], [0, 1]), ([2], [2]), ([], []), ([], []), ([4, 5], [4, 5]), ([6], [6]), ([3, 7], [3, 7]), ([8], [8])])
def laws_eqSideS.B6 : List Nat := [0, 0, 3, 7, 0, 0, 48, 112, 255, 511]
theorem laws_eqSideS.tab6 : rtab .any (opsOf Tryd.f38 6) = laws_eqSideS.T6 := by kernel_rfl
theorem laws_eqSideS.bits6 : waitsOk laws_eqSideS.T6.2 laws_eqSideS.B6 = true := by kernel_rfl
set_option maxHeartbeats 64000000 in
set_option maxRecDepth 100000 in
theorem laws_eqSideS.calls (k : Nat) (A0 : Option Addr) (c0 : Nat) (l0 : List (S85)) (A1 : Option Addr) (c1 : Nat) (l1 : List (S85)) (r : Bool) (w : World) (hr0 : Kd.C k85 w A0 l0.length l0) (hc0 : l0.length ≤ c0) (hr1 : Kd.C k85 w A1 l1.length l1) (hc1 : l1.length ≤ c1) (h : laws_eqSideS.f k l0 l1 = some r) :
  Calls Tryd.prog 38 #[.slice A0 l0.length c0, .slice A1 l1.length c1] w fun e w' => e = .returned (.bool r) ∧ Below w.heap.size w w' := by
 have hu85 := Tryd.underlying85
 have HR0 := Aside0.mk hr0
 have HC0 := Aside0.mk hc0
 clear hr0 hc0
 have HR1 := Aside0.mk hr1
 have HC1 := Aside0.mk hc1
 clear hr1 hc1
 have HB := Aside0.mk (Below.refl w.heap.size w)
 have H : (if (l0.length : Int) = (l1.length : Int) then (laws_eqSideS.l0 k l0 l1 0) else (some false)) = some r := h
 clear h
 by_cases c3 : (l0.length : Int) = (l1.length : Int)
 rotate_left
 ·rw [if_neg c3] at H
  have c3b0 := beq_eq_false_iff_ne.mpr c3
  have c3b1 := bne_iff_ne.mpr c3
  have c3b2 : (l0.length == l1.length) = false := by first | simpa using c3 | (simp at c3 ⊢; omega)
  obtain rfl := Option.some.inj H
  go_enter Tryd.func38, Tryd.ntmps38
  go_wp2
  go_ret
  exact ⟨xE, bl HB⟩
 rw [if_pos c3] at H
 have c3b0 := beq_iff_eq.mpr c3
 have c3b1 := bne_eq_false_iff_eq.mpr c3
 have c3b2 : (l0.length == l1.length) = true := by first | simpa using c3 | (simp at c3 ⊢; omega)
 clear c3
 have H' := Aside0.mk H
 clear H
 go_enter Tryd.func38, Tryd.ntmps38
 go_wp2
 go_loopg [5] k (fun kq v5 w' => ∃ (x5_1 : Int), v5 = .int .i64 x5_1 ∧ Aside0 (laws_eqSideS.l0 kq l0 l1 x5_1 = some r) ∧ Aside0 (kq ≤ k) ∧ Aside0 (Below w.heap.size w w'))
 case atStart => exact ⟨(0), xR, H', ⟨Nat.le_refl _⟩, ⟨bl HB⟩⟩
 case round =>
  clear H'
  try clear c1
  try clear p2
  try clear c3
  try clear c3b0
  try clear c3b1
  try clear c3b2
  obtain ⟨x5_1, rfl, HA, HK1, HB⟩ := hrel
  cases gk with
  | zero => exact absurd HA.out (by simp [laws_eqSideS.l0])
  | succ k1 =>
   have H := HA.out
   clear HA
   simp only [laws_eqSideS.l0] at H
   by_cases c4 : x5_1 < (l0.length : Int)
   rotate_left
   ·rw [if_neg c4] at H
    have c4b0 := decide_eq_false c4
    clear c4
    obtain rfl := Option.some.inj H
    go_wp2
    go_ret
    exact ⟨xE, bl HB⟩
   rw [if_pos c4] at H
   have c4b0 := decide_eq_true c4
   clear c4
   replace H := ipd H
   obtain ⟨c5b0, H⟩ := H
   replace H := ipd H
   obtain ⟨c6b0, H⟩ := H
   replace H := oa H
   obtain ⟨t403, A7, H⟩ := H
   try go_wp2
   replace HB := am (below_drew1 HB.out)
   have p401 : 0 ≤ (x5_1 : Int) := of_decide_eq_true xA
   have q401 : x5_1 < (l0.length : Int) := of_decide_eq_true xA
   obtain ⟨ad401, e401, hx401_0, hx401_1⟩ := at_T85 HR0.out x5_1 p401 q401
   have hw401_1 := hx401_1
   have hw401_0 := hx401_0
   cases e401
   replace hx401_0 := hc HB hx401_0
   replace hx401_1 := hc HB hx401_1
   replace p401 := eq_true p401
   replace q401 := eq_true q401
   have p402 : 0 ≤ (x5_1 : Int) := of_decide_eq_true xA
   have q402 : x5_1 < (l1.length : Int) := of_decide_eq_true xA
   obtain ⟨ad402, e402, hx402_0, hx402_1⟩ := at_T85 HR1.out x5_1 p402 q402
   have hw402_1 := hx402_1
   have hw402_0 := hx402_0
   cases e402
   replace hx402_0 := hc HB hx402_0
   replace hx402_1 := hc HB hx402_1
   replace p402 := eq_true p402
   replace q402 := eq_true q402
   refine start_ (n := 10) (S := fun w' => w'.cell? (ad401.add ((x5_1).toNat * 2)) = some (.string ((rd_T85 l0 x5_1).f0)) ∧ w'.cell? ⟨(ad401.add ((x5_1).toNat * 2)).block, (ad401.add ((x5_1).toNat * 2)).off + 1, none⟩ = some (.bool ((rd_T85 l0 x5_1).f1)) ∧ w'.cell? (ad402.add ((x5_1).toNat * 2)) = some (.string ((rd_T85 l1 x5_1).f0)) ∧ w'.cell? ⟨(ad402.add ((x5_1).toNat * 2)).block, (ad402.add ((x5_1).toNat * 2)).off + 1, none⟩ = some (.bool ((rd_T85 l1 x5_1).f1))) (ds := []) (bm 10 0) (by kernel_rfl) rfl rfl ⟨(hd HB hw401_0), (hd HB hw401_1), (hd HB hw402_0), (hd HB hw402_1)⟩ (fun hHeld => ?_); refine with_tabW laws_eqSideS.tab6 laws_eqSideS.bits6 (fun HT_ HW_ => ?_)
   generalize wr.drew = w9 at HB hx401_0 hx401_1 hx402_0 hx402_1 hHeld ⊢
   refine pA 0 17 (bm 10 1) HT_ ?_
   refine pA 1 18 (bm 10 3) HT_ ?_
   refine pA 2 19 (bm 10 7) HT_ ?_
   refine pA 4 21 (bm 10 23) HT_ ?_
   refine pA 5 22 (bm 10 55) HT_ ?_
   refine pA 6 23 (bm 10 119) HT_ ?_
   refine tA 3 20 (bm 10 127) HT_ HW_ hHeld ?_
   refine tA 7 24 (bm 10 255) HT_ HW_ hHeld ?_
   refine oA 8 (some 25) (bm 10 511) HT_ fun K hK => ?_
   refine gA Tryd.func71 #[.agg #[.string ((rd_T85 l0 x5_1).f0), .bool ((rd_T85 l0 x5_1).f1)], .agg #[.string ((rd_T85 l1 x5_1).f0), .bool ((rd_T85 l1 x5_1).f1)]] ?_
   with_reducible refine (laws_eqSide.calls ((rd_T85 l0 x5_1).f0) ((rd_T85 l0 x5_1).f1) ((rd_T85 l1 x5_1).f0) ((rd_T85 l1 x5_1).f1) t403 _ A7.out).mono ?_
   rintro e w10 ⟨rfl, hb⟩
   refine ⟨_, rfl, ?_⟩
   replace HB := kH HB hb
   (try clear hb)
   (try clear hb2)
   (try clear hk)
   (try clear hi)
   refine hK.out _ _ ⟨(hd HB hw401_0), (hd HB hw401_1), (hd HB hw402_0), (hd HB hw402_1)⟩ (fun hHeld => ?_)
   clear hK K
   refine nA (some 25) ?_
   refine pA 9 26 (bm 10 1023) HT_ ?_
   refine done_ (done_of HT_.out (by kernel_rfl)) ?_
   by_cases c8 : t403 = true
   rotate_left
   ·replace c8 := Bool.eq_false_iff.mpr c8
    subst c8
    try simp only [Bool.not_true, Bool.not_false]
    rw [if_neg (show ¬ (false = true) by decide)] at H
    obtain rfl := Option.some.inj H
    try go_wp2
    go_ret
    exact ⟨xE, bl HB⟩
   subst c8
   try simp only [Bool.not_true, Bool.not_false]
   rw [if_pos rfl] at H
   have H' := Aside0.mk H
   clear H
   try go_wp2
   go_roundg k1
   case measure => have := HK1.out; omega
   case rel => exact ⟨(wrap64 (x5_1 + 1)), xR, H', ⟨xL HK1⟩, ⟨bl HB⟩⟩

end Go.Proofs.YtgjljbaadglpnaaDoor.PFnExactPaidGet
