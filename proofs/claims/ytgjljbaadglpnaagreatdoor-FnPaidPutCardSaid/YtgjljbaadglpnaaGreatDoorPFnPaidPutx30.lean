/- Functions of the program and what each answers: the kit's print, shortened (wip/press2.py). -/
import Derived.Test.YtgjljbaadglpnaaGreatDoorPFnPaidPutx0
import Derived.Test.YtgjljbaadglpnaaGreatDoorPFnPaidPutx19
import Derived.Test.YtgjljbaadglpnaaGreatDoorPFnPaidPutx28
namespace Go.Proofs.YtgjljbaadglpnaaGreatDoor.PFnPaidPut
open Go.Proofs.YtgjljbaadglpnaaGreatDoor.Sq Go.RowKit Go.Proofs.YtgjljbaadglpnaaGreatDoorW.PrintWords Go.Proofs.YtgjljbaadglpnaaGreatDoorW.PrintLast Go.Proofs.YtgjljbaadglpnaaGreatDoorW.PrintMore
attribute [local go_sem] max2_int min2_int max_two min_two max_three min_three max_four min_four   -- for this text's walks alone
set_option linter.unusedVariables false
set_option linter.unusedSimpArgs false
set_option maxHeartbeats 64000000
set_option maxRecDepth 100000
def impl_HeadGet.f (k : Nat) (a0 : ByteArray) : Option (ByteArray × ByteArray × Int × Int × Int × Bool) := (strings_Split.f a0 (⟨#[32]⟩ : ByteArray)).bind fun t626 => (if (t626.length : Int) = 5 then (if 2 < (t626.length : Int) then ((impl_number.f k (rdOf ByteArray.empty t626 2)).bind fun bt630 => (if 3 < (t626.length : Int) then ((impl_number.f k (rdOf ByteArray.empty t626 3)).bind fun bt633 => (if 4 < (t626.length : Int) then ((impl_number.f k (rdOf ByteArray.empty t626 4)).bind fun bt636 => (if 0 < (t626.length : Int) then (if 1 < (t626.length : Int) then (if bt630.2 = true then (if bt633.2 = true then (if bt636.2 = true then ((impl_headOk.f k (rdOf ByteArray.empty t626 0) (rdOf ByteArray.empty t626 1) bt630.1 bt633.1 bt636.1).bind fun t641 => (if t641 = true then (some (rdOf ByteArray.empty t626 0, rdOf ByteArray.empty t626 1, bt630.1, bt633.1, bt636.1, true)) else (some ((⟨#[]⟩ : ByteArray), (⟨#[]⟩ : ByteArray), 0, 0, 0, false)))) else (some ((⟨#[]⟩ : ByteArray), (⟨#[]⟩ : ByteArray), 0, 0, 0, false))) else (some ((⟨#[]⟩ : ByteArray), (⟨#[]⟩ : ByteArray), 0, 0, 0, false))) else (some ((⟨#[]⟩ : ByteArray), (⟨#[]⟩ : ByteArray), 0, 0, 0, false))) else (none)) else (none))) else (none))) else (none))) else (none)) else (some ((⟨#[]⟩ : ByteArray), (⟨#[]⟩ : ByteArray), 0, 0, 0, false)))
theorem impl_HeadGet.mono : ∀ a0 k, LeO (impl_HeadGet.f k a0) (impl_HeadGet.f (k + 1) a0) := by
 intro a0 k
 unfold impl_HeadGet.f
 exact mo2 impl_headOk.mono impl_number.mono
def impl_HeadGet.T7 : Bool × List (List Nat × List Nat) := (true, [([], []), ([0], [0]), ([1], [1]), ([], []), ([3], [3]), ([4], [4]), ([], []), ([], []), ([], []), ([2, 5, 6, 7, 8], [2, 5, 6, 7, 8]), ([], []), ([10, 9, 0, 1, 2, 3, 4, 5, 6, 7, 8, 9, 10], [9, 10])])
def impl_HeadGet.B7 : List Nat := [0, 1, 3, 0, 8, 24, 0, 0, 0, 511, 0, 2047]
theorem impl_HeadGet.tab7 : rtab .any (opsOf Tryz.f27 7) = impl_HeadGet.T7 := by kernel_rfl
theorem impl_HeadGet.bits7 : waitsOk impl_HeadGet.T7.2 impl_HeadGet.B7 = true := by kernel_rfl
theorem impl_HeadGet.calls (k : Nat) (a0 : ByteArray) (r1 : ByteArray) (r2 : ByteArray) (r3 : Int) (r4 : Int) (r5 : Int) (r6 : Bool) (w : World) (h : impl_HeadGet.f k a0 = some (r1, r2, r3, r4, r5, r6)) (PQM_ : Aside0 (Sh.HasM w)) :
  Calls Tryz.prog 27 #[.string a0] w fun e w' => e = .returned (.tuple #[.agg #[.string r1, .string r2, .int .i64 r3, .int .i64 r4, .int .i64 r5], .bool r6]) ∧ Below w.heap.size w w' := by
 have hu24 := Tryz.underlying24
 have HB := Aside0.mk (Below.refl w.heap.size w)
 have H : ((strings_Split.f a0 (⟨#[32]⟩ : ByteArray)).bind fun t626 => (if (t626.length : Int) = 5 then (if 2 < (t626.length : Int) then ((impl_number.f k (rdOf ByteArray.empty t626 2)).bind fun bt630 => (if 3 < (t626.length : Int) then ((impl_number.f k (rdOf ByteArray.empty t626 3)).bind fun bt633 => (if 4 < (t626.length : Int) then ((impl_number.f k (rdOf ByteArray.empty t626 4)).bind fun bt636 => (if 0 < (t626.length : Int) then (if 1 < (t626.length : Int) then (if bt630.2 = true then (if bt633.2 = true then (if bt636.2 = true then ((impl_headOk.f k (rdOf ByteArray.empty t626 0) (rdOf ByteArray.empty t626 1) bt630.1 bt633.1 bt636.1).bind fun t641 => (if t641 = true then (some (rdOf ByteArray.empty t626 0, rdOf ByteArray.empty t626 1, bt630.1, bt633.1, bt636.1, true)) else (some ((⟨#[]⟩ : ByteArray), (⟨#[]⟩ : ByteArray), 0, 0, 0, false)))) else (some ((⟨#[]⟩ : ByteArray), (⟨#[]⟩ : ByteArray), 0, 0, 0, false))) else (some ((⟨#[]⟩ : ByteArray), (⟨#[]⟩ : ByteArray), 0, 0, 0, false))) else (some ((⟨#[]⟩ : ByteArray), (⟨#[]⟩ : ByteArray), 0, 0, 0, false))) else (none)) else (none))) else (none))) else (none))) else (none)) else (some ((⟨#[]⟩ : ByteArray), (⟨#[]⟩ : ByteArray), 0, 0, 0, false)))) = some (r1, r2, r3, r4, r5, r6) := h
 clear h
 replace H := oa H
 obtain ⟨t626, A2, H⟩ := H
 go_enter Tryz.func27, Tryz.ntmps27
 go_upto_if 16 with ((with_reducible refine gg ?_); first | (refine bE 2 #[.string (⟨#[]⟩ : ByteArray), .string (⟨#[]⟩ : ByteArray), .int .i64 0, .int .i64 0, .int .i64 0] 24 ?_; intro gb625 hg w17 hbox hb; have BK625 := am (hbox); have GW625 := zB hg HB; have GE625 := zB hg HB; replace HB := kH HB hb; clear hb hbox hg) | (refine gL 13 Tryz.func24 #[.string a0, .string (⟨#[32]⟩ : ByteArray)] ?_; (with_reducible refine (strings_Split.calls a0 (⟨#[32]⟩ : ByteArray) t626 _ A2.out (Aside0.mk (Sh.hasM_of PQM_ (xB HB)))).mono ?_); rintro e w18 ⟨v627, rfl, ho0, hb⟩; refine ⟨_, rfl, ?_⟩; have HO628 := am (Kd.R_lower ho0 (below_size (xB HB))); replace BK625 := kP _ BK625 hb; replace HB := kH HB hb; (try clear hb); (try clear ho0); obtain ⟨Ao19, co19, eo19⟩ := Kd.R_slice HO628.out; subst eo19))
 by_cases c3 : (t626.length : Int) = 5
 rotate_left
 ·rw [if_neg c3] at H
  have c3b0 := beq_eq_false_iff_ne.mpr c3
  have c3b1 := bne_iff_ne.mpr c3
  try simp only [c3b0, c3b1, Bool.not_true, Bool.not_false]
  simp only [Option.some.injEq, Prod.mk.injEq] at H
  obtain ⟨rfl, rfl, rfl, rfl, rfl, rfl⟩ := H
  have hz85 := bc5 BK625
  go_wp2
  refine bodyPost_ret (results_ct rfl _ _ gb625 24 #[.string (⟨#[]⟩ : ByteArray), .string (⟨#[]⟩ : ByteArray), .int .i64 0, .int .i64 0, .int .i64 0] (0, 0) _ rfl (fb BK625) Tryz.underlying24 rfl (by kernel_rfl)) rfl ?_
  exact ⟨xE, xB HB⟩
 rw [if_pos c3] at H
 have c3b0 := beq_iff_eq.mpr c3
 have c3b1 := bne_eq_false_iff_eq.mpr c3
 try simp only [c3b0, c3b1, Bool.not_true, Bool.not_false]
 clear c3
 replace H := ip H
 obtain ⟨c4, H⟩ := H
 have c4b0 := decide_eq_true c4
 have c4b1 : decide (2 < t626.length) = true := decide_eq_true (by omega)
 clear c4
 replace H := Option.bind_eq_some_iff.mp H
 obtain ⟨⟨t630, t631⟩, A50, H⟩ := H
 have A5 := Aside0.mk A50
 clear A50
 replace H := ip H
 obtain ⟨c6, H⟩ := H
 have c6b0 := decide_eq_true c6
 have c6b1 : decide (3 < t626.length) = true := decide_eq_true (by omega)
 clear c6
 replace H := Option.bind_eq_some_iff.mp H
 obtain ⟨⟨t633, t634⟩, A70, H⟩ := H
 have A7 := Aside0.mk A70
 clear A70
 replace H := ip H
 obtain ⟨c8, H⟩ := H
 have c8b0 := decide_eq_true c8
 have c8b1 : decide (4 < t626.length) = true := decide_eq_true (by omega)
 clear c8
 replace H := Option.bind_eq_some_iff.mp H
 obtain ⟨⟨t636, t637⟩, A90, H⟩ := H
 have A9 := Aside0.mk A90
 clear A90
 replace H := ip H
 obtain ⟨c10, H⟩ := H
 have c10b0 := decide_eq_true c10
 have c10b1 : decide (0 < t626.length) = true := decide_eq_true (by omega)
 clear c10
 replace H := ip H
 obtain ⟨c11, H⟩ := H
 have c11b0 := decide_eq_true c11
 have c11b1 : decide (1 < t626.length) = true := decide_eq_true (by omega)
 clear c11
 have p629 : 0 ≤ (2 : Int) := (by omega)
 have q629 : 2 < (t626.length : Int) := of_decide_eq_true xA
 obtain ⟨ad629, e629, hx629_0⟩ := Kd.at_string (Kd.R_reads' HO628.out).2.2 2 p629 q629
 cases e629
 (try simp only [show (2 : Int).toNat = 2 from rfl, Nat.reduceMul, Nat.reduceEqDiff, Go.Addr.add, ↓reduceIte] at hx629_0)
 have qi629 : (2 < t626.length) = True := eq_true (by omega)
 (try rw [show ((2 : Int)).toNat = 2 from rfl] at hx629_0)
 replace p629 := eq_true p629
 replace q629 := eq_true q629
 try go_wp2_with ((with_reducible refine gg ?_); first | (refine gL 22 Tryz.func26 #[.string (rdOf ByteArray.empty t626 2)] ?_; (with_reducible refine (impl_number.calls k (rdOf ByteArray.empty t626 2) t630 t631 _ A5.out).mono ?_); rintro e w' ⟨rfl, ⟨nd, rfl⟩⟩; refine ⟨_, rfl, ?_⟩; (try (rw [drewN_self w18]; generalize hq_ : World.drewN w18 _ = w18; have n0_ := dR hq_ HO628; have n1_ := dK hq_ BK625; have n2_ := dB hq_ HB; clear HO628 BK625 HB hq_; have HO628 := n0_; have BK625 := n1_; have HB := n2_; clear n0_ n1_ n2_)); have p632 : 0 ≤ (3 : Int) := (by omega); have q632 : 3 < (t626.length : Int) := of_decide_eq_true xA; obtain ⟨ad632, e632, hx632_0⟩ := Kd.at_string (Kd.R_reads' HO628.out).2.2 3 p632 q632; obtain rfl : ad629 = ad632 := (by injection e632); (try simp only [show (3 : Int).toNat = 3 from rfl, Nat.reduceMul, Nat.reduceEqDiff, Go.Addr.add, ↓reduceIte] at hx632_0); have qi632 : (3 < t626.length) = True := eq_true (by omega); (try rw [show ((3 : Int)).toNat = 3 from rfl] at hx632_0); replace p632 := eq_true p632; replace q632 := eq_true q632) | (refine gL 29 Tryz.func26 #[.string (rdOf ByteArray.empty t626 3)] ?_; (with_reducible refine (impl_number.calls k (rdOf ByteArray.empty t626 3) t633 t634 _ A7.out).mono ?_); rintro e w' ⟨rfl, ⟨nd, rfl⟩⟩; refine ⟨_, rfl, ?_⟩; (try (rw [drewN_self w18]; generalize hq_ : World.drewN w18 _ = w18; have n0_ := dR hq_ HO628; have n1_ := dK hq_ BK625; have n2_ := dB hq_ HB; clear HO628 BK625 HB hq_; have HO628 := n0_; have BK625 := n1_; have HB := n2_; clear n0_ n1_ n2_)); have p635 : 0 ≤ (4 : Int) := (by omega); have q635 : 4 < (t626.length : Int) := of_decide_eq_true xA; obtain ⟨ad635, e635, hx635_0⟩ := Kd.at_string (Kd.R_reads' HO628.out).2.2 4 p635 q635; obtain rfl : ad629 = ad635 := (by injection e635); (try simp only [show (4 : Int).toNat = 4 from rfl, Nat.reduceMul, Nat.reduceEqDiff, Go.Addr.add, ↓reduceIte] at hx635_0); have qi635 : (4 < t626.length) = True := eq_true (by omega); (try rw [show ((4 : Int)).toNat = 4 from rfl] at hx635_0); replace p635 := eq_true p635; replace q635 := eq_true q635) | (refine gL 36 Tryz.func26 #[.string (rdOf ByteArray.empty t626 4)] ?_; (with_reducible refine (impl_number.calls k (rdOf ByteArray.empty t626 4) t636 t637 _ A9.out).mono ?_); rintro e w' ⟨rfl, ⟨nd, rfl⟩⟩; refine ⟨_, rfl, ?_⟩; (try (rw [drewN_self w18]; generalize hq_ : World.drewN w18 _ = w18; have n0_ := dR hq_ HO628; have n1_ := dK hq_ BK625; have n2_ := dB hq_ HB; clear HO628 BK625 HB hq_; have HO628 := n0_; have BK625 := n1_; have HB := n2_; clear n0_ n1_ n2_))))
 replace HO628 := am (Kd.R_drew HO628.out)
 replace BK625 := am (blk_drew BK625.out)
 replace HB := am (below_drew1 HB.out)
 have p638 : 0 ≤ (0 : Int) := (by omega)
 have q638 : 0 < (t626.length : Int) := of_decide_eq_true xA
 obtain ⟨ad638, e638, hx638_0⟩ := Kd.at_string (Kd.R_reads' HO628.out).2.2 0 p638 q638
 obtain rfl : ad629 = ad638 := (by injection e638)
 have qi638 : (0 < t626.length) = True := eq_true (by omega)
 (try rw [show ((0 : Int)).toNat = 0 from rfl] at hx638_0)
 (try rw [Addr.add_zero'] at hx638_0)
 replace p638 := eq_true p638
 replace q638 := eq_true q638
 have p639 : 0 ≤ (1 : Int) := (by omega)
 have q639 : 1 < (t626.length : Int) := of_decide_eq_true xA
 obtain ⟨ad639, e639, hx639_0⟩ := Kd.at_string (Kd.R_reads' HO628.out).2.2 1 p639 q639
 obtain rfl : ad629 = ad639 := (by injection e639)
 (try simp only [show (1 : Int).toNat = 1 from rfl, Nat.reduceMul, Nat.reduceEqDiff, Go.Addr.add, ↓reduceIte] at hx639_0)
 have qi639 : (1 < t626.length) = True := eq_true (by omega)
 (try rw [show ((1 : Int)).toNat = 1 from rfl] at hx639_0)
 replace p639 := eq_true p639
 replace q639 := eq_true q639
 refine start_ (n := 12) (S := fun w' => w'.cell? ad629 = some (.string (rdOf ByteArray.empty t626 0)) ∧ w'.cell? ⟨ad629.block, ad629.off + 1, none⟩ = some (.string (rdOf ByteArray.empty t626 1))) (ds := []) (bm 12 0) (by kernel_rfl) rfl rfl ⟨hx638_0, hx639_0⟩ (fun hHeld => ?_); refine with_tabW impl_HeadGet.tab7 impl_HeadGet.bits7 (fun HT_ HW_ => ?_)
 generalize w18.drew = w20 at HO628 BK625 HB hx638_0 hx639_0 hHeld ⊢
 refine pA 0 39 (bm 12 1) HT_ ?_
 refine pA 1 40 (bm 12 3) HT_ ?_
 refine pA 3 42 (bm 12 11) HT_ ?_
 refine pA 4 43 (bm 12 27) HT_ ?_
 refine pA 6 45 (bm 12 91) HT_ ?_
 refine pA 7 46 (bm 12 219) HT_ ?_
 refine pA 8 47 (bm 12 475) HT_ ?_
 refine tA 2 41 (bm 12 479) HT_ HW_ hHeld ?_
 refine tA 5 44 (bm 12 511) HT_ HW_ hHeld ?_
 refine pA 9 48 (bm 12 1023) HT_ ?_
 refine oA 10 (some 11) (bm 12 2047) HT_ fun K hK => ?_
 refine bS 11 #[.string (⟨#[]⟩ : ByteArray), .string (⟨#[]⟩ : ByteArray), .int .i64 0, .int .i64 0, .int .i64 0] 24 ?_
 intro gb640 hg w21 hbox hb
 have HS0_ := cB hb hHeld.1
 have HS1_ := cB hb hHeld.2
 replace HO628 := rk HO628 hb
 have BK640 := am (hbox)
 have GW640 := zB hg HB
 have GE640 := zB hg HB
 replace HB := kH HB hb
 have NB625_640 := nl hg (kb BK625)
 have NB640_625 := ng hg (kb BK625)
 replace BK625 := kP _ BK625 hb
 clear hb hbox hg
 refine hK.out _ _ ⟨HS0_, HS1_⟩ (fun hHeld => ?_)
 clear hK K
 refine nA (some 11) ?_
 refine oA 11 none (bm 12 4095) HT_ fun K hK => ?_
 have hs22 : w21.cell? ⟨gb640, 0, none⟩ = some (.string (⟨#[]⟩ : ByteArray)) := (blk_cell BK640.out 0).trans rfl
 have hfs22 := blk_frozen BK640.out 0
 have hns22_0 := NB625_640.out
 have hms22_0 := NB640_625.out
 have hs23 : w21.cell? ⟨gb640, 1, none⟩ = some (.string (⟨#[]⟩ : ByteArray)) := (blk_cell BK640.out 1).trans rfl
 have hfs23 := blk_frozen BK640.out 1
 have hns23_0 := NB625_640.out
 have hms23_0 := NB640_625.out
 have hs24 : w21.cell? ⟨gb640, 2, none⟩ = some (.int .i64 0) := (blk_cell BK640.out 2).trans rfl
 have hfs24 := blk_frozen BK640.out 2
 have hns24_0 := NB625_640.out
 have hms24_0 := NB640_625.out
 have hs25 : w21.cell? ⟨gb640, 3, none⟩ = some (.int .i64 0) := (blk_cell BK640.out 3).trans rfl
 have hfs25 := blk_frozen BK640.out 3
 have hns25_0 := NB625_640.out
 have hms25_0 := NB640_625.out
 have hs26 : w21.cell? ⟨gb640, 4, none⟩ = some (.int .i64 0) := (blk_cell BK640.out 4).trans rfl
 have hfs26 := blk_frozen BK640.out 4
 have hns26_0 := NB625_640.out
 have hms26_0 := NB640_625.out
 refine skip_ (w1 := ?_) (by rfl) rfl ?_ ?_
 rotate_left
 ·go_simp
  rfl
 have hne_ := Kd.own_blk (Kd.R_ne HO628.out BK640.out (by decide))
 refine hK.out _ _ ⟨(cf hne_ hHeld.1), (cf hne_ hHeld.2)⟩ (fun hHeld => ?_)
 clear hK K
 refine done_ (done_of HT_.out (by kernel_rfl)) ?_
 by_cases c12 : t631 = true
 rotate_left
 ·replace c12 := Bool.eq_false_iff.mpr c12
  subst c12
  try simp only [Bool.not_true, Bool.not_false]
  rw [if_neg (show ¬ (false = true) by decide)] at H
  simp only [Option.some.injEq, Prod.mk.injEq] at H
  obtain ⟨rfl, rfl, rfl, rfl, rfl, rfl⟩ := H
  have hnb80 := NB625_640.out
  have hnc80 := NB640_625.out
  have hz81 := bc5 BK625
  try go_wp2
  refine bodyPost_ret (results_ct rfl _ _ gb625 24 #[.string (⟨#[]⟩ : ByteArray), .string (⟨#[]⟩ : ByteArray), .int .i64 0, .int .i64 0, .int .i64 0] (0, 0) _ rfl (fb BK625) Tryz.underlying24 rfl (by kernel_rfl)) rfl ?_
  exact ⟨xE, xB HB⟩
 subst c12
 try simp only [Bool.not_true, Bool.not_false]
 rw [if_pos rfl] at H
 by_cases c13 : t634 = true
 rotate_left
 ·replace c13 := Bool.eq_false_iff.mpr c13
  subst c13
  rw [if_neg (show ¬ (false = true) by decide)] at H
  simp only [Option.some.injEq, Prod.mk.injEq] at H
  obtain ⟨rfl, rfl, rfl, rfl, rfl, rfl⟩ := H
  have hnb68 := NB625_640.out
  have hnc68 := NB640_625.out
  have hz69 := bc5 BK625
  try go_wp2
  refine bodyPost_ret (results_ct rfl _ _ gb625 24 #[.string (⟨#[]⟩ : ByteArray), .string (⟨#[]⟩ : ByteArray), .int .i64 0, .int .i64 0, .int .i64 0] (0, 0) _ rfl (fb BK625) Tryz.underlying24 rfl (by kernel_rfl)) rfl ?_
  exact ⟨xE, xB HB⟩
 subst c13
 rw [if_pos rfl] at H
 by_cases c14 : t637 = true
 rotate_left
 ·replace c14 := Bool.eq_false_iff.mpr c14
  subst c14
  rw [if_neg (show ¬ (false = true) by decide)] at H
  simp only [Option.some.injEq, Prod.mk.injEq] at H
  obtain ⟨rfl, rfl, rfl, rfl, rfl, rfl⟩ := H
  have hnb56 := NB625_640.out
  have hnc56 := NB640_625.out
  have hz57 := bc5 BK625
  try go_wp2
  refine bodyPost_ret (results_ct rfl _ _ gb625 24 #[.string (⟨#[]⟩ : ByteArray), .string (⟨#[]⟩ : ByteArray), .int .i64 0, .int .i64 0, .int .i64 0] (0, 0) _ rfl (fb BK625) Tryz.underlying24 rfl (by kernel_rfl)) rfl ?_
  exact ⟨xE, xB HB⟩
 subst c14
 rw [if_pos rfl] at H
 replace H := oa H
 obtain ⟨t641, A15, H⟩ := H
 have hnb27 := NB640_625.out
 have hnc27 := NB625_640.out
 have hz28 := bc5 BK640
 go_upto_if 63 with (go_at_call 49; (with_reducible refine (impl_headOk.calls k (rdOf ByteArray.empty t626 0) (rdOf ByteArray.empty t626 1) t630 t633 t636 t641 _ A15.out).mono ?_); rintro e w29 ⟨rfl, hb⟩; replace HO628 := am (Kd.R_below (rf HO628 BK640) hb); replace BK625 := kP _ BK625 hb; replace BK640 := kP (.cells #[.string (rdOf ByteArray.empty t626 0), .string (rdOf ByteArray.empty t626 1), .int .i64 t630, .int .i64 t633, .int .i64 t636] 24 (0, 0)) BK640 hb; replace HB := kH HB hb; (try clear hb))
 by_cases c16 : t641 = true
 ·subst c16
  try simp only [Bool.not_true, Bool.not_false]
  rw [if_pos rfl] at H
  simp only [Option.some.injEq, Prod.mk.injEq] at H
  obtain ⟨rfl, rfl, rfl, rfl, rfl, rfl⟩ := H
  have hz30 := bc5 BK640
  have hz31 := bc5 BK625
  try go_wp2
  refine bodyPost_ret (results_ct rfl _ _ gb625 24 #[.string (rdOf ByteArray.empty t626 0), .string (rdOf ByteArray.empty t626 1), .int .i64 t630, .int .i64 t633, .int .i64 t636] (0, 0) _ rfl (fb BK625) Tryz.underlying24 rfl (by kernel_rfl)) rfl ?_
  exact ⟨xE, xB HB⟩
 replace c16 := Bool.eq_false_iff.mpr c16
 subst c16
 try simp only [Bool.not_true, Bool.not_false]
 rw [if_neg (show ¬ (false = true) by decide)] at H
 simp only [Option.some.injEq, Prod.mk.injEq] at H
 obtain ⟨rfl, rfl, rfl, rfl, rfl, rfl⟩ := H
 have hz45 := bc5 BK625
 try go_wp2
 refine bodyPost_ret (results_ct rfl _ _ gb625 24 #[.string (⟨#[]⟩ : ByteArray), .string (⟨#[]⟩ : ByteArray), .int .i64 0, .int .i64 0, .int .i64 0] (0, 0) _ rfl (fb BK625) Tryz.underlying24 rfl (by kernel_rfl)) rfl ?_
 exact ⟨xE, xB HB⟩
def impl_Peak.f (l0 : List S93) : Option (List S93) := if l0.length ≤ 1000000000 then some l0 else none
theorem impl_Peak.nil (A0 : Option Addr) (c0 : Nat) (w : World) : Calls Tryz.prog 65 #[.slice A0 0 c0] w fun e w' => e = .returned (.slice none 0 0) ∧ w = w' := by
 go_enter Tryz.func65, Tryz.ntmps65
 go_wp2
 go_ret
 exact ⟨rfl, rfl⟩
theorem impl_Peak.calls (A0 : Option Addr) (c0 : Nat) (l0 : List S93) (r : List S93) (w : World) (hr0 : Kd.C k93 w A0 l0.length l0) (hc0 : l0.length ≤ c0) (h : impl_Peak.f l0 = some r) :
  Calls Tryz.prog 65 #[.slice A0 l0.length c0] w fun e w' => ∃ v0_ : Value, e = .returned v0_ ∧ Kd.R k93 93 w' w.heap.size (fun _ => True) v0_ r ∧ Below w.heap.size w w' := by
 unfold impl_Peak.f at h
 by_cases hm : l0.length ≤ 1000000000
 rotate_left
 ·rw [if_neg hm] at h
  exact absurd h (by simp)
 rw [if_pos hm] at h
 obtain rfl := Option.some.inj h
 clear h
 rcases Nat.eq_zero_or_pos l0.length with h0 | h0
 ·obtain rfl : l0 = [] := List.eq_nil_of_length_eq_zero h0
  refine (impl_Peak.nil A0 c0 w).mono ?_
  rintro e w' ⟨rfl, rfl⟩
  exact ⟨_, rfl, Kd.R_nil _ _ _ _ _, Below.refl _ _⟩
 ·obtain ⟨ad, rfl, _⟩ := hr0.2.2 h0
  have hsrc := Go.Proofs.YtgjljbaadglpnaaGreatDoor.Cp.flat_src (fun x : S93 => [Value.string x.f0, .int .i64 x.f1, .int .i64 x.f2]) 3 rfl (fun _ => rfl) (by decide) (fun x c hk => k93_open hk) hr0 h0
  have hlen : ((l0.length : Int) == 0) = false := beq_eq_false_iff_ne.2 (by omega)
  have HS := Aside0.mk hsrc
  clear hsrc hr0
  go_enter Tryz.func65, Tryz.ntmps65
  go_wp2_with (first | ((with_reducible refine gate_dst (N := 9) rfl ?_); refine Kd.R_make k93 _ 93 rfl (N := 9) rfl 25 _ _ rfl (l0.length : Int) rfl rfl Tryz.underlying25 (.agg #[(.string ⟨#[]⟩), (.int .i64 0), (.int .i64 0)]) 32 (by kernel_rfl) rfl (by decide) (by omega) z93 (ok := fun _ => True) (okp := fun _ => True) (k93_mkM _ _ _ z93) (fun _ hk => hk) trivial (by omega) (by rw [Int.toNat_natCast]; omega) (Below.refl _ _) (Nat.le_refl _) ?_; intro v9 w4 ho5 hb hg_ hnew_; clear hg_ hnew_; obtain ⟨g, cap, cur, rfl, hbg, HF⟩ := Go.Proofs.YtgjljbaadglpnaaGreatDoor.Cp.made_form ho5 h0; have HB := Aside0.mk hb; clear ho5 hb) | ((with_reducible refine gate_builtin (b := .copy) (xs := #[.tmp 10, .tmp 11]) rfl ?_); refine Go.Proofs.YtgjljbaadglpnaaGreatDoor.Cp.wpList_copy_many rfl (.tmp 10) (.tmp 11) 25 25 rfl 93 Tryz.underlying25 3 (by kernel_rfl) g l0.length cap c0 ad rfl rfl cur 93 HF.out.1 (l0.flatMap fun x : S93 => [Value.string x.f0, .int .i64 x.f1, .int .i64 x.f2]) (Go.Proofs.YtgjljbaadglpnaaGreatDoor.Cp.flat_len _ 3 (fun _ => rfl) l0) (fun j v hj => pw_cell_below HB.out (HS.out j v hj)) (by rw [Go.Proofs.YtgjljbaadglpnaaGreatDoor.Cp.flat_len _ 3 (fun _ => rfl) l0, HF.out.2.2.2]; exact Nat.mul_le_mul_right _ HF.out.2.1) (Go.Proofs.YtgjljbaadglpnaaGreatDoor.Cp.flat_one _ (fun x v hv => by simp only [List.mem_cons, List.not_mem_nil, or_false] at hv; rcases hv with rfl | rfl | rfl <;> rfl) l0) w.heap.size w HB.out hbg ?_; intro w5 hh5 hb5; have HH := Aside0.mk hh5; have HB5 := Aside0.mk hb5; clear hh5 hb5))
  go_ret
  exact ⟨_, rfl, Go.Proofs.YtgjljbaadglpnaaGreatDoor.Cp.copied_row (fun x : S93 => [Value.string x.f0, .int .i64 x.f1, .int .i64 x.f2]) (by decide) (fun _ => rfl) (fun x => k93_mkM _ _ _ x) HF.out hbg HH.out, HB5.out⟩
def impl_peaksGet.l0 : Nat → List (S93) → List ByteArray → Int → Int → Option ((List (S93)) × Bool)
 | 0, _, _, _, _ => none
 | k + 1, x7, x23, x24, x25 => if x25 < x24 then (if 0 ≤ x25 then (if x25 < (x23.length : Int) then ((strings_Split.f (rdOf ByteArray.empty x23 x25) (⟨#[58]⟩ : ByteArray)).bind fun t654 => (if (t654.length : Int) = 3 then (if 1 < (t654.length : Int) then ((impl_number.f k (rdOf ByteArray.empty t654 1)).bind fun bt658 => (if 2 < (t654.length : Int) then ((impl_number.f k (rdOf ByteArray.empty t654 2)).bind fun bt661 => (if bt658.2 = true then (if bt661.2 = true then (if 0 < (t654.length : Int) then (if x7.length < 4398046511104 then (impl_peaksGet.l0 k (x7 ++ [(⟨rdOf ByteArray.empty t654 0, bt658.1, bt661.1⟩ : S93)]) x23 x24 (wrap64 (x25 + 1))) else (none)) else (none)) else (some (([] : List (S93)), false))) else (some (([] : List (S93)), false)))) else (none))) else (none)) else (some (([] : List (S93)), false)))) else (none)) else (none)) else ((impl_Peak.f x7).bind fun t650 => (some (t650, true)))
def impl_peaksGet.f (k : Nat) (a0 : ByteArray) (a1 : ByteArray) : Option ((List (S93)) × Bool) := (strings_Split.f a1 (⟨#[32]⟩ : ByteArray)).bind fun t642 => (if 0 < (t642.length : Int) then (if (rdOf ByteArray.empty t642 0).toList = a0.toList then (if 1 ≤ (t642.length : Int) then ((some (t642.drop 1 : List ByteArray)).bind fun y646 => (impl_peaksGet.l0 k ([] : List (S93)) y646 (y646.length : Int) 0)) else (none)) else (some (([] : List (S93)), false))) else (none))
theorem impl_peaksGet.mono_l : ∀ k, (∀ y0 y1 y2 y3, LeO (impl_peaksGet.l0 k y0 y1 y2 y3) (impl_peaksGet.l0 (k + 1) y0 y1 y2 y3))
 | 0 => fun _ _ _ _ r h => by simp [impl_peaksGet.l0] at h
 | k + 1 => by
  have ih0 := impl_peaksGet.mono_l k
  ·intro y0 y1 y2 y3
   unfold impl_peaksGet.l0
   exact mo2 ih0 impl_number.mono
theorem impl_peaksGet.mono : ∀ a0 a1 k, LeO (impl_peaksGet.f k a0 a1) (impl_peaksGet.f (k + 1) a0 a1) := by
 intro a0 a1 k
 have ih0 := impl_peaksGet.mono_l k
 unfold impl_peaksGet.f
 exact mo2 ih0 impl_number.mono
theorem impl_peaksGet.calls (k : Nat) (a0 : ByteArray) (a1 : ByteArray) (r1 : List (S93)) (r2 : Bool) (w : World) (h : impl_peaksGet.f k a0 a1 = some (r1, r2)) (PQM_ : Aside0 (Sh.HasM w)) :
  Calls Tryz.prog 28 #[.string a0, .string a1] w fun e w' => ∃ v0_ : Value, e = .returned (.tuple #[v0_, .bool r2]) ∧ Kd.R k93 93 w' w.heap.size (fun _ => True) v0_ r1 ∧ Below w.heap.size w w' := by
 have hu93 := Tryz.underlying93
 have HB := Aside0.mk (Below.refl w.heap.size w)
 have H : ((strings_Split.f a1 (⟨#[32]⟩ : ByteArray)).bind fun t642 => (if 0 < (t642.length : Int) then (if (rdOf ByteArray.empty t642 0).toList = a0.toList then (if 1 ≤ (t642.length : Int) then ((some (t642.drop 1 : List ByteArray)).bind fun y646 => (impl_peaksGet.l0 k ([] : List (S93)) y646 (y646.length : Int) 0)) else (none)) else (some (([] : List (S93)), false))) else (none))) = some (r1, r2) := h
 clear h
 replace H := oa H
 obtain ⟨t642, A3, H⟩ := H
 replace H := ip H
 obtain ⟨c4, H⟩ := H
 have c4b0 := decide_eq_true c4
 have c4b1 : decide (0 < t642.length) = true := decide_eq_true (by omega)
 clear c4
 go_enter Tryz.func28, Tryz.ntmps28
 go_upto_if 21 with ((with_reducible refine gg ?_); refine gL 16 Tryz.func24 #[.string a1, .string (⟨#[32]⟩ : ByteArray)] ?_; (with_reducible refine (strings_Split.calls a1 (⟨#[32]⟩ : ByteArray) t642 _ A3.out (Aside0.mk (Sh.hasM_of PQM_ (bl HB)))).mono ?_); rintro e w7 ⟨v643, rfl, ho0, hb⟩; refine ⟨_, rfl, ?_⟩; have HO644 := am (Kd.R_lower ho0 (below_size (bl HB))); replace HB := kH HB hb; (try clear hb); (try clear ho0); obtain ⟨Ao8, co8, eo8⟩ := Kd.R_slice HO644.out; subst eo8; have p645 : 0 ≤ (0 : Int) := (by omega); have q645 : 0 < (t642.length : Int) := of_decide_eq_true xA; obtain ⟨ad645, e645, hx645_0⟩ := Kd.at_string (Kd.R_reads' HO644.out).2.2 0 p645 q645; cases e645; have qi645 : (0 < t642.length) = True := eq_true (by omega); (try rw [show ((0 : Int)).toNat = 0 from rfl] at hx645_0); (try rw [Addr.add_zero'] at hx645_0); replace p645 := eq_true p645; replace q645 := eq_true q645)
 by_cases c5 : (rdOf ByteArray.empty t642 0).toList = a0.toList
 rotate_left
 ·rw [if_neg c5] at H
  have c5b0 := beq_eq_false_iff_ne.mpr c5
  have c5b1 := bne_iff_ne.mpr c5
  try simp only [c5b0, c5b1, Bool.not_true, Bool.not_false]
  simp only [Option.some.injEq, Prod.mk.injEq] at H
  obtain ⟨rfl, rfl⟩ := H
  go_wp2
  go_ret2
  exact ⟨_, xE, xN, bl HB⟩
 rw [if_pos c5] at H
 have c5b0 := beq_iff_eq.mpr c5
 have c5b1 := bne_eq_false_iff_eq.mpr c5
 try simp only [c5b0, c5b1, Bool.not_true, Bool.not_false]
 clear c5
 replace H := ip H
 obtain ⟨c6, H⟩ := H
 have c6b0 := eq_true c6
 have c6b1 := decide_eq_true c6
 clear c6
 obtain ⟨y646, Ny646⟩ := yA (t642.drop 1 : List ByteArray)
 rw [← Ny646.out] at H
 have H' := Aside0.mk H
 clear H
 have q9 : (1 : Int) ≤ ((t642.length : Int) : Int) := of_decide_eq_true xA
 obtain ⟨i09, hi09, _, hsz9, _⟩ := info_parts info9
 have hroom9 : t642.length ≤ co8 := (Kd.R_reads' HO644.out).2.1
 have hC9 : Kd.C Kd.string _ (some ad645) t642.length t642 := (Kd.R_reads' HO644.out).2.2
 have hcut9 := cut_from (P := Tryz.prog) 53 9 .i64 Tryz.underlying53 hi09 1 hsz9 (some ad645) t642.length co8 1 (by omega) q9
 have hr9 := Kd.C_drop (m := (1 : Int).toNat) (c := co8) hC9 (by omega) hroom9
 obtain ⟨A9, hA9⟩ : ∃ A1, A1 = (if co8 = (1 : Int).toNat then (some ad645) else ((some ad645) : Option Addr).map (·.add ((1 : Int).toNat * 1))) := ⟨_, rfl⟩
 obtain ⟨c9, hc9⟩ : ∃ c1, c1 = co8 - (1 : Int).toNat := ⟨_, rfl⟩
 have hy9 : y646.length = t642.length - (1 : Int).toNat := (by rw [Ny646.out, List.length_drop] <;> omega)
 rw [show (t642).drop (1 : Int).toNat = y646 from Ny646.out.symm] at hr9
 replace hr9 : Kd.C Kd.string _ A9 y646.length y646 := (by rw [hA9]; exact hr9)
 rw [← hy9, ← hA9, ← hc9] at hcut9
 have HR649 := Aside0.mk hr9
 have HC649 := Aside0.mk (show y646.length ≤ c9 from by rw [hy9, hc9]; exact Nat.sub_le_sub_right hroom9 _)
 clear hr9 hC9 hroom9 hi09 hsz9 hc9
 have KY9 := Aside0.mk hy9
 have KA9 := Aside0.mk hA9
 clear hy9 hA9
 have KL9 := Aside0.mk (show 1 ≤ t642.length from by omega)
 replace q9 := eq_true q9
 go_wp2
 have HBw := HB
 replace PQM_ := Aside0.mk (Sh.hasM_of PQM_ HB.out)
 clear HB
 have HB := Aside0.mk (Below.refl w7.heap.size w7)
 go_loopg [7, 25] k (fun kq v7 v25 w' => ∃ (x7_1 : List (S93)) (x25_1 : Int), v25 = .int .i64 x25_1 ∧ Aside0 (impl_peaksGet.l0 kq x7_1 y646 (y646.length : Int) x25_1 = some (r1, r2)) ∧ Aside0 (kq ≤ k) ∧ Aside0 (Kd.R k93 93 w' w7.heap.size (fun _ => True) v7 x7_1) ∧ Aside0 (Below w7.heap.size w7 w'))
 case atStart => exact ⟨(([] : List (S93))), (0), xR, H', ⟨Nat.le_refl _⟩, ⟨xN⟩, ⟨bl HB⟩⟩
 case round =>
  clear H'
  try clear c1
  try clear c2
  try clear p2
  try clear c4
  try clear c4b0
  try clear c4b1
  try clear c5
  try clear c5b0
  try clear c5b1
  try clear c6
  try clear c6b0
  try clear c6b1
  try clear p6
  try clear q6
  try clear hx6
  try clear qi6
  try clear c9
  try clear q9
  try clear hx645_0
  try clear p645
  try clear q645
  try clear q9
  obtain ⟨x7_1, x25_1, rfl, HA, HK1, HO_7, HB⟩ := hrel
  cases gk with
  | zero => exact absurd HA.out (by simp [impl_peaksGet.l0])
  | succ k1 =>
   have H := HA.out
   clear HA
   simp only [impl_peaksGet.l0] at H
   by_cases c10 : x25_1 < (y646.length : Int)
   rotate_left
   ·rw [if_neg c10] at H
    have c10b0 := decide_eq_false c10
    clear c10
    replace H := oa H
    obtain ⟨t650, A32, H⟩ := H
    simp only [Option.some.injEq, Prod.mk.injEq] at H
    obtain ⟨rfl, rfl⟩ := H
    obtain ⟨Ao33, co33, eo33⟩ := Kd.R_slice HO_7.out
    subst eo33
    go_wp2_with ((with_reducible refine gg ?_); refine gL 65 Tryz.func65 #[.slice Ao33 x7_1.length co33] ?_; (with_reducible refine (impl_Peak.calls _ _ x7_1 t650 _ ?side1 ?side2 A32.out).mono ?_); (case side1 => exact cr (Kd.R_reads' HO_7.out).2.2); (case side2 => exact sl HO_7); rintro e w34 ⟨v651, rfl, ho0, hb⟩; refine ⟨_, rfl, ?_⟩; have HO652 := am (Kd.R_lower (Kd.R_new' ho0 (Kd.R_lt (ra HO_7))) (below_size (bl HB))); replace HO_7 := am (Kd.R_elder' (ra HO_7) (Kd.R_base ho0) hb); replace HB := kH HB hb; (try clear hb); (try clear ho0))
    go_ret2
    exact ⟨_, xE, Kd.R_lower (rM HO652 (fun _ hk => trivial)) (below_size HBw.out), below_step HBw.out (bl HB)⟩
   rw [if_pos c10] at H
   have c10b0 := decide_eq_true c10
   clear c10
   replace H := ipd H
   obtain ⟨c11b0, H⟩ := H
   replace H := ipd H
   obtain ⟨c12b0, H⟩ := H
   replace H := oa H
   obtain ⟨t654, A13, H⟩ := H
   have p653 : 0 ≤ (x25_1 : Int) := of_decide_eq_true xA
   have q653 : x25_1 < (y646.length : Int) := of_decide_eq_true xA
   obtain ⟨ad653, e653, hx653_0⟩ := Kd.at_string HR649.out x25_1 p653 q653
   cases e653
   replace hx653_0 := hc HB hx653_0
   replace p653 := eq_true p653
   replace q653 := eq_true q653
   go_upto_if 33 with ((with_reducible refine gg ?_); refine gL 30 Tryz.func24 #[.string (rdOf ByteArray.empty y646 x25_1), .string (⟨#[58]⟩ : ByteArray)] ?_; (with_reducible refine (strings_Split.calls (rdOf ByteArray.empty y646 x25_1) (⟨#[58]⟩ : ByteArray) t654 _ A13.out (Aside0.mk (Sh.hasM_of PQM_ (bl HB)))).mono ?_); rintro e w23 ⟨v655, rfl, ho0, hb⟩; refine ⟨_, rfl, ?_⟩; replace HO_7 := rk HO_7 hb; have HO656 := am (Kd.R_lower ho0 (below_size (bl HB))); replace HB := kH HB hb; (try clear hb); (try clear ho0); obtain ⟨Ao24, co24, eo24⟩ := Kd.R_slice HO656.out; subst eo24)
   by_cases c14 : (t654.length : Int) = 3
   rotate_left
   ·rw [if_neg c14] at H
    have c14b0 := beq_eq_false_iff_ne.mpr c14
    have c14b1 := bne_iff_ne.mpr c14
    try simp only [c14b0, c14b1, Bool.not_true, Bool.not_false]
    simp only [Option.some.injEq, Prod.mk.injEq] at H
    obtain ⟨rfl, rfl⟩ := H
    go_wp2
    go_ret2
    exact ⟨_, xE, xN, below_step HBw.out (bl HB)⟩
   rw [if_pos c14] at H
   have c14b0 := beq_iff_eq.mpr c14
   have c14b1 := bne_eq_false_iff_eq.mpr c14
   try simp only [c14b0, c14b1, Bool.not_true, Bool.not_false]
   clear c14
   replace H := ip H
   obtain ⟨c15, H⟩ := H
   have c15b0 := decide_eq_true c15
   have c15b1 : decide (1 < t654.length) = true := decide_eq_true (by omega)
   clear c15
   replace H := Option.bind_eq_some_iff.mp H
   obtain ⟨⟨t658, t659⟩, A160, H⟩ := H
   have A16 := Aside0.mk A160
   clear A160
   replace H := ip H
   obtain ⟨c17, H⟩ := H
   have c17b0 := decide_eq_true c17
   have c17b1 : decide (2 < t654.length) = true := decide_eq_true (by omega)
   clear c17
   replace H := Option.bind_eq_some_iff.mp H
   obtain ⟨⟨t661, t662⟩, A180, H⟩ := H
   have A18 := Aside0.mk A180
   clear A180
   have p657 : 0 ≤ (1 : Int) := (by omega)
   have q657 : 1 < (t654.length : Int) := of_decide_eq_true xA
   obtain ⟨ad657, e657, hx657_0⟩ := Kd.at_string (Kd.R_reads' HO656.out).2.2 1 p657 q657
   cases e657
   (try simp only [show (1 : Int).toNat = 1 from rfl, Nat.reduceMul, Nat.reduceEqDiff, Go.Addr.add, ↓reduceIte] at hx657_0)
   have qi657 : (1 < t654.length) = True := eq_true (by omega)
   (try rw [show ((1 : Int)).toNat = 1 from rfl] at hx657_0)
   replace p657 := eq_true p657
   replace q657 := eq_true q657
   go_upto_region 13 with ((with_reducible refine gg ?_); first | (refine gL 38 Tryz.func26 #[.string (rdOf ByteArray.empty t654 1)] ?_; (with_reducible refine (impl_number.calls k1 (rdOf ByteArray.empty t654 1) t658 t659 _ A16.out).mono ?_); rintro e w' ⟨rfl, ⟨nd, rfl⟩⟩; refine ⟨_, rfl, ?_⟩; have p660 : 0 ≤ (2 : Int) := (by omega); have q660 : 2 < (t654.length : Int) := of_decide_eq_true xA; obtain ⟨ad660, e660, hx660_0⟩ := Kd.at_string (Kd.R_reads' HO656.out).2.2 2 p660 q660; obtain rfl : ad657 = ad660 := (by injection e660); (try simp only [show (2 : Int).toNat = 2 from rfl, Nat.reduceMul, Nat.reduceEqDiff, Go.Addr.add, ↓reduceIte] at hx660_0); have qi660 : (2 < t654.length) = True := eq_true (by omega); (try rw [show ((2 : Int)).toNat = 2 from rfl] at hx660_0); replace p660 := eq_true p660; replace q660 := eq_true q660) | (refine gL 45 Tryz.func26 #[.string (rdOf ByteArray.empty t654 2)] ?_; (with_reducible refine (impl_number.calls k1 (rdOf ByteArray.empty t654 2) t661 t662 _ A18.out).mono ?_); rintro e w' ⟨rfl, ⟨nd, rfl⟩⟩; refine ⟨_, rfl, ?_⟩))
   by_cases c19 : t659 = true
   rotate_left
   ·replace c19 := Bool.eq_false_iff.mpr c19
    subst c19
    try simp only [Bool.not_true, Bool.not_false]
    rw [if_neg (show ¬ (false = true) by decide)] at H
    simp only [Option.some.injEq, Prod.mk.injEq] at H
    obtain ⟨rfl, rfl⟩ := H
    go_wp2
    go_ret2
    exact ⟨_, xE, xN, below_step HBw.out (bl HB)⟩
   subst c19
   try simp only [Bool.not_true, Bool.not_false]
   rw [if_pos rfl] at H
   by_cases c20 : t662 = true
   rotate_left
   ·replace c20 := Bool.eq_false_iff.mpr c20
    subst c20
    rw [if_neg (show ¬ (false = true) by decide)] at H
    simp only [Option.some.injEq, Prod.mk.injEq] at H
    obtain ⟨rfl, rfl⟩ := H
    go_wp2
    go_ret2
    exact ⟨_, xE, xN, below_step HBw.out (bl HB)⟩
   subst c20
   rw [if_pos rfl] at H
   replace H := ip H
   obtain ⟨c21, H⟩ := H
   have c21b0 := decide_eq_true c21
   have c21b1 : decide (0 < t654.length) = true := decide_eq_true (by omega)
   clear c21
   replace H := ipa H
   obtain ⟨LMc22, H⟩ := H
   obtain ⟨y664, Ny664⟩ := yA (x7_1 ++ [(⟨rdOf ByteArray.empty t654 0, t658, t661⟩ : S93)] : List (S93))
   rw [← Ny664.out] at H
   have H' := Aside0.mk H
   clear H
   have p663 : 0 ≤ (0 : Int) := (by omega)
   have q663 : 0 < (t654.length : Int) := of_decide_eq_true xA
   obtain ⟨ad663, e663, hx663_0⟩ := Kd.at_string (Kd.R_reads' HO656.out).2.2 0 p663 q663
   obtain rfl : ad657 = ad663 := (by injection e663)
   have qi663 : (0 < t654.length) = True := eq_true (by omega)
   (try rw [show ((0 : Int)).toNat = 0 from rfl] at hx663_0)
   (try rw [Addr.add_zero'] at hx663_0)
   replace p663 := eq_true p663
   replace q663 := eq_true q663
   go_wp2_with ((with_reducible refine gate_builtin (b := .append) (xs := #[.tmp 54, .tmp 61]) rfl ?_); at_builtin; refine Kd.R_append k93 (w0 := w7) w7.heap.size rfl (.tmp 54) (.tmp 61) 25 93 (.agg #[(.string ⟨#[]⟩), (.int .i64 0), (.int .i64 0)]) 32 rfl Tryz.underlying25 info93 rfl (by decide) (by omega) u7 x7_1 (⟨rdOf ByteArray.empty t654 0, t658, t661⟩ : S93) [.string (rdOf ByteArray.empty t654 0), .int .i64 t658, .int .i64 t661] (fun _ => True) (fun _ => False) rfl rfl ?aP (fun _ hk => hk.elim) ?aF ?aO ?aB ?aS ?aL ?_; (case aP => exact k93_mkM _ _ _ (⟨rdOf ByteArray.empty t654 0, t658, t661⟩ : S93)); (case aB => exact (bl HB)); (case aF => exact (fun _ _ => trivial)); (case aO => exact (ra HO_7)); (case aS => exact (below_size (bl HB))); (case aL => have := LMc22.out; omega); intro v665 w25 ho hb hg hat; rw [← Ny664.out] at ho; have n0_ := Aside0.mk (Kd.R_over' (ra HO656) (Kd.R_typed (ra HO_7)) (by decide) hg); have n1_ := Aside0.mk (hb); have n2_ := Aside0.mk (ho); clear HO656; clear HB; clear HO_7; have HO656 := n0_; have HB := n1_; have HO666 := n2_; clear n0_ n1_ n2_; clear ho hb hg hat)
   go_roundg k1
   case measure => have := HK1.out; omega
   case rel => exact ⟨(y664), (wrap64 (x25_1 + 1)), xR, H', ⟨xL HK1⟩, ⟨ra HO666⟩, ⟨bl HB⟩⟩
def impl_Side.f (l0 : List S48) : Option (List S48) := if l0.length ≤ 1000000000 then some l0 else none
theorem impl_Side.nil (A0 : Option Addr) (c0 : Nat) (w : World) : Calls Tryz.prog 66 #[.slice A0 0 c0] w fun e w' => e = .returned (.slice none 0 0) ∧ w = w' := by
 go_enter Tryz.func66, Tryz.ntmps66
 go_wp2
 go_ret
 exact ⟨rfl, rfl⟩
theorem impl_Side.calls (A0 : Option Addr) (c0 : Nat) (l0 : List S48) (r : List S48) (w : World) (hr0 : Kd.C k48 w A0 l0.length l0) (hc0 : l0.length ≤ c0) (h : impl_Side.f l0 = some r) :
  Calls Tryz.prog 66 #[.slice A0 l0.length c0] w fun e w' => ∃ v0_ : Value, e = .returned v0_ ∧ Kd.R k48 48 w' w.heap.size (fun _ => True) v0_ r ∧ Below w.heap.size w w' := by
 unfold impl_Side.f at h
 by_cases hm : l0.length ≤ 1000000000
 rotate_left
 ·rw [if_neg hm] at h
  exact absurd h (by simp)
 rw [if_pos hm] at h
 obtain rfl := Option.some.inj h
 clear h
 rcases Nat.eq_zero_or_pos l0.length with h0 | h0
 ·obtain rfl : l0 = [] := List.eq_nil_of_length_eq_zero h0
  refine (impl_Side.nil A0 c0 w).mono ?_
  rintro e w' ⟨rfl, rfl⟩
  exact ⟨_, rfl, Kd.R_nil _ _ _ _ _, Below.refl _ _⟩
 ·obtain ⟨ad, rfl, _⟩ := hr0.2.2 h0
  have hsrc := Go.Proofs.YtgjljbaadglpnaaGreatDoor.Cp.flat_src (fun x : S48 => [Value.string x.f0, .bool x.f1]) 2 rfl (fun _ => rfl) (by decide) (fun x c hk => k48_open hk) hr0 h0
  have hlen : ((l0.length : Int) == 0) = false := beq_eq_false_iff_ne.2 (by omega)
  have HS := Aside0.mk hsrc
  clear hsrc hr0
  go_enter Tryz.func66, Tryz.ntmps66
  go_wp2_with (first | ((with_reducible refine gate_dst (N := 9) rfl ?_); refine Kd.R_make k48 _ 48 rfl (N := 9) rfl 28 _ _ rfl (l0.length : Int) rfl rfl Tryz.underlying28 (.agg #[(.string ⟨#[]⟩), (.bool false)]) 24 (by kernel_rfl) rfl (by decide) (by omega) z48 (ok := fun _ => True) (okp := fun _ => True) (k48_mkM _ _ _ z48) (fun _ hk => hk) trivial (by omega) (by rw [Int.toNat_natCast]; omega) (Below.refl _ _) (Nat.le_refl _) ?_; intro v9 w4 ho5 hb hg_ hnew_; clear hg_ hnew_; obtain ⟨g, cap, cur, rfl, hbg, HF⟩ := Go.Proofs.YtgjljbaadglpnaaGreatDoor.Cp.made_form ho5 h0; have HB := Aside0.mk hb; clear ho5 hb) | ((with_reducible refine gate_builtin (b := .copy) (xs := #[.tmp 10, .tmp 11]) rfl ?_); refine Go.Proofs.YtgjljbaadglpnaaGreatDoor.Cp.wpList_copy_many rfl (.tmp 10) (.tmp 11) 28 28 rfl 48 Tryz.underlying28 2 (by kernel_rfl) g l0.length cap c0 ad rfl rfl cur 48 HF.out.1 (l0.flatMap fun x : S48 => [Value.string x.f0, .bool x.f1]) (Go.Proofs.YtgjljbaadglpnaaGreatDoor.Cp.flat_len _ 2 (fun _ => rfl) l0) (fun j v hj => pw_cell_below HB.out (HS.out j v hj)) (by rw [Go.Proofs.YtgjljbaadglpnaaGreatDoor.Cp.flat_len _ 2 (fun _ => rfl) l0, HF.out.2.2.2]; exact Nat.mul_le_mul_right _ HF.out.2.1) (Go.Proofs.YtgjljbaadglpnaaGreatDoor.Cp.flat_one _ (fun x v hv => by simp only [List.mem_cons, List.not_mem_nil, or_false] at hv; rcases hv with rfl | rfl <;> rfl) l0) w.heap.size w HB.out hbg ?_; intro w5 hh5 hb5; have HH := Aside0.mk hh5; have HB5 := Aside0.mk hb5; clear hh5 hb5))
  go_ret
  exact ⟨_, rfl, Go.Proofs.YtgjljbaadglpnaaGreatDoor.Cp.copied_row (fun x : S48 => [Value.string x.f0, .bool x.f1]) (by decide) (fun _ => rfl) (fun x => k48_mkM _ _ _ x) HF.out hbg HH.out, HB5.out⟩
def impl_sidesGet.l0 : Nat → List (S48) → List ByteArray → Int → Int → Option ((List (S48)) × Bool)
 | 0, _, _, _, _ => none
 | k + 1, x5, x15, x16, x17 => if x17 < x16 then (if 0 ≤ x17 then (if x17 < (x15.length : Int) then (if (rdOf ByteArray.empty x15 x17).toList = ([] : List UInt8) then (some (([] : List (S48)), false)) else (if 0 < ((rdOf ByteArray.empty x15 x17).size : Int) then (if (bt (rdOf ByteArray.empty x15 x17) 0) = 108 then (if 1 ≤ ((rdOf ByteArray.empty x15 x17).size : Int) then (if x5.length < 5864062014805 then (impl_sidesGet.l0 k (x5 ++ [(⟨(rdOf ByteArray.empty x15 x17).extract 1 (rdOf ByteArray.empty x15 x17).size, ((bt (rdOf ByteArray.empty x15 x17) 0) == 108)⟩ : S48)]) x15 x16 (wrap64 (x17 + 1))) else (none)) else (none)) else (if (bt (rdOf ByteArray.empty x15 x17) 0) = 114 then (if 1 ≤ ((rdOf ByteArray.empty x15 x17).size : Int) then (if x5.length < 5864062014805 then (impl_sidesGet.l0 k (x5 ++ [(⟨(rdOf ByteArray.empty x15 x17).extract 1 (rdOf ByteArray.empty x15 x17).size, ((bt (rdOf ByteArray.empty x15 x17) 0) == 108)⟩ : S48)]) x15 x16 (wrap64 (x17 + 1))) else (none)) else (none)) else (some (([] : List (S48)), false)))) else (none))) else (none)) else (none)) else ((impl_Side.f x5).bind fun t682 => (some (t682, true)))
def impl_sidesGet.f (k : Nat) (a0 : ByteArray) : Option ((List (S48)) × Bool) := (strings_Split.f a0 (⟨#[32]⟩ : ByteArray)).bind fun t667 => (if 0 < (t667.length : Int) then (if (rdOf ByteArray.empty t667 0).toList = ([115, 105, 100, 101, 115] : List UInt8) then (if 1 ≤ (t667.length : Int) then ((some (t667.drop 1 : List ByteArray)).bind fun y671 => (impl_sidesGet.l0 k ([] : List (S48)) y671 (y671.length : Int) 0)) else (none)) else (some (([] : List (S48)), false))) else (none))
theorem impl_sidesGet.mono_l : ∀ k, (∀ y0 y1 y2 y3, LeO (impl_sidesGet.l0 k y0 y1 y2 y3) (impl_sidesGet.l0 (k + 1) y0 y1 y2 y3))
 | 0 => fun _ _ _ _ r h => by simp [impl_sidesGet.l0] at h
 | k + 1 => by
  have ih0 := impl_sidesGet.mono_l k
  ·intro y0 y1 y2 y3
   unfold impl_sidesGet.l0
   exact mo1 ih0
theorem impl_sidesGet.mono : ∀ a0 k, LeO (impl_sidesGet.f k a0) (impl_sidesGet.f (k + 1) a0) := by
 intro a0 k
 have ih0 := impl_sidesGet.mono_l k
 unfold impl_sidesGet.f
 exact mo1 ih0
def impl_sidesGet.T10 : Bool × List (List Nat × List Nat) := (true, [([], []), ([], []), ([1], [1]), ([], []), ([3], [3]), ([4], [4]), ([2, 5], [2, 5]), ([6], [6]), ([0, 7], [0, 7]), ([8, 8, 0, 1, 2, 3, 4, 5, 6, 7, 8], [0, 8])])
def impl_sidesGet.B10 : List Nat := [0, 0, 2, 0, 8, 24, 62, 126, 255, 511]
theorem impl_sidesGet.tab10 : rtab .any (opsOf Tryz.f29 10) = impl_sidesGet.T10 := by kernel_rfl
theorem impl_sidesGet.bits10 : waitsOk impl_sidesGet.T10.2 impl_sidesGet.B10 = true := by kernel_rfl
theorem impl_sidesGet.calls (k : Nat) (a0 : ByteArray) (r1 : List (S48)) (r2 : Bool) (w : World) (h : impl_sidesGet.f k a0 = some (r1, r2)) (PQM_ : Aside0 (Sh.HasM w)) :
  Calls Tryz.prog 29 #[.string a0] w fun e w' => ∃ v0_ : Value, e = .returned (.tuple #[v0_, .bool r2]) ∧ Kd.R k48 48 w' w.heap.size (fun _ => True) v0_ r1 ∧ Below w.heap.size w w' := by
 have hu48 := Tryz.underlying48
 have HB := Aside0.mk (Below.refl w.heap.size w)
 have H : ((strings_Split.f a0 (⟨#[32]⟩ : ByteArray)).bind fun t667 => (if 0 < (t667.length : Int) then (if (rdOf ByteArray.empty t667 0).toList = ([115, 105, 100, 101, 115] : List UInt8) then (if 1 ≤ (t667.length : Int) then ((some (t667.drop 1 : List ByteArray)).bind fun y671 => (impl_sidesGet.l0 k ([] : List (S48)) y671 (y671.length : Int) 0)) else (none)) else (some (([] : List (S48)), false))) else (none))) = some (r1, r2) := h
 clear h
 replace H := oa H
 obtain ⟨t667, A2, H⟩ := H
 replace H := ip H
 obtain ⟨c3, H⟩ := H
 have c3b0 := decide_eq_true c3
 have c3b1 : decide (0 < t667.length) = true := decide_eq_true (by omega)
 clear c3
 go_enter Tryz.func29, Tryz.ntmps29
 go_upto_if 13 with ((with_reducible refine gg ?_); refine gL 9 Tryz.func24 #[.string a0, .string (⟨#[32]⟩ : ByteArray)] ?_; (with_reducible refine (strings_Split.calls a0 (⟨#[32]⟩ : ByteArray) t667 _ A2.out (Aside0.mk (Sh.hasM_of PQM_ (bl HB)))).mono ?_); rintro e w6 ⟨v668, rfl, ho0, hb⟩; refine ⟨_, rfl, ?_⟩; have HO669 := am (Kd.R_lower ho0 (below_size (bl HB))); replace HB := kH HB hb; (try clear hb); (try clear ho0); obtain ⟨Ao7, co7, eo7⟩ := Kd.R_slice HO669.out; subst eo7; have p670 : 0 ≤ (0 : Int) := (by omega); have q670 : 0 < (t667.length : Int) := of_decide_eq_true xA; obtain ⟨ad670, e670, hx670_0⟩ := Kd.at_string (Kd.R_reads' HO669.out).2.2 0 p670 q670; cases e670; have qi670 : (0 < t667.length) = True := eq_true (by omega); (try rw [show ((0 : Int)).toNat = 0 from rfl] at hx670_0); (try rw [Addr.add_zero'] at hx670_0); replace p670 := eq_true p670; replace q670 := eq_true q670)
 by_cases c4 : (rdOf ByteArray.empty t667 0).toList = ([115, 105, 100, 101, 115] : List UInt8)
 rotate_left
 ·rw [if_neg c4] at H
  have c4b0 := beq_eq_false_iff_ne.mpr c4
  have c4b1 := bne_iff_ne.mpr c4
  try simp only [c4b0, c4b1, Bool.not_true, Bool.not_false]
  simp only [Option.some.injEq, Prod.mk.injEq] at H
  obtain ⟨rfl, rfl⟩ := H
  go_wp2
  go_ret2
  exact ⟨_, xE, xN, bl HB⟩
 rw [if_pos c4] at H
 have c4b0 := beq_iff_eq.mpr c4
 have c4b1 := bne_eq_false_iff_eq.mpr c4
 try simp only [c4b0, c4b1, Bool.not_true, Bool.not_false]
 clear c4
 replace H := ip H
 obtain ⟨c5, H⟩ := H
 have c5b0 := eq_true c5
 have c5b1 := decide_eq_true c5
 clear c5
 obtain ⟨y671, Ny671⟩ := yA (t667.drop 1 : List ByteArray)
 rw [← Ny671.out] at H
 have H' := Aside0.mk H
 clear H
 have q8 : (1 : Int) ≤ ((t667.length : Int) : Int) := of_decide_eq_true xA
 obtain ⟨i08, hi08, _, hsz8, _⟩ := info_parts info9
 have hroom8 : t667.length ≤ co7 := (Kd.R_reads' HO669.out).2.1
 have hC8 : Kd.C Kd.string _ (some ad670) t667.length t667 := (Kd.R_reads' HO669.out).2.2
 have hcut8 := cut_from (P := Tryz.prog) 53 9 .i64 Tryz.underlying53 hi08 1 hsz8 (some ad670) t667.length co7 1 (by omega) q8
 have hr8 := Kd.C_drop (m := (1 : Int).toNat) (c := co7) hC8 (by omega) hroom8
 obtain ⟨A8, hA8⟩ : ∃ A1, A1 = (if co7 = (1 : Int).toNat then (some ad670) else ((some ad670) : Option Addr).map (·.add ((1 : Int).toNat * 1))) := ⟨_, rfl⟩
 obtain ⟨c8, hc8⟩ : ∃ c1, c1 = co7 - (1 : Int).toNat := ⟨_, rfl⟩
 have hy8 : y671.length = t667.length - (1 : Int).toNat := (by rw [Ny671.out, List.length_drop] <;> omega)
 rw [show (t667).drop (1 : Int).toNat = y671 from Ny671.out.symm] at hr8
 replace hr8 : Kd.C Kd.string _ A8 y671.length y671 := (by rw [hA8]; exact hr8)
 rw [← hy8, ← hA8, ← hc8] at hcut8
 have HR674 := Aside0.mk hr8
 have HC674 := Aside0.mk (show y671.length ≤ c8 from by rw [hy8, hc8]; exact Nat.sub_le_sub_right hroom8 _)
 clear hr8 hC8 hroom8 hi08 hsz8 hc8
 have KY8 := Aside0.mk hy8
 have KA8 := Aside0.mk hA8
 clear hy8 hA8
 have KL8 := Aside0.mk (show 1 ≤ t667.length from by omega)
 replace q8 := eq_true q8
 go_wp2
 have HBw := HB
 replace PQM_ := Aside0.mk (Sh.hasM_of PQM_ HB.out)
 clear HB
 have HB := Aside0.mk (Below.refl w6.heap.size w6)
 go_loopg [5, 17] k (fun kq v5 v17 w' => ∃ (x5_1 : List (S48)) (x17_1 : Int), v17 = .int .i64 x17_1 ∧ Aside0 (impl_sidesGet.l0 kq x5_1 y671 (y671.length : Int) x17_1 = some (r1, r2)) ∧ Aside0 (kq ≤ k) ∧ Aside0 (Kd.R k48 48 w' w6.heap.size (fun _ => True) v5 x5_1) ∧ Aside0 (Below w6.heap.size w6 w'))
 case atStart => exact ⟨(([] : List (S48))), (0), xR, H', ⟨Nat.le_refl _⟩, ⟨xN⟩, ⟨bl HB⟩⟩
 case round =>
  clear H'
  try clear c1
  try clear c2
  try clear p2
  try clear c3
  try clear c3b0
  try clear c3b1
  try clear c4
  try clear c4b0
  try clear c4b1
  try clear c5
  try clear c5b0
  try clear c5b1
  try clear p6
  try clear q6
  try clear hx6
  try clear qi6
  try clear c8
  try clear q8
  try clear hx670_0
  try clear p670
  try clear q670
  try clear q8
  obtain ⟨x5_1, x17_1, rfl, HA, HK1, HO_5, HB⟩ := hrel
  cases gk with
  | zero => exact absurd HA.out (by simp [impl_sidesGet.l0])
  | succ k1 =>
   have H := HA.out
   clear HA
   simp only [impl_sidesGet.l0] at H
   by_cases c9 : x17_1 < (y671.length : Int)
   rotate_left
   ·rw [if_neg c9] at H
    have c9b0 := decide_eq_false c9
    clear c9
    replace H := oa H
    obtain ⟨t682, A28, H⟩ := H
    simp only [Option.some.injEq, Prod.mk.injEq] at H
    obtain ⟨rfl, rfl⟩ := H
    obtain ⟨Ao29, co29, eo29⟩ := Kd.R_slice HO_5.out
    subst eo29
    go_wp2_with ((with_reducible refine gg ?_); refine gL 44 Tryz.func66 #[.slice Ao29 x5_1.length co29] ?_; (with_reducible refine (impl_Side.calls _ _ x5_1 t682 _ ?side1 ?side2 A28.out).mono ?_); (case side1 => exact cr (Kd.R_reads' HO_5.out).2.2); (case side2 => exact sl HO_5); rintro e w30 ⟨v683, rfl, ho0, hb⟩; refine ⟨_, rfl, ?_⟩; have HO684 := am (Kd.R_lower (Kd.R_new' ho0 (Kd.R_lt (ra HO_5))) (below_size (bl HB))); replace HO_5 := am (Kd.R_elder' (ra HO_5) (Kd.R_base ho0) hb); replace HB := kH HB hb; (try clear hb); (try clear ho0))
    go_ret2
    exact ⟨_, xE, Kd.R_lower (rM HO684 (fun _ hk => trivial)) (below_size HBw.out), below_step HBw.out (bl HB)⟩
   rw [if_pos c9] at H
   have c9b0 := decide_eq_true c9
   clear c9
   replace H := ipd H
   obtain ⟨c10b0, H⟩ := H
   replace H := ipd H
   obtain ⟨c11b0, H⟩ := H
   have p675 : 0 ≤ (x17_1 : Int) := of_decide_eq_true xA
   have q675 : x17_1 < (y671.length : Int) := of_decide_eq_true xA
   obtain ⟨ad675, e675, hx675_0⟩ := Kd.at_string HR674.out x17_1 p675 q675
   cases e675
   replace hx675_0 := hc HB hx675_0
   replace p675 := eq_true p675
   replace q675 := eq_true q675
   by_cases c12 : (rdOf ByteArray.empty y671 x17_1).toList = ([] : List UInt8)
   ·rw [if_pos c12] at H
    have c12b0 := beq_iff_eq.mpr c12
    have c12b1 := bne_eq_false_iff_eq.mpr c12
    clear c12
    simp only [Option.some.injEq, Prod.mk.injEq] at H
    obtain ⟨rfl, rfl⟩ := H
    go_wp2
    go_ret2
    exact ⟨_, xE, xN, below_step HBw.out (bl HB)⟩
   rw [if_neg c12] at H
   have c12b0 := beq_eq_false_iff_ne.mpr c12
   have c12b1 := bne_iff_ne.mpr c12
   replace H := ip H
   obtain ⟨c13, H⟩ := H
   have c13b0 := decide_eq_true c13
   have c13b1 : decide (0 < (rdOf ByteArray.empty y671 x17_1).size) = true := decide_eq_true (by omega)
   clear c13
   have p14 : 0 ≤ (0 : Int) := (by omega)
   have q14 : 0 < (rdOf ByteArray.empty y671 x17_1).size := (by have : (0 : Int) < ((rdOf ByteArray.empty y671 x17_1).size : Int) := of_decide_eq_true xA; omega)
   have hx14 : ∀ h : 0 < (rdOf ByteArray.empty y671 x17_1).size, (((rdOf ByteArray.empty y671 x17_1)[0]'h).toNat : Int) = bt (rdOf ByteArray.empty y671 x17_1) 0 := bt_at (rdOf ByteArray.empty y671 x17_1) 0
   clear p14
   have qi14 : (0 < ((rdOf ByteArray.empty y671 x17_1).size : Int)) = True := eq_true (of_decide_eq_true xA)
   replace q14 := eq_true q14
   by_cases c15 : (bt (rdOf ByteArray.empty y671 x17_1) 0) = 108
   ·rw [if_pos c15] at H
    have c15b0 := beq_iff_eq.mpr c15
    have c15b1 := bne_eq_false_iff_eq.mpr c15
    clear c15
    replace H := ip H
    obtain ⟨c16, H⟩ := H
    have c16b0 := eq_true c16
    have c16b1 := decide_eq_true c16
    clear c16
    replace H := ipa H
    obtain ⟨LMc18, H⟩ := H
    obtain ⟨y676, Ny676⟩ := yA (x5_1 ++ [(⟨(rdOf ByteArray.empty y671 x17_1).extract 1 (rdOf ByteArray.empty y671 x17_1).size, ((bt (rdOf ByteArray.empty y671 x17_1) 0) == 108)⟩ : S48)] : List (S48))
    rw [← Ny676.out] at H
    have H' := Aside0.mk H
    clear H
    try go_wp2
    replace HO_5 := am (Kd.R_drew HO_5.out)
    replace HB := am (below_drew1 HB.out)
    have p17 : 0 ≤ (0 : Int) := (by omega)
    have q17 : 0 < (rdOf ByteArray.empty y671 x17_1).size := (by have : (0 : Int) < ((rdOf ByteArray.empty y671 x17_1).size : Int) := of_decide_eq_true xA; omega)
    have hx17 : ∀ h : 0 < (rdOf ByteArray.empty y671 x17_1).size, (((rdOf ByteArray.empty y671 x17_1)[0]'h).toNat : Int) = bt (rdOf ByteArray.empty y671 x17_1) 0 := bt_at (rdOf ByteArray.empty y671 x17_1) 0
    clear p17
    have qi17 : (0 < ((rdOf ByteArray.empty y671 x17_1).size : Int)) = True := eq_true (of_decide_eq_true xA)
    replace q17 := eq_true q17
    refine start_ (n := 10) (S := fun w' => True) (ds := []) (bm 10 0) (by kernel_rfl) rfl rfl trivial (fun hHeld => ?_); refine with_tabW impl_sidesGet.tab10 impl_sidesGet.bits10 (fun HT_ HW_ => ?_)
    generalize wr.drew = w19 at HO_5 HB hHeld ⊢
    refine pA 0 33 (bm 10 1) HT_ ?_
    refine pA 1 34 (bm 10 3) HT_ ?_
    refine pA 2 35 (bm 10 7) HT_ ?_
    refine pA 3 36 (bm 10 15) HT_ ?_
    refine take_ (i := 4) (N := some 37) (v := ?_) (a' := ?_) (bm 10 31) rfl rfl (take_ofW HT_.out HW_.out (by kernel_rfl)) (fun _ _ _ h => h) (Or.inl ⟨by rfl, ?_⟩) hHeld ?_ ?_
    rotate_left
    ·intro w' _
     go_simp
     with_reducible rfl
    rotate_left
    ·simp only [Act.put, sa, s0, s1, i64_w, i32_w]
     rfl
    refine pA 5 38 (bm 10 63) HT_ ?_
    refine pA 6 39 (bm 10 127) HT_ ?_
    refine oA 7 (some 40) (bm 10 255) HT_ fun K hK => ?_
    refine value_ (w1 := ?_) (v := ?_) (by rfl) rfl ?_ ?_
    rotate_left 2
    ·go_simp
     constructor
     ·rfl
     ·rfl
    refine hK.out _ _ trivial (fun hHeld => ?_)
    clear hK K
    refine nA (some 40) ?_
    refine oA 8 (some 41) (bm 10 511) HT_ fun K hK => ?_
    refine Kd.R_append_step k48 (w0 := w6) w6.heap.size (by rfl) (.tmp 33) (.tmp 40) 28 48 (.agg #[(.string ⟨#[]⟩), (.bool false)]) 24 rfl Tryz.underlying28 info48 rfl (by decide) (by omega) u5 x5_1 (⟨(rdOf ByteArray.empty y671 x17_1).extract 1 (rdOf ByteArray.empty y671 x17_1).size, ((bt (rdOf ByteArray.empty y671 x17_1) 0) == 108)⟩ : S48) [.string ((rdOf ByteArray.empty y671 x17_1).extract 1 (rdOf ByteArray.empty y671 x17_1).size), .bool true] (fun _ => True) (fun _ => False) rfl rfl ?aP (fun _ hk => hk.elim) ?aF ?aO ?aB ?aS ?aL ?_
    (case aP => rw [c15b0]; exact k48_mkM _ _ _ (⟨(rdOf ByteArray.empty y671 x17_1).extract 1 (rdOf ByteArray.empty y671 x17_1).size, true⟩ : S48))
    (case aB => exact (bl HB))
    (case aF => exact (fun _ _ => trivial))
    (case aO => exact (ra HO_5))
    (case aS => exact (below_size (bl HB)))
    (case aL => have := LMc18.out; omega)
    intro v677 w20 ho hb hg hat
    rw [← Ny676.out] at ho
    have n0_ := Aside0.mk (hb)
    have n1_ := Aside0.mk (ho)
    clear HB
    clear HO_5
    have HB := n0_
    have HO678 := n1_
    clear n0_ n1_
    clear ho hb hg hat
    refine hK.out _ _ trivial (fun hHeld => ?_)
    clear hK K
    refine nA (some 41) ?_
    refine pA 9 5 (bm 10 1023) HT_ ?_
    refine done_ (done_of HT_.out (by kernel_rfl)) ?_
    try go_wp2
    go_roundg k1
    case measure => have := HK1.out; omega
    case rel => exact ⟨(y676), (wrap64 (x17_1 + 1)), xR, H', ⟨xL HK1⟩, ⟨ra HO678⟩, ⟨bl HB⟩⟩
   rw [if_neg c15] at H
   have c15b0 := beq_eq_false_iff_ne.mpr c15
   have c15b1 := bne_iff_ne.mpr c15
   have p21 : 0 ≤ (0 : Int) := (by omega)
   have q21 : 0 < (rdOf ByteArray.empty y671 x17_1).size := (by have : (0 : Int) < ((rdOf ByteArray.empty y671 x17_1).size : Int) := of_decide_eq_true xA; omega)
   have hx21 : ∀ h : 0 < (rdOf ByteArray.empty y671 x17_1).size, (((rdOf ByteArray.empty y671 x17_1)[0]'h).toNat : Int) = bt (rdOf ByteArray.empty y671 x17_1) 0 := bt_at (rdOf ByteArray.empty y671 x17_1) 0
   clear p21
   have qi21 : (0 < ((rdOf ByteArray.empty y671 x17_1).size : Int)) = True := eq_true (of_decide_eq_true xA)
   replace q21 := eq_true q21
   by_cases c22 : (bt (rdOf ByteArray.empty y671 x17_1) 0) = 114
   rotate_left
   ·rw [if_neg c22] at H
    have c22b0 := beq_eq_false_iff_ne.mpr c22
    have c22b1 := bne_iff_ne.mpr c22
    simp only [Option.some.injEq, Prod.mk.injEq] at H
    obtain ⟨rfl, rfl⟩ := H
    go_wp2
    go_ret2
    exact ⟨_, xE, xN, below_step HBw.out (bl HB)⟩
   rw [if_pos c22] at H
   have c22b0 := beq_iff_eq.mpr c22
   have c22b1 := bne_eq_false_iff_eq.mpr c22
   clear c22
   replace H := ip H
   obtain ⟨c23, H⟩ := H
   have c23b0 := eq_true c23
   have c23b1 := decide_eq_true c23
   clear c23
   replace H := ipa H
   obtain ⟨LMc25, H⟩ := H
   obtain ⟨y679, Ny679⟩ := yA (x5_1 ++ [(⟨(rdOf ByteArray.empty y671 x17_1).extract 1 (rdOf ByteArray.empty y671 x17_1).size, ((bt (rdOf ByteArray.empty y671 x17_1) 0) == 108)⟩ : S48)] : List (S48))
   rw [← Ny679.out] at H
   have H' := Aside0.mk H
   clear H
   try go_wp2
   replace HO_5 := am (Kd.R_drew HO_5.out)
   replace HB := am (below_drew1 HB.out)
   have p24 : 0 ≤ (0 : Int) := (by omega)
   have q24 : 0 < (rdOf ByteArray.empty y671 x17_1).size := (by have : (0 : Int) < ((rdOf ByteArray.empty y671 x17_1).size : Int) := of_decide_eq_true xA; omega)
   have hx24 : ∀ h : 0 < (rdOf ByteArray.empty y671 x17_1).size, (((rdOf ByteArray.empty y671 x17_1)[0]'h).toNat : Int) = bt (rdOf ByteArray.empty y671 x17_1) 0 := bt_at (rdOf ByteArray.empty y671 x17_1) 0
   clear p24
   have qi24 : (0 < ((rdOf ByteArray.empty y671 x17_1).size : Int)) = True := eq_true (of_decide_eq_true xA)
   replace q24 := eq_true q24
   refine start_ (n := 10) (S := fun w' => True) (ds := []) (bm 10 0) (by kernel_rfl) rfl rfl trivial (fun hHeld => ?_); refine with_tabW impl_sidesGet.tab10 impl_sidesGet.bits10 (fun HT_ HW_ => ?_)
   generalize wr.drew = w26 at HO_5 HB hHeld ⊢
   refine pA 0 33 (bm 10 1) HT_ ?_
   refine pA 1 34 (bm 10 3) HT_ ?_
   refine pA 2 35 (bm 10 7) HT_ ?_
   refine pA 3 36 (bm 10 15) HT_ ?_
   refine take_ (i := 4) (N := some 37) (v := ?_) (a' := ?_) (bm 10 31) rfl rfl (take_ofW HT_.out HW_.out (by kernel_rfl)) (fun _ _ _ h => h) (Or.inl ⟨by rfl, ?_⟩) hHeld ?_ ?_
   rotate_left
   ·intro w' _
    go_simp
    with_reducible rfl
   rotate_left
   ·simp only [Act.put, sa, s0, s1, i64_w, i32_w]
    rfl
   refine pA 5 38 (bm 10 63) HT_ ?_
   refine pA 6 39 (bm 10 127) HT_ ?_
   refine oA 7 (some 40) (bm 10 255) HT_ fun K hK => ?_
   refine value_ (w1 := ?_) (v := ?_) (by rfl) rfl ?_ ?_
   rotate_left 2
   ·go_simp
    constructor
    ·rfl
    ·rfl
   refine hK.out _ _ trivial (fun hHeld => ?_)
   clear hK K
   refine nA (some 40) ?_
   refine oA 8 (some 41) (bm 10 511) HT_ fun K hK => ?_
   refine Kd.R_append_step k48 (w0 := w6) w6.heap.size (by rfl) (.tmp 33) (.tmp 40) 28 48 (.agg #[(.string ⟨#[]⟩), (.bool false)]) 24 rfl Tryz.underlying28 info48 rfl (by decide) (by omega) u5 x5_1 (⟨(rdOf ByteArray.empty y671 x17_1).extract 1 (rdOf ByteArray.empty y671 x17_1).size, ((bt (rdOf ByteArray.empty y671 x17_1) 0) == 108)⟩ : S48) [.string ((rdOf ByteArray.empty y671 x17_1).extract 1 (rdOf ByteArray.empty y671 x17_1).size), .bool false] (fun _ => True) (fun _ => False) rfl rfl ?aP (fun _ hk => hk.elim) ?aF ?aO ?aB ?aS ?aL ?_
   (case aP => rw [c15b0]; exact k48_mkM _ _ _ (⟨(rdOf ByteArray.empty y671 x17_1).extract 1 (rdOf ByteArray.empty y671 x17_1).size, false⟩ : S48))
   (case aB => exact (bl HB))
   (case aF => exact (fun _ _ => trivial))
   (case aO => exact (ra HO_5))
   (case aS => exact (below_size (bl HB)))
   (case aL => have := LMc25.out; omega)
   intro v680 w27 ho hb hg hat
   rw [← Ny679.out] at ho
   have n0_ := Aside0.mk (hb)
   have n1_ := Aside0.mk (ho)
   clear HB
   clear HO_5
   have HB := n0_
   have HO681 := n1_
   clear n0_ n1_
   clear ho hb hg hat
   refine hK.out _ _ trivial (fun hHeld => ?_)
   clear hK K
   refine nA (some 41) ?_
   refine pA 9 5 (bm 10 1023) HT_ ?_
   refine done_ (done_of HT_.out (by kernel_rfl)) ?_
   try go_wp2
   go_roundg k1
   case measure => have := HK1.out; omega
   case rel => exact ⟨(y679), (wrap64 (x17_1 + 1)), xR, H', ⟨xL HK1⟩, ⟨ra HO681⟩, ⟨bl HB⟩⟩

end Go.Proofs.YtgjljbaadglpnaaGreatDoor.PFnPaidPut
