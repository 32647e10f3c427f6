/- Functions of the program and what each answers: the kit's print, shortened (wip/press2.py). -/
import Derived.Test.YtgjljbaadglpnaaDoorPFnHeadGetx0
import Derived.Test.YtgjljbaadglpnaaDoorPFnHeadGetx2
import Derived.Test.YtgjljbaadglpnaaDoorPFnHeadGetx6
namespace Go.Proofs.YtgjljbaadglpnaaDoor.PFnHeadGet
open Go.Proofs.YtgjljbaadglpnaaDoor.Sq Go.RowKit Go.Proofs.YtgjljbaadglpnaaDoorW.PrintWords Go.Proofs.YtgjljbaadglpnaaDoorW.PrintLast Go.Proofs.YtgjljbaadglpnaaDoorW.PrintMore
attribute [local go_sem] max2_int min2_int max_two min_two max_three min_three max_four min_four   -- for this text's walks alone
set_option linter.unusedVariables false
set_option linter.unusedSimpArgs false
set_option maxHeartbeats 64000000
set_option maxRecDepth 100000
def impl_HeadGet.f (k : Nat) (a0 : ByteArray) : Option (ByteArray × ByteArray × Int × Int × Int × Bool) := (strings_Split.f a0 (⟨#[32]⟩ : ByteArray)).bind fun t161 => (if (t161.length : Int) = 5 then (if 2 < (t161.length : Int) then ((impl_number.f k (rdOf ByteArray.empty t161 2)).bind fun bt165 => (if 3 < (t161.length : Int) then ((impl_number.f k (rdOf ByteArray.empty t161 3)).bind fun bt168 => (if 4 < (t161.length : Int) then ((impl_number.f k (rdOf ByteArray.empty t161 4)).bind fun bt171 => (if 0 < (t161.length : Int) then (if 1 < (t161.length : Int) then (if bt165.2 = true then (if bt168.2 = true then (if bt171.2 = true then ((impl_headOk.f k (rdOf ByteArray.empty t161 0) (rdOf ByteArray.empty t161 1) bt165.1 bt168.1 bt171.1).bind fun t176 => (if t176 = true then (some (rdOf ByteArray.empty t161 0, rdOf ByteArray.empty t161 1, bt165.1, bt168.1, bt171.1, true)) else (some ((⟨#[]⟩ : ByteArray), (⟨#[]⟩ : ByteArray), 0, 0, 0, false)))) else (some ((⟨#[]⟩ : ByteArray), (⟨#[]⟩ : ByteArray), 0, 0, 0, false))) else (some ((⟨#[]⟩ : ByteArray), (⟨#[]⟩ : ByteArray), 0, 0, 0, false))) else (some ((⟨#[]⟩ : ByteArray), (⟨#[]⟩ : ByteArray), 0, 0, 0, false))) else (none)) else (none))) else (none))) else (none))) else (none)) else (some ((⟨#[]⟩ : ByteArray), (⟨#[]⟩ : ByteArray), 0, 0, 0, false)))
theorem impl_HeadGet.mono : ∀ a0 k, LeO (impl_HeadGet.f k a0) (impl_HeadGet.f (k + 1) a0) := by
 intro a0 k
 unfold impl_HeadGet.f
 exact mo2 impl_headOk.mono impl_number.mono
def impl_HeadGet.T7 : Bool × List (List Nat × List Nat) := (true, [([], []), ([0], [0]), ([1], [1]), ([], []), ([3], [3]), ([4], [4]), ([], []), ([], []), ([], []), ([2, 5, 6, 7, 8], [2, 5, 6, 7, 8]), ([], []), ([10, 9, 0, 1, 2, 3, 4, 5, 6, 7, 8, 9, 10], [9, 10])])
def impl_HeadGet.B7 : List Nat := [0, 1, 3, 0, 8, 24, 0, 0, 0, 511, 0, 2047]
theorem impl_HeadGet.tab7 : rtab .any (opsOf Tryd.f18 7) = impl_HeadGet.T7 := by kernel_rfl
theorem impl_HeadGet.bits7 : waitsOk impl_HeadGet.T7.2 impl_HeadGet.B7 = true := by kernel_rfl
theorem impl_HeadGet.calls (k : Nat) (a0 : ByteArray) (r1 : ByteArray) (r2 : ByteArray) (r3 : Int) (r4 : Int) (r5 : Int) (r6 : Bool) (w : World) (h : impl_HeadGet.f k a0 = some (r1, r2, r3, r4, r5, r6)) (PQM_ : Aside0 (Sh.HasM w)) :
  Calls Tryd.prog 18 #[.string a0] w fun e w' => e = .returned (.tuple #[.agg #[.string r1, .string r2, .int .i64 r3, .int .i64 r4, .int .i64 r5], .bool r6]) ∧ Below w.heap.size w w' := by
 have hu23 := Tryd.underlying23
 have HB := Aside0.mk (Below.refl w.heap.size w)
 have H : ((strings_Split.f a0 (⟨#[32]⟩ : ByteArray)).bind fun t161 => (if (t161.length : Int) = 5 then (if 2 < (t161.length : Int) then ((impl_number.f k (rdOf ByteArray.empty t161 2)).bind fun bt165 => (if 3 < (t161.length : Int) then ((impl_number.f k (rdOf ByteArray.empty t161 3)).bind fun bt168 => (if 4 < (t161.length : Int) then ((impl_number.f k (rdOf ByteArray.empty t161 4)).bind fun bt171 => (if 0 < (t161.length : Int) then (if 1 < (t161.length : Int) then (if bt165.2 = true then (if bt168.2 = true then (if bt171.2 = true then ((impl_headOk.f k (rdOf ByteArray.empty t161 0) (rdOf ByteArray.empty t161 1) bt165.1 bt168.1 bt171.1).bind fun t176 => (if t176 = true then (some (rdOf ByteArray.empty t161 0, rdOf ByteArray.empty t161 1, bt165.1, bt168.1, bt171.1, true)) else (some ((⟨#[]⟩ : ByteArray), (⟨#[]⟩ : ByteArray), 0, 0, 0, false)))) else (some ((⟨#[]⟩ : ByteArray), (⟨#[]⟩ : ByteArray), 0, 0, 0, false))) else (some ((⟨#[]⟩ : ByteArray), (⟨#[]⟩ : ByteArray), 0, 0, 0, false))) else (some ((⟨#[]⟩ : ByteArray), (⟨#[]⟩ : ByteArray), 0, 0, 0, false))) else (none)) else (none))) else (none))) else (none))) else (none)) else (some ((⟨#[]⟩ : ByteArray), (⟨#[]⟩ : ByteArray), 0, 0, 0, false)))) = some (r1, r2, r3, r4, r5, r6) := h
 clear h
 replace H := oa H
 obtain ⟨t161, A2, H⟩ := H
 go_enter Tryd.func18, Tryd.ntmps18
 go_upto_if 16 with ((with_reducible refine gg ?_); first | (refine bE 2 #[.string (⟨#[]⟩ : ByteArray), .string (⟨#[]⟩ : ByteArray), .int .i64 0, .int .i64 0, .int .i64 0] 23 ?_; intro gb160 hg w17 hbox hb; have BK160 := am (hbox); have GW160 := zB hg HB; have GE160 := zB hg HB; replace HB := kH HB hb; clear hb hbox hg) | (refine gL 13 Tryd.func32 #[.string a0, .string (⟨#[32]⟩ : ByteArray)] ?_; (with_reducible refine (strings_Split.calls a0 (⟨#[32]⟩ : ByteArray) t161 _ A2.out (Aside0.mk (Sh.hasM_of PQM_ (xB HB)))).mono ?_); rintro e w18 ⟨v162, rfl, ho0, hb⟩; refine ⟨_, rfl, ?_⟩; have HO163 := am (Kd.R_lower ho0 (below_size (xB HB))); replace BK160 := kP _ BK160 hb; replace HB := kH HB hb; (try clear hb); (try clear ho0); obtain ⟨Ao19, co19, eo19⟩ := Kd.R_slice HO163.out; subst eo19))
 by_cases c3 : (t161.length : Int) = 5
 rotate_left
 ·rw [if_neg c3] at H
  have c3b0 := beq_eq_false_iff_ne.mpr c3
  have c3b1 := bne_iff_ne.mpr c3
  try simp only [c3b0, c3b1, Bool.not_true, Bool.not_false]
  simp only [Option.some.injEq, Prod.mk.injEq] at H
  obtain ⟨rfl, rfl, rfl, rfl, rfl, rfl⟩ := H
  have hz85 := bc5 BK160
  go_wp2
  refine bodyPost_ret (results_ct rfl _ _ gb160 23 #[.string (⟨#[]⟩ : ByteArray), .string (⟨#[]⟩ : ByteArray), .int .i64 0, .int .i64 0, .int .i64 0] (0, 0) _ rfl (fb BK160) Tryd.underlying23 rfl (by kernel_rfl)) rfl ?_
  exact ⟨xE, xB HB⟩
 rw [if_pos c3] at H
 have c3b0 := beq_iff_eq.mpr c3
 have c3b1 := bne_eq_false_iff_eq.mpr c3
 try simp only [c3b0, c3b1, Bool.not_true, Bool.not_false]
 clear c3
 replace H := ip H
 obtain ⟨c4, H⟩ := H
 have c4b0 := decide_eq_true c4
 have c4b1 : decide (2 < t161.length) = true := decide_eq_true (by omega)
 clear c4
 replace H := Option.bind_eq_some_iff.mp H
 obtain ⟨⟨t165, t166⟩, A50, H⟩ := H
 have A5 := Aside0.mk A50
 clear A50
 replace H := ip H
 obtain ⟨c6, H⟩ := H
 have c6b0 := decide_eq_true c6
 have c6b1 : decide (3 < t161.length) = true := decide_eq_true (by omega)
 clear c6
 replace H := Option.bind_eq_some_iff.mp H
 obtain ⟨⟨t168, t169⟩, A70, H⟩ := H
 have A7 := Aside0.mk A70
 clear A70
 replace H := ip H
 obtain ⟨c8, H⟩ := H
 have c8b0 := decide_eq_true c8
 have c8b1 : decide (4 < t161.length) = true := decide_eq_true (by omega)
 clear c8
 replace H := Option.bind_eq_some_iff.mp H
 obtain ⟨⟨t171, t172⟩, A90, H⟩ := H
 have A9 := Aside0.mk A90
 clear A90
 replace H := ip H
 obtain ⟨c10, H⟩ := H
 have c10b0 := decide_eq_true c10
 have c10b1 : decide (0 < t161.length) = true := decide_eq_true (by omega)
 clear c10
 replace H := ip H
 obtain ⟨c11, H⟩ := H
 have c11b0 := decide_eq_true c11
 have c11b1 : decide (1 < t161.length) = true := decide_eq_true (by omega)
 clear c11
 have p164 : 0 ≤ (2 : Int) := (by omega)
 have q164 : 2 < (t161.length : Int) := of_decide_eq_true xA
 obtain ⟨ad164, e164, hx164_0⟩ := Kd.at_string (Kd.R_reads' HO163.out).2.2 2 p164 q164
 cases e164
 (try simp only [show (2 : Int).toNat = 2 from rfl, Nat.reduceMul, Nat.reduceEqDiff, Go.Addr.add, ↓reduceIte] at hx164_0)
 have qi164 : (2 < t161.length) = True := eq_true (by omega)
 (try rw [show ((2 : Int)).toNat = 2 from rfl] at hx164_0)
 replace p164 := eq_true p164
 replace q164 := eq_true q164
 try go_wp2_with ((with_reducible refine gg ?_); first | (refine gL 22 Tryd.func34 #[.string (rdOf ByteArray.empty t161 2)] ?_; (with_reducible refine (impl_number.calls k (rdOf ByteArray.empty t161 2) t165 t166 _ A5.out).mono ?_); rintro e w' ⟨rfl, ⟨nd, rfl⟩⟩; refine ⟨_, rfl, ?_⟩; (try (rw [drewN_self w18]; generalize hq_ : World.drewN w18 _ = w18; have n0_ := dR hq_ HO163; have n1_ := dK hq_ BK160; have n2_ := dB hq_ HB; clear HO163 BK160 HB hq_; have HO163 := n0_; have BK160 := n1_; have HB := n2_; clear n0_ n1_ n2_)); have p167 : 0 ≤ (3 : Int) := (by omega); have q167 : 3 < (t161.length : Int) := of_decide_eq_true xA; obtain ⟨ad167, e167, hx167_0⟩ := Kd.at_string (Kd.R_reads' HO163.out).2.2 3 p167 q167; obtain rfl : ad164 = ad167 := (by injection e167); (try simp only [show (3 : Int).toNat = 3 from rfl, Nat.reduceMul, Nat.reduceEqDiff, Go.Addr.add, ↓reduceIte] at hx167_0); have qi167 : (3 < t161.length) = True := eq_true (by omega); (try rw [show ((3 : Int)).toNat = 3 from rfl] at hx167_0); replace p167 := eq_true p167; replace q167 := eq_true q167) | (refine gL 29 Tryd.func34 #[.string (rdOf ByteArray.empty t161 3)] ?_; (with_reducible refine (impl_number.calls k (rdOf ByteArray.empty t161 3) t168 t169 _ A7.out).mono ?_); rintro e w' ⟨rfl, ⟨nd, rfl⟩⟩; refine ⟨_, rfl, ?_⟩; (try (rw [drewN_self w18]; generalize hq_ : World.drewN w18 _ = w18; have n0_ := dR hq_ HO163; have n1_ := dK hq_ BK160; have n2_ := dB hq_ HB; clear HO163 BK160 HB hq_; have HO163 := n0_; have BK160 := n1_; have HB := n2_; clear n0_ n1_ n2_)); have p170 : 0 ≤ (4 : Int) := (by omega); have q170 : 4 < (t161.length : Int) := of_decide_eq_true xA; obtain ⟨ad170, e170, hx170_0⟩ := Kd.at_string (Kd.R_reads' HO163.out).2.2 4 p170 q170; obtain rfl : ad164 = ad170 := (by injection e170); (try simp only [show (4 : Int).toNat = 4 from rfl, Nat.reduceMul, Nat.reduceEqDiff, Go.Addr.add, ↓reduceIte] at hx170_0); have qi170 : (4 < t161.length) = True := eq_true (by omega); (try rw [show ((4 : Int)).toNat = 4 from rfl] at hx170_0); replace p170 := eq_true p170; replace q170 := eq_true q170) | (refine gL 36 Tryd.func34 #[.string (rdOf ByteArray.empty t161 4)] ?_; (with_reducible refine (impl_number.calls k (rdOf ByteArray.empty t161 4) t171 t172 _ A9.out).mono ?_); rintro e w' ⟨rfl, ⟨nd, rfl⟩⟩; refine ⟨_, rfl, ?_⟩; (try (rw [drewN_self w18]; generalize hq_ : World.drewN w18 _ = w18; have n0_ := dR hq_ HO163; have n1_ := dK hq_ BK160; have n2_ := dB hq_ HB; clear HO163 BK160 HB hq_; have HO163 := n0_; have BK160 := n1_; have HB := n2_; clear n0_ n1_ n2_))))
 replace HO163 := am (Kd.R_drew HO163.out)
 replace BK160 := am (blk_drew BK160.out)
 replace HB := am (below_drew1 HB.out)
 have p173 : 0 ≤ (0 : Int) := (by omega)
 have q173 : 0 < (t161.length : Int) := of_decide_eq_true xA
 obtain ⟨ad173, e173, hx173_0⟩ := Kd.at_string (Kd.R_reads' HO163.out).2.2 0 p173 q173
 obtain rfl : ad164 = ad173 := (by injection e173)
 have qi173 : (0 < t161.length) = True := eq_true (by omega)
 (try rw [show ((0 : Int)).toNat = 0 from rfl] at hx173_0)
 (try rw [Addr.add_zero'] at hx173_0)
 replace p173 := eq_true p173
 replace q173 := eq_true q173
 have p174 : 0 ≤ (1 : Int) := (by omega)
 have q174 : 1 < (t161.length : Int) := of_decide_eq_true xA
 obtain ⟨ad174, e174, hx174_0⟩ := Kd.at_string (Kd.R_reads' HO163.out).2.2 1 p174 q174
 obtain rfl : ad164 = ad174 := (by injection e174)
 (try simp only [show (1 : Int).toNat = 1 from rfl, Nat.reduceMul, Nat.reduceEqDiff, Go.Addr.add, ↓reduceIte] at hx174_0)
 have qi174 : (1 < t161.length) = True := eq_true (by omega)
 (try rw [show ((1 : Int)).toNat = 1 from rfl] at hx174_0)
 replace p174 := eq_true p174
 replace q174 := eq_true q174
 refine start_ (n := 12) (S := fun w' => w'.cell? ad164 = some (.string (rdOf ByteArray.empty t161 0)) ∧ w'.cell? ⟨ad164.block, ad164.off + 1, none⟩ = some (.string (rdOf ByteArray.empty t161 1))) (ds := []) (bm 12 0) (by kernel_rfl) rfl rfl ⟨hx173_0, hx174_0⟩ (fun hHeld => ?_); refine with_tabW impl_HeadGet.tab7 impl_HeadGet.bits7 (fun HT_ HW_ => ?_)
 generalize w18.drew = w20 at HO163 BK160 HB hx173_0 hx174_0 hHeld ⊢
 refine pA 0 39 (bm 12 1) HT_ ?_
 refine pA 1 40 (bm 12 3) HT_ ?_
 refine pA 3 42 (bm 12 11) HT_ ?_
 refine pA 4 43 (bm 12 27) HT_ ?_
 refine pA 6 45 (bm 12 91) HT_ ?_
 refine pA 7 46 (bm 12 219) HT_ ?_
 refine pA 8 47 (bm 12 475) HT_ ?_
 refine tA 2 41 (bm 12 479) HT_ HW_ hHeld ?_
 refine tA 5 44 (bm 12 511) HT_ HW_ hHeld ?_
 refine pA 9 48 (bm 12 1023) HT_ ?_
 refine oA 10 (some 11) (bm 12 2047) HT_ fun K hK => ?_
 refine bS 11 #[.string (⟨#[]⟩ : ByteArray), .string (⟨#[]⟩ : ByteArray), .int .i64 0, .int .i64 0, .int .i64 0] 23 ?_
 intro gb175 hg w21 hbox hb
 have HS0_ := cB hb hHeld.1
 have HS1_ := cB hb hHeld.2
 replace HO163 := rk HO163 hb
 have BK175 := am (hbox)
 have GW175 := zB hg HB
 have GE175 := zB hg HB
 replace HB := kH HB hb
 have NB160_175 := nl hg (kb BK160)
 have NB175_160 := ng hg (kb BK160)
 replace BK160 := kP _ BK160 hb
 clear hb hbox hg
 refine hK.out _ _ ⟨HS0_, HS1_⟩ (fun hHeld => ?_)
 clear hK K
 refine nA (some 11) ?_
 refine oA 11 none (bm 12 4095) HT_ fun K hK => ?_
 have hs22 : w21.cell? ⟨gb175, 0, none⟩ = some (.string (⟨#[]⟩ : ByteArray)) := (blk_cell BK175.out 0).trans rfl
 have hfs22 := blk_frozen BK175.out 0
 have hns22_0 := NB160_175.out
 have hms22_0 := NB175_160.out
 have hs23 : w21.cell? ⟨gb175, 1, none⟩ = some (.string (⟨#[]⟩ : ByteArray)) := (blk_cell BK175.out 1).trans rfl
 have hfs23 := blk_frozen BK175.out 1
 have hns23_0 := NB160_175.out
 have hms23_0 := NB175_160.out
 have hs24 : w21.cell? ⟨gb175, 2, none⟩ = some (.int .i64 0) := (blk_cell BK175.out 2).trans rfl
 have hfs24 := blk_frozen BK175.out 2
 have hns24_0 := NB160_175.out
 have hms24_0 := NB175_160.out
 have hs25 : w21.cell? ⟨gb175, 3, none⟩ = some (.int .i64 0) := (blk_cell BK175.out 3).trans rfl
 have hfs25 := blk_frozen BK175.out 3
 have hns25_0 := NB160_175.out
 have hms25_0 := NB175_160.out
 have hs26 : w21.cell? ⟨gb175, 4, none⟩ = some (.int .i64 0) := (blk_cell BK175.out 4).trans rfl
 have hfs26 := blk_frozen BK175.out 4
 have hns26_0 := NB160_175.out
 have hms26_0 := NB175_160.out
 refine skip_ (w1 := ?_) (by rfl) rfl ?_ ?_
 rotate_left
 ·go_simp
  rfl
 have hne_ := Kd.own_blk (Kd.R_ne HO163.out BK175.out (by decide))
 refine hK.out _ _ ⟨(cf hne_ hHeld.1), (cf hne_ hHeld.2)⟩ (fun hHeld => ?_)
 clear hK K
 refine done_ (done_of HT_.out (by kernel_rfl)) ?_
 by_cases c12 : t166 = true
 rotate_left
 ·replace c12 := Bool.eq_false_iff.mpr c12
  subst c12
  try simp only [Bool.not_true, Bool.not_false]
  rw [if_neg (show ¬ (false = true) by decide)] at H
  simp only [Option.some.injEq, Prod.mk.injEq] at H
  obtain ⟨rfl, rfl, rfl, rfl, rfl, rfl⟩ := H
  have hnb80 := NB160_175.out
  have hnc80 := NB175_160.out
  have hz81 := bc5 BK160
  try go_wp2
  refine bodyPost_ret (results_ct rfl _ _ gb160 23 #[.string (⟨#[]⟩ : ByteArray), .string (⟨#[]⟩ : ByteArray), .int .i64 0, .int .i64 0, .int .i64 0] (0, 0) _ rfl (fb BK160) Tryd.underlying23 rfl (by kernel_rfl)) rfl ?_
  exact ⟨xE, xB HB⟩
 subst c12
 try simp only [Bool.not_true, Bool.not_false]
 rw [if_pos rfl] at H
 by_cases c13 : t169 = true
 rotate_left
 ·replace c13 := Bool.eq_false_iff.mpr c13
  subst c13
  rw [if_neg (show ¬ (false = true) by decide)] at H
  simp only [Option.some.injEq, Prod.mk.injEq] at H
  obtain ⟨rfl, rfl, rfl, rfl, rfl, rfl⟩ := H
  have hnb68 := NB160_175.out
  have hnc68 := NB175_160.out
  have hz69 := bc5 BK160
  try go_wp2
  refine bodyPost_ret (results_ct rfl _ _ gb160 23 #[.string (⟨#[]⟩ : ByteArray), .string (⟨#[]⟩ : ByteArray), .int .i64 0, .int .i64 0, .int .i64 0] (0, 0) _ rfl (fb BK160) Tryd.underlying23 rfl (by kernel_rfl)) rfl ?_
  exact ⟨xE, xB HB⟩
 subst c13
 rw [if_pos rfl] at H
 by_cases c14 : t172 = true
 rotate_left
 ·replace c14 := Bool.eq_false_iff.mpr c14
  subst c14
  rw [if_neg (show ¬ (false = true) by decide)] at H
  simp only [Option.some.injEq, Prod.mk.injEq] at H
  obtain ⟨rfl, rfl, rfl, rfl, rfl, rfl⟩ := H
  have hnb56 := NB160_175.out
  have hnc56 := NB175_160.out
  have hz57 := bc5 BK160
  try go_wp2
  refine bodyPost_ret (results_ct rfl _ _ gb160 23 #[.string (⟨#[]⟩ : ByteArray), .string (⟨#[]⟩ : ByteArray), .int .i64 0, .int .i64 0, .int .i64 0] (0, 0) _ rfl (fb BK160) Tryd.underlying23 rfl (by kernel_rfl)) rfl ?_
  exact ⟨xE, xB HB⟩
 subst c14
 rw [if_pos rfl] at H
 replace H := oa H
 obtain ⟨t176, A15, H⟩ := H
 have hnb27 := NB175_160.out
 have hnc27 := NB160_175.out
 have hz28 := bc5 BK175
 go_upto_if 63 with (go_at_call 45; (with_reducible refine (impl_headOk.calls k (rdOf ByteArray.empty t161 0) (rdOf ByteArray.empty t161 1) t165 t168 t171 t176 _ A15.out).mono ?_); rintro e w29 ⟨rfl, hb⟩; replace HO163 := am (Kd.R_below (rf HO163 BK175) hb); replace BK160 := kP _ BK160 hb; replace BK175 := kP (.cells #[.string (rdOf ByteArray.empty t161 0), .string (rdOf ByteArray.empty t161 1), .int .i64 t165, .int .i64 t168, .int .i64 t171] 23 (0, 0)) BK175 hb; replace HB := kH HB hb; (try clear hb))
 by_cases c16 : t176 = true
 ·subst c16
  try simp only [Bool.not_true, Bool.not_false]
  rw [if_pos rfl] at H
  simp only [Option.some.injEq, Prod.mk.injEq] at H
  obtain ⟨rfl, rfl, rfl, rfl, rfl, rfl⟩ := H
  have hz30 := bc5 BK175
  have hz31 := bc5 BK160
  try go_wp2
  refine bodyPost_ret (results_ct rfl _ _ gb160 23 #[.string (rdOf ByteArray.empty t161 0), .string (rdOf ByteArray.empty t161 1), .int .i64 t165, .int .i64 t168, .int .i64 t171] (0, 0) _ rfl (fb BK160) Tryd.underlying23 rfl (by kernel_rfl)) rfl ?_
  exact ⟨xE, xB HB⟩
 replace c16 := Bool.eq_false_iff.mpr c16
 subst c16
 try simp only [Bool.not_true, Bool.not_false]
 rw [if_neg (show ¬ (false = true) by decide)] at H
 simp only [Option.some.injEq, Prod.mk.injEq] at H
 obtain ⟨rfl, rfl, rfl, rfl, rfl, rfl⟩ := H
 have hz45 := bc5 BK160
 try go_wp2
 refine bodyPost_ret (results_ct rfl _ _ gb160 23 #[.string (⟨#[]⟩ : ByteArray), .string (⟨#[]⟩ : ByteArray), .int .i64 0, .int .i64 0, .int .i64 0] (0, 0) _ rfl (fb BK160) Tryd.underlying23 rfl (by kernel_rfl)) rfl ?_
 exact ⟨xE, xB HB⟩
end Go.Proofs.YtgjljbaadglpnaaDoor.PFnHeadGet
