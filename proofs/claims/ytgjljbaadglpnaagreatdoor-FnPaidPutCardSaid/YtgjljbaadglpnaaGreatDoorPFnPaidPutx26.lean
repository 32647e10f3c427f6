/- Functions of the program and what each answers: the kit's print, shortened (wip/press2.py). -/
import Derived.Test.YtgjljbaadglpnaaGreatDoorPFnPaidPutx0
import Derived.Test.YtgjljbaadglpnaaGreatDoorPFnPaidPutx4
import Derived.Test.YtgjljbaadglpnaaGreatDoorPFnPaidPutx22
namespace Go.Proofs.YtgjljbaadglpnaaGreatDoor.PFnPaidPut
open Go.Proofs.YtgjljbaadglpnaaGreatDoor.Sq Go.RowKit Go.Proofs.YtgjljbaadglpnaaGreatDoorW.PrintWords Go.Proofs.YtgjljbaadglpnaaGreatDoorW.PrintLast Go.Proofs.YtgjljbaadglpnaaGreatDoorW.PrintMore
attribute [local go_sem] max2_int min2_int max_two min_two max_three min_three max_four min_four   -- for this text's walks alone
set_option linter.unusedVariables false
set_option linter.unusedSimpArgs false
set_option maxHeartbeats 64000000
set_option maxRecDepth 100000
def impl_PaidPut.l0 : Nat → ByteArray → List (S48) → Int → Int → Option (ByteArray)
 | 0, _, _, _, _ => none
 | k + 1, x3, x30, x31, x32 => if x32 < x31 then (if 0 ≤ x32 then (if x32 < (x30.length : Int) then (if (rd_T48 x30 x32).f1 = true then (if 2 + ((rd_T48 x30 x32).f0).size ≤ 9223372036854775807 then (if x3.size + ((⟨#[32, 108]⟩ : ByteArray) ++ ((rd_T48 x30 x32).f0)).size ≤ 9223372036854775807 then (impl_PaidPut.l0 k (x3 ++ ((⟨#[32, 108]⟩ : ByteArray) ++ ((rd_T48 x30 x32).f0))) x30 x31 (wrap64 (x32 + 1))) else (none)) else (none)) else (if 2 + ((rd_T48 x30 x32).f0).size ≤ 9223372036854775807 then (if x3.size + ((⟨#[32, 114]⟩ : ByteArray) ++ ((rd_T48 x30 x32).f0)).size ≤ 9223372036854775807 then (impl_PaidPut.l0 k (x3 ++ ((⟨#[32, 114]⟩ : ByteArray) ++ ((rd_T48 x30 x32).f0))) x30 x31 (wrap64 (x32 + 1))) else (none)) else (none))) else (none)) else (none)) else (if x3.size + 1 ≤ 9223372036854775807 then (some (x3 ++ (⟨#[10]⟩ : ByteArray))) else (none))
def impl_PaidPut.f (k : Nat) (a0_0 : Int) (a0_1 : ByteArray) (a0_2 : ByteArray) (a0_3 : Int) (a0_4 : Int) (a0_5 : Int) (l0_6 : List (S93)) (l0_7 : List (S93)) (l0_8 : List (S48)) : Option (ByteArray) := (impl_paidOk.f k a0_0 a0_1 a0_2 a0_3 a0_4 a0_5 l0_6 l0_7 l0_8).bind fun t572 => (if t572 = true then ((strconv_Itoa_19.f a0_0).bind fun t573 => (if t573.size + 1 ≤ 9223372036854775807 then ((impl_HeadPut.f k a0_1 a0_2 a0_3 a0_4 a0_5).bind fun t574 => (if (t573 ++ (⟨#[32]⟩ : ByteArray)).size + t574.size ≤ 9223372036854775807 then (if ((t573 ++ (⟨#[32]⟩ : ByteArray)) ++ t574).size + 1 ≤ 9223372036854775807 then ((impl_peaksPut.f k (⟨#[112, 101, 97, 107, 115]⟩ : ByteArray) l0_6).bind fun t575 => (if (((t573 ++ (⟨#[32]⟩ : ByteArray)) ++ t574) ++ (⟨#[10]⟩ : ByteArray)).size + t575.size ≤ 9223372036854775807 then ((impl_peaksPut.f k (⟨#[115, 116, 101, 112, 115]⟩ : ByteArray) l0_7).bind fun t576 => (if ((((t573 ++ (⟨#[32]⟩ : ByteArray)) ++ t574) ++ (⟨#[10]⟩ : ByteArray)) ++ t575).size + t576.size ≤ 9223372036854775807 then (if (((((t573 ++ (⟨#[32]⟩ : ByteArray)) ++ t574) ++ (⟨#[10]⟩ : ByteArray)) ++ t575) ++ t576).size + 5 ≤ 9223372036854775807 then (impl_PaidPut.l0 k ((((((t573 ++ (⟨#[32]⟩ : ByteArray)) ++ t574) ++ (⟨#[10]⟩ : ByteArray)) ++ t575) ++ t576) ++ (⟨#[115, 105, 100, 101, 115]⟩ : ByteArray)) l0_8 (l0_8.length : Int) 0) else (none)) else (none))) else (none))) else (none)) else (none))) else (none))) else (some (⟨#[]⟩ : ByteArray)))
theorem impl_PaidPut.mono_l : ∀ k, (∀ y0 y1 y2 y3, LeO (impl_PaidPut.l0 k y0 y1 y2 y3) (impl_PaidPut.l0 (k + 1) y0 y1 y2 y3))
 | 0 => fun _ _ _ _ r h => by simp [impl_PaidPut.l0] at h
 | k + 1 => by
  have ih0 := impl_PaidPut.mono_l k
  ·intro y0 y1 y2 y3
   unfold impl_PaidPut.l0
   exact mo4 ih0 impl_HeadPut.mono impl_paidOk.mono impl_peaksPut.mono
theorem impl_PaidPut.mono : ∀ a0 a1 a2 a3 a4 a5 a6 a7 a8 k, LeO (impl_PaidPut.f k a0 a1 a2 a3 a4 a5 a6 a7 a8) (impl_PaidPut.f (k + 1) a0 a1 a2 a3 a4 a5 a6 a7 a8) := by
 intro a0 a1 a2 a3 a4 a5 a6 a7 a8 k
 have ih0 := impl_PaidPut.mono_l k
 unfold impl_PaidPut.f
 exact mo4 ih0 impl_HeadPut.mono impl_paidOk.mono impl_peaksPut.mono
def impl_PaidPut.T3 : Bool × List (List Nat × List Nat) := (true, [([], []), ([0], [0]), ([1], [1]), ([2], [2]), ([], []), ([4], [4]), ([5, 2], [5]), ([3, 6], [3, 6]), ([7], [7]), ([], []), ([9], [9]), ([10], [10]), ([11, 6], [11]), ([8, 12], [8, 12]), ([], []), ([14], [14]), ([15], [15]), ([16, 12], [16]), ([13, 17], [13, 17]), ([18], [18]), ([19, 17, 0, 1, 2, 3, 4, 5, 6, 7, 8, 9, 10, 11, 12, 13, 14, 15, 16, 17, 18, 19], [19])])
def impl_PaidPut.B3 : List Nat := [0, 1, 3, 7, 0, 16, 55, 127, 255, 0, 512, 1536, 3703, 8191, 0, 16384, 49152, 122487, 262143, 524287, 1048575]
theorem impl_PaidPut.tab3 : rtab .any (opsOf Tryz.f6 3) = impl_PaidPut.T3 := by kernel_rfl
theorem impl_PaidPut.bits3 : waitsOk impl_PaidPut.T3.2 impl_PaidPut.B3 = true := by kernel_rfl
theorem impl_PaidPut.calls (k : Nat) (a0_0 : Int) (a0_1 : ByteArray) (a0_2 : ByteArray) (a0_3 : Int) (a0_4 : Int) (a0_5 : Int) (A0_6 : Option Addr) (c0_6 : Nat) (l0_6 : List (S93)) (A0_7 : Option Addr) (c0_7 : Nat) (l0_7 : List (S93)) (A0_8 : Option Addr) (c0_8 : Nat) (l0_8 : List (S48)) (r : ByteArray) (w : World) (hr0_6 : Kd.C k93 w A0_6 l0_6.length l0_6) (hc0_6 : l0_6.length ≤ c0_6) (hr0_7 : Kd.C k93 w A0_7 l0_7.length l0_7) (hc0_7 : l0_7.length ≤ c0_7) (hr0_8 : Kd.C k48 w A0_8 l0_8.length l0_8) (hc0_8 : l0_8.length ≤ c0_8) (h : impl_PaidPut.f k a0_0 a0_1 a0_2 a0_3 a0_4 a0_5 l0_6 l0_7 l0_8 = some r) (PQT_ : Aside0 (Sh.HasT w)) :
  Calls Tryz.prog 6 #[.agg #[.int .i64 a0_0, .string a0_1, .string a0_2, .int .i64 a0_3, .int .i64 a0_4, .int .i64 a0_5, .slice A0_6 l0_6.length c0_6, .slice A0_7 l0_7.length c0_7, .slice A0_8 l0_8.length c0_8]] w fun e w' => e = .returned (.string r) ∧ Below w.heap.size w w' := by
 have hu30 := Tryz.underlying30
 have hu24 := Tryz.underlying24
 have hu48 := Tryz.underlying48
 have HR0_6 := Aside0.mk hr0_6
 have HC0_6 := Aside0.mk hc0_6
 clear hr0_6 hc0_6
 have HR0_7 := Aside0.mk hr0_7
 have HC0_7 := Aside0.mk hc0_7
 clear hr0_7 hc0_7
 have HR0_8 := Aside0.mk hr0_8
 have HC0_8 := Aside0.mk hc0_8
 clear hr0_8 hc0_8
 have HB := Aside0.mk (Below.refl w.heap.size w)
 have H : ((impl_paidOk.f k a0_0 a0_1 a0_2 a0_3 a0_4 a0_5 l0_6 l0_7 l0_8).bind fun t572 => (if t572 = true then ((strconv_Itoa_19.f a0_0).bind fun t573 => (if t573.size + 1 ≤ 9223372036854775807 then ((impl_HeadPut.f k a0_1 a0_2 a0_3 a0_4 a0_5).bind fun t574 => (if (t573 ++ (⟨#[32]⟩ : ByteArray)).size + t574.size ≤ 9223372036854775807 then (if ((t573 ++ (⟨#[32]⟩ : ByteArray)) ++ t574).size + 1 ≤ 9223372036854775807 then ((impl_peaksPut.f k (⟨#[112, 101, 97, 107, 115]⟩ : ByteArray) l0_6).bind fun t575 => (if (((t573 ++ (⟨#[32]⟩ : ByteArray)) ++ t574) ++ (⟨#[10]⟩ : ByteArray)).size + t575.size ≤ 9223372036854775807 then ((impl_peaksPut.f k (⟨#[115, 116, 101, 112, 115]⟩ : ByteArray) l0_7).bind fun t576 => (if ((((t573 ++ (⟨#[32]⟩ : ByteArray)) ++ t574) ++ (⟨#[10]⟩ : ByteArray)) ++ t575).size + t576.size ≤ 9223372036854775807 then (if (((((t573 ++ (⟨#[32]⟩ : ByteArray)) ++ t574) ++ (⟨#[10]⟩ : ByteArray)) ++ t575) ++ t576).size + 5 ≤ 9223372036854775807 then (impl_PaidPut.l0 k ((((((t573 ++ (⟨#[32]⟩ : ByteArray)) ++ t574) ++ (⟨#[10]⟩ : ByteArray)) ++ t575) ++ t576) ++ (⟨#[115, 105, 100, 101, 115]⟩ : ByteArray)) l0_8 (l0_8.length : Int) 0) else (none)) else (none))) else (none))) else (none)) else (none))) else (none))) else (some (⟨#[]⟩ : ByteArray)))) = some r := h
 clear h
 replace H := oa H
 obtain ⟨t572, A2, H⟩ := H
 go_enter Tryz.func6, Tryz.ntmps6
 go_upto_if 8 with ((with_reducible refine gg ?_); first | (refine bE 1 #[.int .i64 a0_0, .string a0_1, .string a0_2, .int .i64 a0_3, .int .i64 a0_4, .int .i64 a0_5, .slice A0_6 l0_6.length c0_6, .slice A0_7 l0_7.length c0_7, .slice A0_8 l0_8.length c0_8] 30 ?_; intro gb571 hg w14 hbox hb; have BK571 := am (hbox); have GW571 := zB hg HB; have GE571 := zB hg HB; replace HB := kH HB hb; clear hb hbox hg; have hz15 := bc9 BK571) | (refine store_event (t := 30) (p := 1) (v := ?vo_) (w1 := ?wo_) ?hg ?ho ?hn ?hr ?_; (case ho => rfl); (case hg => rfl); (case hn => rfl); (case hr => go_simp; rfl); intro wq_ hW_; have BQ_ := am hW_; have hzq_ := am hW_; replace hW_ := am hW_) | (refine gL 7 Tryz.func18 #[.agg #[.int .i64 a0_0, .string a0_1, .string a0_2, .int .i64 a0_3, .int .i64 a0_4, .int .i64 a0_5, .slice A0_6 l0_6.length c0_6, .slice A0_7 l0_7.length c0_7, .slice A0_8 l0_8.length c0_8]] ?_; (try (clear hzq_ BQ_; obtain ⟨hW_⟩ := hW_; subst hW_)); (with_reducible refine (impl_paidOk.calls k a0_0 a0_1 a0_2 a0_3 a0_4 a0_5 _ _ l0_6 _ _ l0_7 _ _ l0_8 t572 _ ?side1 ?side2 ?side3 ?side4 ?side5 ?side6 A2.out).mono ?_); (case side1 => exact cb HR0_6 HB); (case side2 => exact HC0_6.out); (case side3 => exact cb HR0_7 HB); (case side4 => exact HC0_7.out); (case side5 => exact cb HR0_8 HB); (case side6 => exact HC0_8.out); rintro e w16 ⟨rfl, hb⟩; refine ⟨_, rfl, ?_⟩; replace BK571 := kP _ BK571 hb; replace HB := kH HB hb; (try clear hb)))
 by_cases c3 : t572 = true
 rotate_left
 ·replace c3 := Bool.eq_false_iff.mpr c3
  subst c3
  try simp only [Bool.not_true, Bool.not_false]
  rw [if_neg (show ¬ (false = true) by decide)] at H
  obtain rfl := Option.some.inj H
  go_wp2
  (try (clear hzq_ BQ_; obtain ⟨hW_⟩ := hW_; subst hW_))
  go_ret
  exact ⟨xE, xB HB⟩
 subst c3
 try simp only [Bool.not_true, Bool.not_false]
 rw [if_pos rfl] at H
 replace H := oa H
 obtain ⟨t573, A4, H⟩ := H
 replace H := ip H
 obtain ⟨c5, H⟩ := H
 have c5b0 := eq_true c5
 have c5b1 := decide_eq_true c5
 have c5b2 := nf c5
 replace H := oa H
 obtain ⟨t574, A6, H⟩ := H
 replace H := ip H
 obtain ⟨c7, H⟩ := H
 have c7b0 := eq_true c7
 have c7b1 := decide_eq_true c7
 have c7b2 := nf c7
 try (have c7b3 := c7b2; simp only [ByteArray.size_append, show (⟨#[32]⟩ : ByteArray).size = 1 from rfl] at c7b3)
 replace H := ip H
 obtain ⟨c8, H⟩ := H
 have c8b0 := eq_true c8
 have c8b1 := decide_eq_true c8
 have c8b2 := nf c8
 try (have c8b3 := c8b2; simp only [ByteArray.size_append, show (⟨#[32]⟩ : ByteArray).size = 1 from rfl] at c8b3)
 replace H := oa H
 obtain ⟨t575, A9, H⟩ := H
 replace H := ip H
 obtain ⟨c10, H⟩ := H
 have c10b0 := eq_true c10
 have c10b1 := decide_eq_true c10
 have c10b2 := nf c10
 try (have c10b3 := c10b2; simp only [ByteArray.size_append, show (⟨#[10]⟩ : ByteArray).size = 1 from rfl, show (⟨#[32]⟩ : ByteArray).size = 1 from rfl] at c10b3)
 replace H := oa H
 obtain ⟨t576, A11, H⟩ := H
 replace H := ip H
 obtain ⟨c12, H⟩ := H
 have c12b0 := eq_true c12
 have c12b1 := decide_eq_true c12
 have c12b2 := nf c12
 try (have c12b3 := c12b2; simp only [ByteArray.size_append, show (⟨#[10]⟩ : ByteArray).size = 1 from rfl, show (⟨#[32]⟩ : ByteArray).size = 1 from rfl] at c12b3)
 replace H := ip H
 obtain ⟨c13, H⟩ := H
 have c13b0 := eq_true c13
 have c13b1 := decide_eq_true c13
 have c13b2 := nf c13
 try (have c13b3 := c13b2; simp only [ByteArray.size_append, show (⟨#[10]⟩ : ByteArray).size = 1 from rfl, show (⟨#[32]⟩ : ByteArray).size = 1 from rfl] at c13b3)
 have H' := Aside0.mk H
 clear H
 try go_wp2
 replace BK571 := am (blk_drew BK571.out)
 replace HB := am (below_drew1 HB.out)
 (try (clear hzq_ BQ_; obtain ⟨hW_⟩ := hW_; subst hW_))
 refine start_ (n := 21) (S := cs9 gb571 (.int .i64 a0_0) (.string a0_1) (.string a0_2) (.int .i64 a0_3) (.int .i64 a0_4) (.int .i64 a0_5) (.slice A0_6 l0_6.length c0_6) (.slice A0_7 l0_7.length c0_7) (.slice A0_8 l0_8.length c0_8)) (ds := []) (bm 21 0) (by kernel_rfl) rfl rfl (bz9 BK571) (fun hHeld => ?_); refine with_tabW impl_PaidPut.tab3 impl_PaidPut.bits3 (fun HT_ HW_ => ?_)
 generalize w16.drew = w17 at BK571 HB hHeld ⊢
 refine pA 0 9 (bm 21 1) HT_ ?_
 refine pA 4 13 (bm 21 17) HT_ ?_
 refine pA 9 18 (bm 21 529) HT_ ?_
 refine pA 10 19 (bm 21 1553) HT_ ?_
 refine pA 14 23 (bm 21 17937) HT_ ?_
 refine pA 15 24 (bm 21 50705) HT_ ?_
 refine tA 1 10 (bm 21 50707) HT_ HW_ hHeld ?_
 refine tA 5 14 (bm 21 50739) HT_ HW_ hHeld ?_
 refine tA 11 20 (bm 21 52787) HT_ HW_ hHeld ?_
 refine tA 16 25 (bm 21 118323) HT_ HW_ hHeld ?_
 refine oA 2 (some 11) (bm 21 118327) HT_ fun K hK => ?_
 refine gA Tryz.func19 #[.int .i64 a0_0] ?_
 with_reducible refine (strconv_Itoa_19.calls a0_0 t573 _ A4.out (Aside0.mk (Sh.hasT_of PQT_ (bl HB)))).mono ?_
 rintro e w18 ⟨rfl, hb⟩
 refine ⟨_, rfl, ?_⟩
 replace BK571 := kP _ BK571 hb
 replace HB := kH HB hb
 (try clear hb)
 (try clear hb2)
 (try clear hk)
 (try clear hi)
 refine hK.out _ _ (bz9 BK571) (fun hHeld => ?_)
 clear hK K
 refine nA (some 11) ?_
 refine pA 3 12 (bm 21 118335) HT_ ?_
 refine oA 6 (some 15) (bm 21 118399) HT_ fun K hK => ?_
 refine gA Tryz.func20 #[.agg #[.string a0_1, .string a0_2, .int .i64 a0_3, .int .i64 a0_4, .int .i64 a0_5]] ?_
 with_reducible refine (impl_HeadPut.calls k a0_1 a0_2 a0_3 a0_4 a0_5 t574 _ A6.out (Aside0.mk (Sh.hasT_of PQT_ (bl HB)))).mono ?_
 rintro e w19 ⟨rfl, hb⟩
 refine ⟨_, rfl, ?_⟩
 replace BK571 := kP _ BK571 hb
 replace HB := kH HB hb
 (try clear hb)
 (try clear hb2)
 (try clear hk)
 (try clear hi)
 refine hK.out _ _ (bz9 BK571) (fun hHeld => ?_)
 clear hK K
 refine nA (some 15) ?_
 refine pA 7 16 (bm 21 118527) HT_ ?_
 refine pA 8 17 (bm 21 118783) HT_ ?_
 refine oA 12 (some 21) (bm 21 122879) HT_ fun K hK => ?_
 refine gA Tryz.func21 #[.string (⟨#[112, 101, 97, 107, 115]⟩ : ByteArray), .slice A0_6 l0_6.length c0_6] ?_
 with_reducible refine (impl_peaksPut.calls k (⟨#[112, 101, 97, 107, 115]⟩ : ByteArray) _ _ l0_6 t575 _ ?side1 ?side2 A9.out (Aside0.mk (Sh.hasT_of PQT_ (bl HB)))).mono ?_
 (case side1 => exact cb HR0_6 HB)
 (case side2 => exact HC0_6.out)
 rintro e w20 ⟨rfl, hb⟩
 refine ⟨_, rfl, ?_⟩
 replace BK571 := kP _ BK571 hb
 replace HB := kH HB hb
 (try clear hb)
 (try clear hb2)
 (try clear hk)
 (try clear hi)
 refine hK.out _ _ (bz9 BK571) (fun hHeld => ?_)
 clear hK K
 refine nA (some 21) ?_
 refine pA 13 22 (bm 21 131071) HT_ ?_
 refine oA 17 (some 26) (bm 21 262143) HT_ fun K hK => ?_
 refine gA Tryz.func21 #[.string (⟨#[115, 116, 101, 112, 115]⟩ : ByteArray), .slice A0_7 l0_7.length c0_7] ?_
 with_reducible refine (impl_peaksPut.calls k (⟨#[115, 116, 101, 112, 115]⟩ : ByteArray) _ _ l0_7 t576 _ ?side1 ?side2 A11.out (Aside0.mk (Sh.hasT_of PQT_ (bl HB)))).mono ?_
 (case side1 => exact cb HR0_7 HB)
 (case side2 => exact HC0_7.out)
 rintro e w21 ⟨rfl, hb⟩
 refine ⟨_, rfl, ?_⟩
 replace BK571 := kP _ BK571 hb
 replace HB := kH HB hb
 (try clear hb)
 (try clear hb2)
 (try clear hk)
 (try clear hi)
 refine hK.out _ _ (bz9 BK571) (fun hHeld => ?_)
 clear hK K
 refine nA (some 26) ?_
 refine pA 18 27 (bm 21 524287) HT_ ?_
 refine pA 19 28 (bm 21 1048575) HT_ ?_
 refine pA 20 3 (bm 21 2097151) HT_ ?_
 refine done_ (done_of HT_.out (by kernel_rfl)) ?_
 (first | have hz22 := bc9 (kF _ BK571 hW_.out) | have hz22 := bc9 BK571)
 try go_wp2
 (try (clear hzq_ BQ_; obtain ⟨hW_⟩ := hW_; subst hW_))
 go_loopg [3, 32] k (fun kq v3 v32 w' => ∃ (x3_1 : ByteArray) (x32_1 : Int), v3 = .string x3_1 ∧ v32 = .int .i64 x32_1 ∧ Aside0 (impl_PaidPut.l0 kq x3_1 l0_8 (l0_8.length : Int) x32_1 = some r) ∧ Aside0 (kq ≤ k) ∧ Aside0 (w'.heap[gb571]? = some (.cells #[.int .i64 a0_0, .string a0_1, .string a0_2, .int .i64 a0_3, .int .i64 a0_4, .int .i64 a0_5, (.slice A0_6 l0_6.length c0_6), (.slice A0_7 l0_7.length c0_7), (.slice A0_8 l0_8.length c0_8)] 30 (0, 0))) ∧ Aside0 (Below w.heap.size w w'))
 case atStart => exact ⟨((((((t573 ++ (⟨#[32]⟩ : ByteArray)) ++ t574) ++ (⟨#[10]⟩ : ByteArray)) ++ t575) ++ t576) ++ (⟨#[115, 105, 100, 101, 115]⟩ : ByteArray)), (0), xR, xR, H', ⟨Nat.le_refl _⟩, ⟨kb BK571⟩, ⟨xB HB⟩⟩
 case round =>
  clear H'
  try clear c1
  try clear c2
  try clear p2
  try clear c3
  try clear c5
  try clear c5b0
  try clear c5b1
  try clear c5b2
  try clear c6
  try clear c7
  try clear c7b0
  try clear c7b1
  try clear c7b2
  try clear c8
  try clear c8b0
  try clear c8b1
  try clear c8b2
  try clear c10
  try clear c10b0
  try clear c10b1
  try clear c10b2
  try clear c12
  try clear c12b0
  try clear c12b1
  try clear c12b2
  try clear c13
  try clear c13b0
  try clear c13b1
  try clear c13b2
  try clear c18
  try clear c19
  try clear c20
  try clear c21
  try clear hz15
  try clear hz22
  obtain ⟨x3_1, x32_1, rfl, rfl, HA, HK1, BK571, HB⟩ := hrel
  cases gk with
  | zero => exact absurd HA.out (by simp [impl_PaidPut.l0])
  | succ k1 =>
   have H := HA.out
   clear HA
   simp only [impl_PaidPut.l0] at H
   by_cases c23 : x32_1 < (l0_8.length : Int)
   rotate_left
   ·rw [if_neg c23] at H
    have c23b0 := decide_eq_false c23
    clear c23
    replace H := ip H
    obtain ⟨c38, H⟩ := H
    have c38b0 := eq_true c38
    have c38b1 := decide_eq_true c38
    have c38b2 := nf c38
    obtain rfl := Option.some.inj H
    go_wp2
    (try (clear hzq_ BQ_; obtain ⟨hW_⟩ := hW_; subst hW_))
    go_ret
    exact ⟨xE, xB HB⟩
   rw [if_pos c23] at H
   have c23b0 := decide_eq_true c23
   clear c23
   replace H := ipd H
   obtain ⟨c24b0, H⟩ := H
   replace H := ipd H
   obtain ⟨c25b0, H⟩ := H
   obtain ⟨bq26, hbq26⟩ : ∃ b_ : Bool, b_ = ((rd_T48 l0_8 x32_1).f1) := ⟨_, rfl⟩
   replace H : (if bq26 = true then (if 2 + ((rd_T48 l0_8 x32_1).f0).size ≤ 9223372036854775807 then (if x3_1.size + ((⟨#[32, 108]⟩ : ByteArray) ++ ((rd_T48 l0_8 x32_1).f0)).size ≤ 9223372036854775807 then (impl_PaidPut.l0 k1 (x3_1 ++ ((⟨#[32, 108]⟩ : ByteArray) ++ ((rd_T48 l0_8 x32_1).f0))) l0_8 (l0_8.length : Int) (wrap64 (x32_1 + 1))) else (none)) else (none)) else (if 2 + ((rd_T48 l0_8 x32_1).f0).size ≤ 9223372036854775807 then (if x3_1.size + ((⟨#[32, 114]⟩ : ByteArray) ++ ((rd_T48 l0_8 x32_1).f0)).size ≤ 9223372036854775807 then (impl_PaidPut.l0 k1 (x3_1 ++ ((⟨#[32, 114]⟩ : ByteArray) ++ ((rd_T48 l0_8 x32_1).f0))) l0_8 (l0_8.length : Int) (wrap64 (x32_1 + 1))) else (none)) else (none))) = some r := by rw [← hbq26] at H; exact H
   have Nbq26 := Aside0.mk hbq26
   clear hbq26
   have p577 : 0 ≤ (x32_1 : Int) := of_decide_eq_true xA
   have q577 : x32_1 < (l0_8.length : Int) := of_decide_eq_true xA
   obtain ⟨ad577, e577, hx577_0, hx577_1⟩ := at_T48 HR0_8.out x32_1 p577 q577
   (try rw [← Nbq26.out] at hx577_1)
   cases e577
   replace hx577_0 := hc HB hx577_0
   replace hx577_1 := hc HB hx577_1
   replace p577 := eq_true p577
   replace q577 := eq_true q577
   go_upto_if 37 with ((with_reducible refine gg ?_); refine bE 5 #[.string (⟨#[]⟩ : ByteArray), .bool false] 48 ?_; (try (clear hzq_ BQ_; obtain ⟨hW_⟩ := hW_; subst hW_)); intro gb578 hg w30 hbox hb; have BK578 := am (hbox); have GW578 := zB hg HB; have GE578 := zB hg HB; replace HB := kH HB hb; have NB571_578 := nl hg (kb BK571); have NB578_571 := ng hg (kb BK571); replace BK571 := kP _ BK571 hb; clear hb hbox hg; have hnb31 := NB578_571.out; have hnc31 := NB571_578.out; have hz32 := bc2 BK578)
   by_cases c27 : bq26 = true
   ·subst c27
    try simp only [Bool.not_true, Bool.not_false]
    rw [if_pos rfl] at H
    replace H := ip H
    obtain ⟨c28, H⟩ := H
    have c28b0 := eq_true c28
    have c28b1 := decide_eq_true c28
    have c28b2 := nf c28
    replace H := ip H
    obtain ⟨c29, H⟩ := H
    have c29b0 := eq_true c29
    have c29b1 := decide_eq_true c29
    have c29b2 := nf c29
    try (have c29b3 := c29b2; simp only [ByteArray.size_append, show (⟨#[32, 108]⟩ : ByteArray).size = 2 from rfl] at c29b3)
    have H' := Aside0.mk H
    clear H
    go_wp2
    (try (clear hzq_ BQ_; obtain ⟨hW_⟩ := hW_; subst hW_))
    go_roundg k1
    case measure => have := HK1.out; omega
    case rel => exact ⟨(x3_1 ++ ((⟨#[32, 108]⟩ : ByteArray) ++ ((rd_T48 l0_8 x32_1).f0))), (wrap64 (x32_1 + 1)), xR, xR, H', ⟨xL HK1⟩, ⟨fb BK571⟩, ⟨xB HB⟩⟩
   replace c27 := Bool.eq_false_iff.mpr c27
   subst c27
   try simp only [Bool.not_true, Bool.not_false]
   rw [if_neg (show ¬ (false = true) by decide)] at H
   replace H := ip H
   obtain ⟨c33, H⟩ := H
   have c33b0 := eq_true c33
   have c33b1 := decide_eq_true c33
   have c33b2 := nf c33
   replace H := ip H
   obtain ⟨c34, H⟩ := H
   have c34b0 := eq_true c34
   have c34b1 := decide_eq_true c34
   have c34b2 := nf c34
   try (have c34b3 := c34b2; simp only [ByteArray.size_append, show (⟨#[32, 114]⟩ : ByteArray).size = 2 from rfl] at c34b3)
   have H' := Aside0.mk H
   clear H
   go_wp2
   (try (clear hzq_ BQ_; obtain ⟨hW_⟩ := hW_; subst hW_))
   go_roundg k1
   case measure => have := HK1.out; omega
   case rel => exact ⟨(x3_1 ++ ((⟨#[32, 114]⟩ : ByteArray) ++ ((rd_T48 l0_8 x32_1).f0))), (wrap64 (x32_1 + 1)), xR, xR, H', ⟨xL HK1⟩, ⟨fb BK571⟩, ⟨xB HB⟩⟩
def spec_l1Figure.f (a0 : Int) : Option (Bool) := if a0 ≥ 48 then (some (decide (a0 ≤ 57))) else (some false)
theorem spec_l1Figure.calls (a0 : Int) (r : Bool) (w : World) (h : spec_l1Figure.f a0 = some r) :
  Calls Tryz.prog 68 #[.int .u8 a0] w fun e w' => e = .returned (.bool r) ∧ Drawn0 w w' := by
 have H : (if a0 ≥ 48 then (some (decide (a0 ≤ 57))) else (some false)) = some r := h
 clear h
 by_cases c2 : a0 ≥ 48
 ·rw [if_pos c2] at H
  have c2b0 := decide_eq_true c2
  clear c2
  obtain rfl := Option.some.inj H
  go_enter Tryz.func68, Tryz.ntmps68
  go_wp2
  go_ret
  exact ⟨xR, xW⟩
 rw [if_neg c2] at H
 have c2b0 := decide_eq_false c2
 clear c2
 obtain rfl := Option.some.inj H
 go_enter Tryz.func68, Tryz.ntmps68
 go_wp2
 go_ret
 exact ⟨xR, xW⟩
def spec_l1IsSum.l0 : Nat → ByteArray → Int → Option (Bool)
 | 0, _, _ => none
 | k + 1, x0, x3 => if x3 < (x0.size : Int) then (if 0 ≤ x3 then ((spec_l1Figure.f (bt x0 x3)).bind fun t579 => (if t579 = true then (spec_l1IsSum.l0 k x0 (wrap64 (x3 + 1))) else (if (bt x0 x3) < 97 then (some false) else (if (bt x0 x3) > 102 then (some false) else (spec_l1IsSum.l0 k x0 (wrap64 (x3 + 1))))))) else (none)) else (some ((x0.size : Int) == 16))
def spec_l1IsSum.f (k : Nat) (a0 : ByteArray) : Option (Bool) := spec_l1IsSum.l0 k a0 0
theorem spec_l1IsSum.mono_l : ∀ k, (∀ y0 y1, LeO (spec_l1IsSum.l0 k y0 y1) (spec_l1IsSum.l0 (k + 1) y0 y1))
 | 0 => fun _ _ r h => by simp [spec_l1IsSum.l0] at h
 | k + 1 => by
  have ih0 := spec_l1IsSum.mono_l k
  ·intro y0 y1
   unfold spec_l1IsSum.l0
   exact mo1 ih0
theorem spec_l1IsSum.mono : ∀ a0 k, LeO (spec_l1IsSum.f k a0) (spec_l1IsSum.f (k + 1) a0) := by
 intro a0 k
 have ih0 := spec_l1IsSum.mono_l k
 unfold spec_l1IsSum.f
 exact mo1 ih0
theorem spec_l1IsSum.calls (k : Nat) (a0 : ByteArray) (r : Bool) (w : World) (h : spec_l1IsSum.f k a0 = some r) :
  Calls Tryz.prog 54 #[.string a0] w fun e w' => e = .returned (.bool r) ∧ Drawn0 w w' := by
 have H : (spec_l1IsSum.l0 k a0 0) = some r := h
 clear h
 have H' := Aside0.mk H
 clear H
 go_enter Tryz.func54, Tryz.ntmps54
 go_wp2
 go_loopg [3] k (fun kq v3 w' => ∃ (x3_1 : Int), v3 = .int .i64 x3_1 ∧ Aside0 (spec_l1IsSum.l0 kq a0 x3_1 = some r) ∧ Aside0 (kq ≤ k) ∧ Drawn0 w w')
 case atStart => exact ⟨(0), xR, H', ⟨Nat.le_refl _⟩, xW⟩
 case round =>
  clear H'
  obtain ⟨x3_1, rfl, HA, HK1, ⟨m1, rfl⟩⟩ := hrel
  cases gk with
  | zero => exact absurd HA.out (by simp [spec_l1IsSum.l0])
  | succ k1 =>
   have H := HA.out
   clear HA
   simp only [spec_l1IsSum.l0] at H
   by_cases c2 : x3_1 < (a0.size : Int)
   rotate_left
   ·rw [if_neg c2] at H
    have c2b0 := decide_eq_false c2
    clear c2
    obtain rfl := Option.some.inj H
    go_wp2
    go_ret
    exact ⟨xR, xW⟩
   rw [if_pos c2] at H
   have c2b0 := decide_eq_true c2
   clear c2
   replace H := ipd H
   obtain ⟨c3b0, H⟩ := H
   replace H := oa H
   obtain ⟨t579, A5, H⟩ := H
   by_cases c6 : t579 = true
   ·subst c6
    rw [if_pos rfl] at H
    have H' := Aside0.mk H
    clear H
    have p4 : 0 ≤ (x3_1 : Int) := of_decide_eq_true xA
    have q4 : x3_1 < (a0.size : Int) := of_decide_eq_true xA
    have hx4 := bt_at a0 x3_1
    replace p4 := eq_true p4
    replace q4 := eq_true q4
    go_wp2_with ((with_reducible refine gg ?_); refine gL 13 Tryz.func68 #[.int .u8 (bt a0 x3_1)] ?_; (with_reducible refine (spec_l1Figure.calls (bt a0 x3_1) true _ A5.out).mono ?_); rintro e w' ⟨rfl, ⟨nd, rfl⟩⟩; refine ⟨_, rfl, ?_⟩)
    go_roundg k1
    case measure => have := HK1.out; omega
    case rel => exact ⟨(wrap64 (x3_1 + 1)), xR, H', ⟨xL HK1⟩, xW⟩
   replace c6 := Bool.eq_false_iff.mpr c6
   subst c6
   rw [if_neg (show ¬ (false = true) by decide)] at H
   by_cases c8 : (bt a0 x3_1) < 97
   ·rw [if_pos c8] at H
    have c8b0 := decide_eq_true c8
    clear c8
    obtain rfl := Option.some.inj H
    have p4 : 0 ≤ (x3_1 : Int) := of_decide_eq_true xA
    have q4 : x3_1 < (a0.size : Int) := of_decide_eq_true xA
    have hx4 := bt_at a0 x3_1
    replace p4 := eq_true p4
    replace q4 := eq_true q4
    go_wp2_with ((with_reducible refine gg ?_); refine gL 13 Tryz.func68 #[.int .u8 (bt a0 x3_1)] ?_; (with_reducible refine (spec_l1Figure.calls (bt a0 x3_1) false _ A5.out).mono ?_); rintro e w' ⟨rfl, ⟨nd, rfl⟩⟩; refine ⟨_, rfl, ?_⟩; have p7 : 0 ≤ (x3_1 : Int) := of_decide_eq_true xA; have q7 : x3_1 < (a0.size : Int) := of_decide_eq_true xA; have hx7 := bt_at a0 x3_1; replace p7 := eq_true p7; replace q7 := eq_true q7)
    go_ret
    exact ⟨xR, xW⟩
   rw [if_neg c8] at H
   have c8b0 := decide_eq_false c8
   clear c8
   have p4 : 0 ≤ (x3_1 : Int) := of_decide_eq_true xA
   have q4 : x3_1 < (a0.size : Int) := of_decide_eq_true xA
   have hx4 := bt_at a0 x3_1
   replace p4 := eq_true p4
   replace q4 := eq_true q4
   go_upto_if 26 with ((with_reducible refine gg ?_); refine gL 13 Tryz.func68 #[.int .u8 (bt a0 x3_1)] ?_; (with_reducible refine (spec_l1Figure.calls (bt a0 x3_1) false _ A5.out).mono ?_); rintro e w' ⟨rfl, ⟨nd, rfl⟩⟩; refine ⟨_, rfl, ?_⟩; have p7 : 0 ≤ (x3_1 : Int) := of_decide_eq_true xA; have q7 : x3_1 < (a0.size : Int) := of_decide_eq_true xA; have hx7 := bt_at a0 x3_1; replace p7 := eq_true p7; replace q7 := eq_true q7; have p9 : 0 ≤ (x3_1 : Int) := of_decide_eq_true xA; have q9 : x3_1 < (a0.size : Int) := of_decide_eq_true xA; have hx9 := bt_at a0 x3_1; replace p9 := eq_true p9; replace q9 := eq_true q9)
   by_cases c10 : (bt a0 x3_1) > 102
   ·rw [if_pos c10] at H
    have c10b0 := decide_eq_true c10
    try simp only [c10b0, Bool.not_true, Bool.not_false]
    clear c10
    obtain rfl := Option.some.inj H
    go_wp2
    go_ret
    exact ⟨xR, xW⟩
   rw [if_neg c10] at H
   have c10b0 := decide_eq_false c10
   try simp only [c10b0, Bool.not_true, Bool.not_false]
   clear c10
   have H' := Aside0.mk H
   clear H
   go_wp2
   go_roundg k1
   case measure => have := HK1.out; omega
   case rel => exact ⟨(wrap64 (x3_1 + 1)), xR, H', ⟨xL HK1⟩, xW⟩
def spec_l5PeakOk.f (k : Nat) (a0_0 : ByteArray) (a0_1 : Int) (a0_2 : Int) : Option (Bool) := (spec_l1IsSum.f k a0_0).bind fun t581 => (if t581 = true then ((spec_l1In.f a0_2 1 20).bind fun t582 => (if t582 = true then ((spec_l1In.f a0_1 a0_2 (wrap64 (a0_2 * 8))).bind fun t583 => (some t583)) else (some false))) else (some false))
theorem spec_l5PeakOk.mono : ∀ a0 a1 a2 k, LeO (spec_l5PeakOk.f k a0 a1 a2) (spec_l5PeakOk.f (k + 1) a0 a1 a2) := by
 intro a0 a1 a2 k
 unfold spec_l5PeakOk.f
 exact mo1 spec_l1IsSum.mono
theorem spec_l5PeakOk.calls (k : Nat) (a0_0 : ByteArray) (a0_1 : Int) (a0_2 : Int) (r : Bool) (w : World) (h : spec_l5PeakOk.f k a0_0 a0_1 a0_2 = some r) :
  Calls Tryz.prog 55 #[.agg #[.string a0_0, .int .i64 a0_1, .int .i64 a0_2]] w fun e w' => e = .returned (.bool r) ∧ Below w.heap.size w w' := by
 have hu93 := Tryz.underlying93
 have HB := Aside0.mk (Below.refl w.heap.size w)
 have H : ((spec_l1IsSum.f k a0_0).bind fun t581 => (if t581 = true then ((spec_l1In.f a0_2 1 20).bind fun t582 => (if t582 = true then ((spec_l1In.f a0_1 a0_2 (wrap64 (a0_2 * 8))).bind fun t583 => (some t583)) else (some false))) else (some false))) = some r := h
 clear h
 replace H := oa H
 obtain ⟨t581, A2, H⟩ := H
 go_enter Tryz.func55, Tryz.ntmps55
 go_upto_region 1 with ((with_reducible refine gg ?_); refine bE 1 #[.string a0_0, .int .i64 a0_1, .int .i64 a0_2] 93 ?_; intro gb580 hg w7 hbox hb; have BK580 := am (hbox); have GW580 := zB hg HB; have GE580 := zB hg HB; replace HB := kH HB hb; clear hb hbox hg; have hz8 := bc3 BK580)
 by_cases c3 : t581 = true
 rotate_left
 ·replace c3 := Bool.eq_false_iff.mpr c3
  subst c3
  try simp only [Bool.not_true, Bool.not_false]
  rw [if_neg (show ¬ (false = true) by decide)] at H
  obtain rfl := Option.some.inj H
  go_wp2_with ((with_reducible refine gg ?_); refine gL 5 Tryz.func54 #[.string a0_0] ?_; (with_reducible refine (spec_l1IsSum.calls k a0_0 false _ A2.out).mono ?_); rintro e w' ⟨rfl, ⟨nd, rfl⟩⟩; refine ⟨_, rfl, ?_⟩)
  go_ret
  exact ⟨xE, xB HB⟩
 subst c3
 try simp only [Bool.not_true, Bool.not_false]
 rw [if_pos rfl] at H
 replace H := oa H
 obtain ⟨t582, A4, H⟩ := H
 by_cases c5 : t582 = true
 rotate_left
 ·replace c5 := Bool.eq_false_iff.mpr c5
  subst c5
  rw [if_neg (show ¬ (false = true) by decide)] at H
  obtain rfl := Option.some.inj H
  go_wp2_with (first | ((with_reducible refine gg ?_); refine gL 5 Tryz.func54 #[.string a0_0] ?_; (with_reducible refine (spec_l1IsSum.calls k a0_0 true _ A2.out).mono ?_); rintro e w' ⟨rfl, ⟨nd, rfl⟩⟩; refine ⟨_, rfl, ?_⟩) | (go_at_call 56; (with_reducible refine (spec_l1In.calls a0_2 1 20 false _ A4.out).mono ?_); rintro e w' ⟨rfl, ⟨nd, rfl⟩⟩))
  go_ret
  exact ⟨xE, xB HB⟩
 subst c5
 rw [if_pos rfl] at H
 replace H := oa H
 obtain ⟨t583, A6, H⟩ := H
 obtain rfl := Option.some.inj H
 go_wp2_with (first | ((with_reducible refine gg ?_); refine gL 5 Tryz.func54 #[.string a0_0] ?_; (with_reducible refine (spec_l1IsSum.calls k a0_0 true _ A2.out).mono ?_); rintro e w' ⟨rfl, ⟨nd, rfl⟩⟩; refine ⟨_, rfl, ?_⟩) | (go_at_call 56; (with_reducible refine (spec_l1In.calls a0_2 1 20 true _ A4.out).mono ?_); rintro e w' ⟨rfl, ⟨nd, rfl⟩⟩) | (go_at_call 56; (with_reducible refine (spec_l1In.calls a0_1 a0_2 (wrap64 (a0_2 * 8)) t583 _ A6.out).mono ?_); rintro e w' ⟨rfl, ⟨nd, rfl⟩⟩))
 go_ret
 exact ⟨xE, xB HB⟩
def spec_l3Ok.f (k : Nat) (a0_0 : ByteArray) (a0_1 : ByteArray) (a0_2 : Int) (a0_3 : Int) (a0_4 : Int) : Option (Bool) := (spec_l1IsSum.f k a0_0).bind fun t585 => (if t585 = true then ((spec_l1IsSum.f k a0_1).bind fun t586 => (if t586 = true then ((spec_l1In.f a0_2 0 99999).bind fun t587 => (if t587 = true then ((spec_l1In.f a0_3 1 8).bind fun t588 => (if t588 = true then ((spec_l1In.f a0_4 0 400).bind fun t589 => (some t589)) else (some false))) else (some false))) else (some false))) else (some false))
theorem spec_l3Ok.mono : ∀ a0 a1 a2 a3 a4 k, LeO (spec_l3Ok.f k a0 a1 a2 a3 a4) (spec_l3Ok.f (k + 1) a0 a1 a2 a3 a4) := by
 intro a0 a1 a2 a3 a4 k
 unfold spec_l3Ok.f
 exact mo1 spec_l1IsSum.mono
theorem spec_l3Ok.calls (k : Nat) (a0_0 : ByteArray) (a0_1 : ByteArray) (a0_2 : Int) (a0_3 : Int) (a0_4 : Int) (r : Bool) (w : World) (h : spec_l3Ok.f k a0_0 a0_1 a0_2 a0_3 a0_4 = some r) :
  Calls Tryz.prog 57 #[.agg #[.string a0_0, .string a0_1, .int .i64 a0_2, .int .i64 a0_3, .int .i64 a0_4]] w fun e w' => e = .returned (.bool r) ∧ Below w.heap.size w w' := by
 have hu24 := Tryz.underlying24
 have HB := Aside0.mk (Below.refl w.heap.size w)
 have H : ((spec_l1IsSum.f k a0_0).bind fun t585 => (if t585 = true then ((spec_l1IsSum.f k a0_1).bind fun t586 => (if t586 = true then ((spec_l1In.f a0_2 0 99999).bind fun t587 => (if t587 = true then ((spec_l1In.f a0_3 1 8).bind fun t588 => (if t588 = true then ((spec_l1In.f a0_4 0 400).bind fun t589 => (some t589)) else (some false))) else (some false))) else (some false))) else (some false))) = some r := h
 clear h
 replace H := oa H
 obtain ⟨t585, A2, H⟩ := H
 go_enter Tryz.func57, Tryz.ntmps57
 go_upto_region 1 with ((with_reducible refine gg ?_); refine bE 1 #[.string a0_0, .string a0_1, .int .i64 a0_2, .int .i64 a0_3, .int .i64 a0_4] 24 ?_; intro gb584 hg w11 hbox hb; have BK584 := am (hbox); have GW584 := zB hg HB; have GE584 := zB hg HB; replace HB := kH HB hb; clear hb hbox hg; have hz12 := bc5 BK584)
 by_cases c3 : t585 = true
 rotate_left
 ·replace c3 := Bool.eq_false_iff.mpr c3
  subst c3
  try simp only [Bool.not_true, Bool.not_false]
  rw [if_neg (show ¬ (false = true) by decide)] at H
  obtain rfl := Option.some.inj H
  go_wp2_with ((with_reducible refine gg ?_); refine gL 5 Tryz.func54 #[.string a0_0] ?_; (with_reducible refine (spec_l1IsSum.calls k a0_0 false _ A2.out).mono ?_); rintro e w' ⟨rfl, ⟨nd, rfl⟩⟩; refine ⟨_, rfl, ?_⟩)
  go_ret
  exact ⟨xE, xB HB⟩
 subst c3
 try simp only [Bool.not_true, Bool.not_false]
 rw [if_pos rfl] at H
 replace H := oa H
 obtain ⟨t586, A4, H⟩ := H
 by_cases c5 : t586 = true
 rotate_left
 ·replace c5 := Bool.eq_false_iff.mpr c5
  subst c5
  rw [if_neg (show ¬ (false = true) by decide)] at H
  obtain rfl := Option.some.inj H
  go_wp2_with (first | ((with_reducible refine gg ?_); refine gL 5 Tryz.func54 #[.string a0_0] ?_; (with_reducible refine (spec_l1IsSum.calls k a0_0 true _ A2.out).mono ?_); rintro e w' ⟨rfl, ⟨nd, rfl⟩⟩; refine ⟨_, rfl, ?_⟩) | (go_at_call 54; (with_reducible refine (spec_l1IsSum.calls k a0_1 false _ A4.out).mono ?_); rintro e w' ⟨rfl, ⟨nd, rfl⟩⟩))
  go_ret
  exact ⟨xE, xB HB⟩
 subst c5
 rw [if_pos rfl] at H
 replace H := oa H
 obtain ⟨t587, A6, H⟩ := H
 by_cases c7 : t587 = true
 rotate_left
 ·replace c7 := Bool.eq_false_iff.mpr c7
  subst c7
  rw [if_neg (show ¬ (false = true) by decide)] at H
  obtain rfl := Option.some.inj H
  go_wp2_with (first | ((with_reducible refine gg ?_); refine gL 5 Tryz.func54 #[.string a0_0] ?_; (with_reducible refine (spec_l1IsSum.calls k a0_0 true _ A2.out).mono ?_); rintro e w' ⟨rfl, ⟨nd, rfl⟩⟩; refine ⟨_, rfl, ?_⟩) | (go_at_call 54; (with_reducible refine (spec_l1IsSum.calls k a0_1 true _ A4.out).mono ?_); rintro e w' ⟨rfl, ⟨nd, rfl⟩⟩) | (go_at_call 56; (with_reducible refine (spec_l1In.calls a0_2 0 99999 false _ A6.out).mono ?_); rintro e w' ⟨rfl, ⟨nd, rfl⟩⟩))
  go_ret
  exact ⟨xE, xB HB⟩
 subst c7
 rw [if_pos rfl] at H
 replace H := oa H
 obtain ⟨t588, A8, H⟩ := H
 by_cases c9 : t588 = true
 rotate_left
 ·replace c9 := Bool.eq_false_iff.mpr c9
  subst c9
  rw [if_neg (show ¬ (false = true) by decide)] at H
  obtain rfl := Option.some.inj H
  go_wp2_with (first | ((with_reducible refine gg ?_); refine gL 5 Tryz.func54 #[.string a0_0] ?_; (with_reducible refine (spec_l1IsSum.calls k a0_0 true _ A2.out).mono ?_); rintro e w' ⟨rfl, ⟨nd, rfl⟩⟩; refine ⟨_, rfl, ?_⟩) | (go_at_call 54; (with_reducible refine (spec_l1IsSum.calls k a0_1 true _ A4.out).mono ?_); rintro e w' ⟨rfl, ⟨nd, rfl⟩⟩) | (go_at_call 56; (with_reducible refine (spec_l1In.calls a0_2 0 99999 true _ A6.out).mono ?_); rintro e w' ⟨rfl, ⟨nd, rfl⟩⟩) | (go_at_call 56; (with_reducible refine (spec_l1In.calls a0_3 1 8 false _ A8.out).mono ?_); rintro e w' ⟨rfl, ⟨nd, rfl⟩⟩))
  go_ret
  exact ⟨xE, xB HB⟩
 subst c9
 rw [if_pos rfl] at H
 replace H := oa H
 obtain ⟨t589, A10, H⟩ := H
 obtain rfl := Option.some.inj H
 go_wp2_with (first | ((with_reducible refine gg ?_); refine gL 5 Tryz.func54 #[.string a0_0] ?_; (with_reducible refine (spec_l1IsSum.calls k a0_0 true _ A2.out).mono ?_); rintro e w' ⟨rfl, ⟨nd, rfl⟩⟩; refine ⟨_, rfl, ?_⟩) | (go_at_call 54; (with_reducible refine (spec_l1IsSum.calls k a0_1 true _ A4.out).mono ?_); rintro e w' ⟨rfl, ⟨nd, rfl⟩⟩) | (go_at_call 56; (with_reducible refine (spec_l1In.calls a0_2 0 99999 true _ A6.out).mono ?_); rintro e w' ⟨rfl, ⟨nd, rfl⟩⟩) | (go_at_call 56; (with_reducible refine (spec_l1In.calls a0_3 1 8 true _ A8.out).mono ?_); rintro e w' ⟨rfl, ⟨nd, rfl⟩⟩) | (go_at_call 56; (with_reducible refine (spec_l1In.calls a0_4 0 400 t589 _ A10.out).mono ?_); rintro e w' ⟨rfl, ⟨nd, rfl⟩⟩))
 go_ret
 exact ⟨xE, xB HB⟩
def spec_l5Two.l0 : Nat → Int → Int → Option (Bool)
 | 0, _, _ => none
 | k + 1, x0, x3 => if x3 < x0 then (if x3 < 20 then (spec_l5Two.l0 k x0 (wrap64 (x3 * 2))) else (some (x3 == x0))) else (some (x3 == x0))
def spec_l5Two.f (k : Nat) (a0 : Int) : Option (Bool) := spec_l5Two.l0 k a0 1
theorem spec_l5Two.mono_l : ∀ k, (∀ y0 y1, LeO (spec_l5Two.l0 k y0 y1) (spec_l5Two.l0 (k + 1) y0 y1))
 | 0 => fun _ _ r h => by simp [spec_l5Two.l0] at h
 | k + 1 => by
  have ih0 := spec_l5Two.mono_l k
  ·intro y0 y1
   unfold spec_l5Two.l0
   exact mo1 ih0
theorem spec_l5Two.mono : ∀ a0 k, LeO (spec_l5Two.f k a0) (spec_l5Two.f (k + 1) a0) := by
 intro a0 k
 have ih0 := spec_l5Two.mono_l k
 unfold spec_l5Two.f
 exact mo1 ih0
theorem spec_l5Two.calls (k : Nat) (a0 : Int) (r : Bool) (w : World) (h : spec_l5Two.f k a0 = some r) :
  Calls Tryz.prog 79 #[.int .i64 a0] w fun e w' => e = .returned (.bool r) ∧ Drawn0 w w' := by
 have H : (spec_l5Two.l0 k a0 1) = some r := h
 clear h
 have H' := Aside0.mk H
 clear H
 go_enter Tryz.func79, Tryz.ntmps79
 go_wp2
 go_loopg [3] k (fun kq v3 w' => ∃ (x3_1 : Int), v3 = .int .i64 x3_1 ∧ Aside0 (spec_l5Two.l0 kq a0 x3_1 = some r) ∧ Aside0 (kq ≤ k) ∧ Drawn0 w w')
 case atStart => exact ⟨(1), xR, H', ⟨Nat.le_refl _⟩, xW⟩
 case round =>
  clear H'
  obtain ⟨x3_1, rfl, HA, HK1, ⟨m1, rfl⟩⟩ := hrel
  cases gk with
  | zero => exact absurd HA.out (by simp [spec_l5Two.l0])
  | succ k1 =>
   have H := HA.out
   clear HA
   simp only [spec_l5Two.l0] at H
   by_cases c2 : x3_1 < a0
   rotate_left
   ·rw [if_neg c2] at H
    have c2b0 := decide_eq_false c2
    clear c2
    obtain rfl := Option.some.inj H
    go_wp2
    go_ret
    exact ⟨xR, xW⟩
   rw [if_pos c2] at H
   have c2b0 := decide_eq_true c2
   clear c2
   by_cases c3 : x3_1 < 20
   rotate_left
   ·rw [if_neg c3] at H
    have c3b0 := decide_eq_false c3
    clear c3
    obtain rfl := Option.some.inj H
    go_wp2
    go_ret
    exact ⟨xR, xW⟩
   rw [if_pos c3] at H
   have c3b0 := decide_eq_true c3
   clear c3
   have H' := Aside0.mk H
   clear H
   go_wp2
   go_roundg k1
   case measure => have := HK1.out; omega
   case rel => exact ⟨(wrap64 (x3_1 * 2)), xR, H', ⟨xL HK1⟩, xW⟩
def spec_l5Ok.l0 : Nat → List (S93) → Int → Int → Option (Bool)
 | 0, _, _, _ => none
 | k + 1, x0, x3, x4 => if x4 < (x0.length : Int) then (if 0 ≤ x4 then ((spec_l5PeakOk.f k ((rd_T93 x0 x4).f0) ((rd_T93 x0 x4).f1) ((rd_T93 x0 x4).f2)).bind fun t591 => (if t591 = true then ((spec_l5Two.f k ((rd_T93 x0 x4).f2)).bind fun t593 => (if t593 = true then (if x4 > 0 then (if 0 ≤ (wrap64 (x4 - 1)) then (if (wrap64 (x4 - 1)) < (x0.length : Int) then (if ((rd_T93 x0 x4).f2) ≥ ((rd_T93 x0 (wrap64 (x4 - 1))).f2) then (some false) else (spec_l5Ok.l0 k x0 (wrap64 (x3 + ((rd_T93 x0 x4).f2))) (wrap64 (x4 + 1)))) else (none)) else (none)) else (spec_l5Ok.l0 k x0 (wrap64 (x3 + ((rd_T93 x0 x4).f2))) (wrap64 (x4 + 1)))) else (some false))) else (some false))) else (none)) else (some (decide (x3 ≤ 20)))
def spec_l5Ok.f (k : Nat) (l0 : List (S93)) : Option (Bool) := spec_l5Ok.l0 k l0 0 0
theorem spec_l5Ok.mono_l : ∀ k, (∀ y0 y1 y2, LeO (spec_l5Ok.l0 k y0 y1 y2) (spec_l5Ok.l0 (k + 1) y0 y1 y2))
 | 0 => fun _ _ _ r h => by simp [spec_l5Ok.l0] at h
 | k + 1 => by
  have ih0 := spec_l5Ok.mono_l k
  ·intro y0 y1 y2
   unfold spec_l5Ok.l0
   exact mo3 ih0 spec_l5PeakOk.mono spec_l5Two.mono
theorem spec_l5Ok.mono : ∀ a0 k, LeO (spec_l5Ok.f k a0) (spec_l5Ok.f (k + 1) a0) := by
 intro a0 k
 have ih0 := spec_l5Ok.mono_l k
 unfold spec_l5Ok.f
 exact mo3 ih0 spec_l5PeakOk.mono spec_l5Two.mono
def spec_l5Ok.T5 : Bool × List (List Nat × List Nat) := (true, [([], []), ([], []), ([0, 1], [0, 1]), ([2], [2]), ([3], [3]), ([4], [4]), ([5, 4], [5]), ([6], [6]), ([6], [6]), ([7, 8, 6], [6, 7, 8]), ([9, 6], [6, 9]), ([10, 6], [6, 10]), ([11, 6, 6], [6, 11]), ([12, 6], [6, 12]), ([6, 13], [6, 13]), ([14, 12], [14]), ([15], [15]), ([16, 15], [15, 16]), ([17, 15, 15], [15, 17]), ([18], [18]), ([18], [18]), ([19, 20, 18], [18, 19, 20]), ([21, 18], [18, 21]), ([22, 18], [18, 22]), ([18], [18]), ([18], [18]), ([25, 18], [18, 25]), ([24, 26, 18], [18, 24, 26]), ([27, 18], [18, 27]), ([28, 18], [18, 28]), ([23, 29, 18], [18, 23, 29]), ([18, 30, 15], [15, 18, 30]), ([15, 31], [15, 31])])
def spec_l5Ok.B5 : List Nat := [0, 0, 3, 7, 15, 31, 63, 127, 127, 511, 1023, 2047, 4095, 8191, 16383, 32767, 65535, 131071, 262143, 524287, 524287, 2097151, 4194303, 8388607, 524287, 524287, 34078719, 117964799, 252182527, 520617983, 1073741823, 2147483647, 4294967295]
theorem spec_l5Ok.tab5 : rtab .any (opsOf Tryz.f58 5) = spec_l5Ok.T5 := by kernel_rfl
theorem spec_l5Ok.bits5 : waitsOk spec_l5Ok.T5.2 spec_l5Ok.B5 = true := by kernel_rfl
theorem spec_l5Ok.calls (k : Nat) (A0 : Option Addr) (c0 : Nat) (l0 : List (S93)) (r : Bool) (w : World) (hr0 : Kd.C k93 w A0 l0.length l0) (hc0 : l0.length ≤ c0) (h : spec_l5Ok.f k l0 = some r) :
  Calls Tryz.prog 58 #[.slice A0 l0.length c0] w fun e w' => e = .returned (.bool r) ∧ Below w.heap.size w w' := by
 have hu93 := Tryz.underlying93
 have HR0 := Aside0.mk hr0
 have HC0 := Aside0.mk hc0
 clear hr0 hc0
 have HB := Aside0.mk (Below.refl w.heap.size w)
 have H : (spec_l5Ok.l0 k l0 0 0) = some r := h
 clear h
 have H' := Aside0.mk H
 clear H
 go_enter Tryz.func58, Tryz.ntmps58
 go_wp2
 go_loopg [3, 4] k (fun kq v3 v4 w' => ∃ (x3_1 : Int) (x4_1 : Int), v3 = .int .i64 x3_1 ∧ v4 = .int .i64 x4_1 ∧ Aside0 (spec_l5Ok.l0 kq l0 x3_1 x4_1 = some r) ∧ Aside0 (kq ≤ k) ∧ Aside0 (Below w.heap.size w w'))
 case atStart => exact ⟨(0), (0), xR, xR, H', ⟨Nat.le_refl _⟩, ⟨bl HB⟩⟩
 case round =>
  clear H'
  obtain ⟨x3_1, x4_1, rfl, rfl, HA, HK1, HB⟩ := hrel
  cases gk with
  | zero => exact absurd HA.out (by simp [spec_l5Ok.l0])
  | succ k1 =>
   have H := HA.out
   clear HA
   simp only [spec_l5Ok.l0] at H
   by_cases c2 : x4_1 < (l0.length : Int)
   rotate_left
   ·rw [if_neg c2] at H
    have c2b0 := decide_eq_false c2
    clear c2
    obtain rfl := Option.some.inj H
    go_wp2
    go_ret
    exact ⟨xE, bl HB⟩
   rw [if_pos c2] at H
   have c2b0 := decide_eq_true c2
   clear c2
   replace H := ipd H
   obtain ⟨c3b0, H⟩ := H
   replace H := oa H
   obtain ⟨t591, A4, H⟩ := H
   by_cases c5 : t591 = true
   rotate_left
   ·replace c5 := Bool.eq_false_iff.mpr c5
    subst c5
    rw [if_neg (show ¬ (false = true) by decide)] at H
    obtain rfl := Option.some.inj H
    try go_wp2
    replace HB := am (below_drew1 HB.out)
    have p590 : 0 ≤ (x4_1 : Int) := of_decide_eq_true xA
    have q590 : x4_1 < (l0.length : Int) := of_decide_eq_true xA
    obtain ⟨ad590, e590, hx590_0, hx590_1, hx590_2⟩ := at_T93 HR0.out x4_1 p590 q590
    have hw590_2 := hx590_2
    have hw590_1 := hx590_1
    have hw590_0 := hx590_0
    cases e590
    replace hx590_0 := hc HB hx590_0
    replace hx590_1 := hc HB hx590_1
    replace hx590_2 := hc HB hx590_2
    replace p590 := eq_true p590
    replace q590 := eq_true q590
    refine start_ (n := 33) (S := fun w' => w'.cell? (ad590.add ((x4_1).toNat * 3)) = some (.string ((rd_T93 l0 x4_1).f0)) ∧ w'.cell? ⟨(ad590.add ((x4_1).toNat * 3)).block, (ad590.add ((x4_1).toNat * 3)).off + 1, none⟩ = some (.int .i64 ((rd_T93 l0 x4_1).f1)) ∧ w'.cell? ⟨(ad590.add ((x4_1).toNat * 3)).block, (ad590.add ((x4_1).toNat * 3)).off + 2, none⟩ = some (.int .i64 ((rd_T93 l0 x4_1).f2))) (ds := []) (bm 33 0) (by kernel_rfl) rfl rfl ⟨(hd HB hw590_0), (hd HB hw590_1), (hd HB hw590_2)⟩ (fun hHeld => ?_); refine with_tabW spec_l5Ok.tab5 spec_l5Ok.bits5 (fun HT_ HW_ => ?_)
    generalize wr.drew = w21 at HB hx590_0 hx590_1 hx590_2 hHeld ⊢
    refine pA 0 11 (bm 33 1) HT_ ?_
    refine pA 1 12 (bm 33 3) HT_ ?_
    refine pA 2 13 (bm 33 7) HT_ ?_
    refine tA 3 14 (bm 33 15) HT_ HW_ hHeld ?_
    refine oA 4 (some 15) (bm 33 31) HT_ fun K hK => ?_
    refine gA Tryz.func55 #[.agg #[.string ((rd_T93 l0 x4_1).f0), .int .i64 ((rd_T93 l0 x4_1).f1), .int .i64 ((rd_T93 l0 x4_1).f2)]] ?_
    with_reducible refine (spec_l5PeakOk.calls k1 ((rd_T93 l0 x4_1).f0) ((rd_T93 l0 x4_1).f1) ((rd_T93 l0 x4_1).f2) false _ A4.out).mono ?_
    rintro e w22 ⟨rfl, hb⟩
    refine ⟨_, rfl, ?_⟩
    replace HB := kH HB hb
    (try clear hb)
    (try clear hb2)
    (try clear hk)
    (try clear hi)
    refine hK.out _ _ ⟨(hd HB hw590_0), (hd HB hw590_1), (hd HB hw590_2)⟩ (fun hHeld => ?_)
    clear hK K
    refine nA (some 15) ?_
    refine pA 5 16 (bm 33 63) HT_ ?_
    refine pA 6 17 (bm 33 127) HT_ ?_
    refine pU 7 18 (bm 33 255) HT_ ?_
    refine pU 8 19 (bm 33 511) HT_ ?_
    refine pU 9 20 (bm 33 1023) HT_ ?_
    refine pU 10 21 (bm 33 2047) HT_ ?_
    refine pU 11 22 (bm 33 4095) HT_ ?_
    refine pU 12 23 (bm 33 8191) HT_ ?_
    refine pU 13 24 (bm 33 16383) HT_ ?_
    refine pA 14 25 (bm 33 32767) HT_ ?_
    refine pA 15 26 (bm 33 65535) HT_ ?_
    refine pU 16 27 (bm 33 131071) HT_ ?_
    refine pU 17 28 (bm 33 262143) HT_ ?_
    refine pU 18 29 (bm 33 524287) HT_ ?_
    refine pU 19 30 (bm 33 1048575) HT_ ?_
    refine pU 20 31 (bm 33 2097151) HT_ ?_
    refine pU 21 32 (bm 33 4194303) HT_ ?_
    refine pU 22 33 (bm 33 8388607) HT_ ?_
    refine pU 23 34 (bm 33 16777215) HT_ ?_
    refine pU 24 35 (bm 33 33554431) HT_ ?_
    refine pU 25 36 (bm 33 67108863) HT_ ?_
    refine pU 26 37 (bm 33 134217727) HT_ ?_
    refine pU 27 38 (bm 33 268435455) HT_ ?_
    refine pU 28 39 (bm 33 536870911) HT_ ?_
    refine pU 29 40 (bm 33 1073741823) HT_ ?_
    refine pU 30 41 (bm 33 2147483647) HT_ ?_
    refine pU 31 42 (bm 33 4294967295) HT_ ?_
    refine pA 32 43 (bm 33 8589934591) HT_ ?_
    refine done_ (done_of HT_.out (by kernel_rfl)) ?_
    try go_wp2
    go_ret
    exact ⟨xE, bl HB⟩
   subst c5
   rw [if_pos rfl] at H
   replace H := oa H
   obtain ⟨t593, A6, H⟩ := H
   by_cases c7 : t593 = true
   rotate_left
   ·replace c7 := Bool.eq_false_iff.mpr c7
    subst c7
    rw [if_neg (show ¬ (false = true) by decide)] at H
    obtain rfl := Option.some.inj H
    try go_wp2
    replace HB := am (below_drew1 HB.out)
    have p590 : 0 ≤ (x4_1 : Int) := of_decide_eq_true xA
    have q590 : x4_1 < (l0.length : Int) := of_decide_eq_true xA
    obtain ⟨ad590, e590, hx590_0, hx590_1, hx590_2⟩ := at_T93 HR0.out x4_1 p590 q590
    have hw590_2 := hx590_2
    have hw590_1 := hx590_1
    have hw590_0 := hx590_0
    cases e590
    replace hx590_0 := hc HB hx590_0
    replace hx590_1 := hc HB hx590_1
    replace hx590_2 := hc HB hx590_2
    replace p590 := eq_true p590
    replace q590 := eq_true q590
    have p592 : 0 ≤ (x4_1 : Int) := of_decide_eq_true xA
    have q592 : x4_1 < (l0.length : Int) := of_decide_eq_true xA
    obtain ⟨ad592, e592, hx592_0, hx592_1, hx592_2⟩ := at_T93 HR0.out x4_1 p592 q592
    have hw592_2 := hx592_2
    have hw592_1 := hx592_1
    have hw592_0 := hx592_0
    obtain rfl : ad590 = ad592 := (by injection e592)
    replace hx592_0 := hc HB hx592_0
    replace hx592_1 := hc HB hx592_1
    replace hx592_2 := hc HB hx592_2
    replace p592 := eq_true p592
    replace q592 := eq_true q592
    refine start_ (n := 33) (S := fun w' => w'.cell? (ad590.add ((x4_1).toNat * 3)) = some (.string ((rd_T93 l0 x4_1).f0)) ∧ w'.cell? ⟨(ad590.add ((x4_1).toNat * 3)).block, (ad590.add ((x4_1).toNat * 3)).off + 1, none⟩ = some (.int .i64 ((rd_T93 l0 x4_1).f1)) ∧ w'.cell? ⟨(ad590.add ((x4_1).toNat * 3)).block, (ad590.add ((x4_1).toNat * 3)).off + 2, none⟩ = some (.int .i64 ((rd_T93 l0 x4_1).f2)) ∧ w'.cell? (ad590.add ((x4_1).toNat * 3)) = some (.string ((rd_T93 l0 x4_1).f0)) ∧ w'.cell? ⟨(ad590.add ((x4_1).toNat * 3)).block, (ad590.add ((x4_1).toNat * 3)).off + 1, none⟩ = some (.int .i64 ((rd_T93 l0 x4_1).f1)) ∧ w'.cell? ⟨(ad590.add ((x4_1).toNat * 3)).block, (ad590.add ((x4_1).toNat * 3)).off + 2, none⟩ = some (.int .i64 ((rd_T93 l0 x4_1).f2))) (ds := []) (bm 33 0) (by kernel_rfl) rfl rfl ⟨(hd HB hw590_0), (hd HB hw590_1), (hd HB hw590_2), (hd HB hw592_0), (hd HB hw592_1), (hd HB hw592_2)⟩ (fun hHeld => ?_); refine with_tabW spec_l5Ok.tab5 spec_l5Ok.bits5 (fun HT_ HW_ => ?_)
    generalize wr.drew = w19 at HB hx590_0 hx590_1 hx590_2 hx592_0 hx592_1 hx592_2 hHeld ⊢
    refine pA 0 11 (bm 33 1) HT_ ?_
    refine pA 1 12 (bm 33 3) HT_ ?_
    refine pA 2 13 (bm 33 7) HT_ ?_
    refine tA 3 14 (bm 33 15) HT_ HW_ hHeld ?_
    refine oA 4 (some 15) (bm 33 31) HT_ fun K hK => ?_
    refine gA Tryz.func55 #[.agg #[.string ((rd_T93 l0 x4_1).f0), .int .i64 ((rd_T93 l0 x4_1).f1), .int .i64 ((rd_T93 l0 x4_1).f2)]] ?_
    with_reducible refine (spec_l5PeakOk.calls k1 ((rd_T93 l0 x4_1).f0) ((rd_T93 l0 x4_1).f1) ((rd_T93 l0 x4_1).f2) true _ A4.out).mono ?_
    rintro e w20 ⟨rfl, hb⟩
    refine ⟨_, rfl, ?_⟩
    replace HB := kH HB hb
    (try clear hb)
    (try clear hb2)
    (try clear hk)
    (try clear hi)
    refine hK.out _ _ ⟨(hd HB hw590_0), (hd HB hw590_1), (hd HB hw590_2), (hd HB hw592_0), (hd HB hw592_1), (hd HB hw592_2)⟩ (fun hHeld => ?_)
    clear hK K
    refine nA (some 15) ?_
    refine pA 5 16 (bm 33 63) HT_ ?_
    refine pA 6 17 (bm 33 127) HT_ ?_
    refine pA 7 18 (bm 33 255) HT_ ?_
    refine pA 8 19 (bm 33 511) HT_ ?_
    refine pA 9 20 (bm 33 1023) HT_ ?_
    refine pA 10 21 (bm 33 2047) HT_ ?_
    refine tA 11 22 (bm 33 4095) HT_ HW_ hHeld ?_
    refine oA 12 (some 23) (bm 33 8191) HT_ fun K hK => ?_
    refine gA Tryz.func79 #[.int .i64 ((rd_T93 l0 x4_1).f2)] ?_
    with_reducible refine (spec_l5Two.calls k1 ((rd_T93 l0 x4_1).f2) false _ A6.out).mono ?_
    rintro e w' ⟨rfl, ⟨nd, rfl⟩⟩
    refine ⟨_, rfl, ?_⟩
    refine hK.out _ _ ⟨(hd HB hw590_0), (hd HB hw590_1), (hd HB hw590_2), (hd HB hw592_0), (hd HB hw592_1), (hd HB hw592_2)⟩ (fun hHeld => ?_)
    clear hK K
    refine nA (some 23) ?_
    refine pA 13 24 (bm 33 16383) HT_ ?_
    refine pA 14 25 (bm 33 32767) HT_ ?_
    refine pA 15 26 (bm 33 65535) HT_ ?_
    refine pU 16 27 (bm 33 131071) HT_ ?_
    refine pU 17 28 (bm 33 262143) HT_ ?_
    refine pU 18 29 (bm 33 524287) HT_ ?_
    refine pU 19 30 (bm 33 1048575) HT_ ?_
    refine pU 20 31 (bm 33 2097151) HT_ ?_
    refine pU 21 32 (bm 33 4194303) HT_ ?_
    refine pU 22 33 (bm 33 8388607) HT_ ?_
    refine pU 23 34 (bm 33 16777215) HT_ ?_
    refine pU 24 35 (bm 33 33554431) HT_ ?_
    refine pU 25 36 (bm 33 67108863) HT_ ?_
    refine pU 26 37 (bm 33 134217727) HT_ ?_
    refine pU 27 38 (bm 33 268435455) HT_ ?_
    refine pU 28 39 (bm 33 536870911) HT_ ?_
    refine pU 29 40 (bm 33 1073741823) HT_ ?_
    refine pU 30 41 (bm 33 2147483647) HT_ ?_
    refine pU 31 42 (bm 33 4294967295) HT_ ?_
    refine pA 32 43 (bm 33 8589934591) HT_ ?_
    refine done_ (done_of HT_.out (by kernel_rfl)) ?_
    try go_wp2
    go_ret
    exact ⟨xE, bl HB⟩
   subst c7
   rw [if_pos rfl] at H
   by_cases c8 : x4_1 > 0
   rotate_left
   ·rw [if_neg c8] at H
    have c8b0 := decide_eq_false c8
    clear c8
    have H' := Aside0.mk H
    clear H
    try go_wp2
    replace HB := am (below_drew1 HB.out)
    have p590 : 0 ≤ (x4_1 : Int) := of_decide_eq_true xA
    have q590 : x4_1 < (l0.length : Int) := of_decide_eq_true xA
    obtain ⟨ad590, e590, hx590_0, hx590_1, hx590_2⟩ := at_T93 HR0.out x4_1 p590 q590
    have hw590_2 := hx590_2
    have hw590_1 := hx590_1
    have hw590_0 := hx590_0
    cases e590
    replace hx590_0 := hc HB hx590_0
    replace hx590_1 := hc HB hx590_1
    replace hx590_2 := hc HB hx590_2
    replace p590 := eq_true p590
    replace q590 := eq_true q590
    have p592 : 0 ≤ (x4_1 : Int) := of_decide_eq_true xA
    have q592 : x4_1 < (l0.length : Int) := of_decide_eq_true xA
    obtain ⟨ad592, e592, hx592_0, hx592_1, hx592_2⟩ := at_T93 HR0.out x4_1 p592 q592
    have hw592_2 := hx592_2
    have hw592_1 := hx592_1
    have hw592_0 := hx592_0
    obtain rfl : ad590 = ad592 := (by injection e592)
    replace hx592_0 := hc HB hx592_0
    replace hx592_1 := hc HB hx592_1
    replace hx592_2 := hc HB hx592_2
    replace p592 := eq_true p592
    replace q592 := eq_true q592
    refine start_ (n := 33) (S := fun w' => w'.cell? (ad590.add ((x4_1).toNat * 3)) = some (.string ((rd_T93 l0 x4_1).f0)) ∧ w'.cell? ⟨(ad590.add ((x4_1).toNat * 3)).block, (ad590.add ((x4_1).toNat * 3)).off + 1, none⟩ = some (.int .i64 ((rd_T93 l0 x4_1).f1)) ∧ w'.cell? ⟨(ad590.add ((x4_1).toNat * 3)).block, (ad590.add ((x4_1).toNat * 3)).off + 2, none⟩ = some (.int .i64 ((rd_T93 l0 x4_1).f2)) ∧ w'.cell? (ad590.add ((x4_1).toNat * 3)) = some (.string ((rd_T93 l0 x4_1).f0)) ∧ w'.cell? ⟨(ad590.add ((x4_1).toNat * 3)).block, (ad590.add ((x4_1).toNat * 3)).off + 1, none⟩ = some (.int .i64 ((rd_T93 l0 x4_1).f1)) ∧ w'.cell? ⟨(ad590.add ((x4_1).toNat * 3)).block, (ad590.add ((x4_1).toNat * 3)).off + 2, none⟩ = some (.int .i64 ((rd_T93 l0 x4_1).f2))) (ds := []) (bm 33 0) (by kernel_rfl) rfl rfl ⟨(hd HB hw590_0), (hd HB hw590_1), (hd HB hw590_2), (hd HB hw592_0), (hd HB hw592_1), (hd HB hw592_2)⟩ (fun hHeld => ?_); refine with_tabW spec_l5Ok.tab5 spec_l5Ok.bits5 (fun HT_ HW_ => ?_)
    generalize wr.drew = w17 at HB hx590_0 hx590_1 hx590_2 hx592_0 hx592_1 hx592_2 hHeld ⊢
    refine pA 0 11 (bm 33 1) HT_ ?_
    refine pA 1 12 (bm 33 3) HT_ ?_
    refine pA 2 13 (bm 33 7) HT_ ?_
    refine tA 3 14 (bm 33 15) HT_ HW_ hHeld ?_
    refine oA 4 (some 15) (bm 33 31) HT_ fun K hK => ?_
    refine gA Tryz.func55 #[.agg #[.string ((rd_T93 l0 x4_1).f0), .int .i64 ((rd_T93 l0 x4_1).f1), .int .i64 ((rd_T93 l0 x4_1).f2)]] ?_
    with_reducible refine (spec_l5PeakOk.calls k1 ((rd_T93 l0 x4_1).f0) ((rd_T93 l0 x4_1).f1) ((rd_T93 l0 x4_1).f2) true _ A4.out).mono ?_
    rintro e w18 ⟨rfl, hb⟩
    refine ⟨_, rfl, ?_⟩
    replace HB := kH HB hb
    (try clear hb)
    (try clear hb2)
    (try clear hk)
    (try clear hi)
    refine hK.out _ _ ⟨(hd HB hw590_0), (hd HB hw590_1), (hd HB hw590_2), (hd HB hw592_0), (hd HB hw592_1), (hd HB hw592_2)⟩ (fun hHeld => ?_)
    clear hK K
    refine nA (some 15) ?_
    refine pA 5 16 (bm 33 63) HT_ ?_
    refine pA 6 17 (bm 33 127) HT_ ?_
    refine pA 7 18 (bm 33 255) HT_ ?_
    refine pA 8 19 (bm 33 511) HT_ ?_
    refine pA 9 20 (bm 33 1023) HT_ ?_
    refine pA 10 21 (bm 33 2047) HT_ ?_
    refine tA 11 22 (bm 33 4095) HT_ HW_ hHeld ?_
    refine oA 12 (some 23) (bm 33 8191) HT_ fun K hK => ?_
    refine gA Tryz.func79 #[.int .i64 ((rd_T93 l0 x4_1).f2)] ?_
    with_reducible refine (spec_l5Two.calls k1 ((rd_T93 l0 x4_1).f2) true _ A6.out).mono ?_
    rintro e w' ⟨rfl, ⟨nd, rfl⟩⟩
    refine ⟨_, rfl, ?_⟩
    refine hK.out _ _ ⟨(hd HB hw590_0), (hd HB hw590_1), (hd HB hw590_2), (hd HB hw592_0), (hd HB hw592_1), (hd HB hw592_2)⟩ (fun hHeld => ?_)
    clear hK K
    refine nA (some 23) ?_
    refine pA 13 24 (bm 33 16383) HT_ ?_
    refine pA 14 25 (bm 33 32767) HT_ ?_
    refine pA 15 26 (bm 33 65535) HT_ ?_
    refine pA 16 27 (bm 33 131071) HT_ ?_
    refine pA 17 28 (bm 33 262143) HT_ ?_
    refine pA 18 29 (bm 33 524287) HT_ ?_
    refine pU 19 30 (bm 33 1048575) HT_ ?_
    refine pU 20 31 (bm 33 2097151) HT_ ?_
    refine pU 21 32 (bm 33 4194303) HT_ ?_
    refine pU 22 33 (bm 33 8388607) HT_ ?_
    refine pU 23 34 (bm 33 16777215) HT_ ?_
    refine pU 24 35 (bm 33 33554431) HT_ ?_
    refine pU 25 36 (bm 33 67108863) HT_ ?_
    refine pU 26 37 (bm 33 134217727) HT_ ?_
    refine pU 27 38 (bm 33 268435455) HT_ ?_
    refine pU 28 39 (bm 33 536870911) HT_ ?_
    refine pU 29 40 (bm 33 1073741823) HT_ ?_
    refine pU 30 41 (bm 33 2147483647) HT_ ?_
    refine pA 31 42 (bm 33 4294967295) HT_ ?_
    refine pA 32 43 (bm 33 8589934591) HT_ ?_
    refine done_ (done_of HT_.out (by kernel_rfl)) ?_
    have p597 : 0 ≤ (x4_1 : Int) := of_decide_eq_true xA
    have q597 : x4_1 < (l0.length : Int) := of_decide_eq_true xA
    obtain ⟨ad597, e597, hx597_0, hx597_1, hx597_2⟩ := at_T93 HR0.out x4_1 p597 q597
    obtain rfl : ad590 = ad597 := (by injection e597)
    replace hx597_0 := hc HB hx597_0
    replace hx597_1 := hc HB hx597_1
    replace hx597_2 := hc HB hx597_2
    replace p597 := eq_true p597
    replace q597 := eq_true q597
    try go_wp2
    go_roundg k1
    case measure => have := HK1.out; omega
    case rel => exact ⟨(wrap64 (x3_1 + ((rd_T93 l0 x4_1).f2))), (wrap64 (x4_1 + 1)), xR, xR, H', ⟨xL HK1⟩, ⟨bl HB⟩⟩
   rw [if_pos c8] at H
   have c8b0 := decide_eq_true c8
   clear c8
   obtain ⟨ji9, hji9⟩ := je (wrap64 (x4_1 - 1))
   first | rw [hji9] at H | simp only [hji9] at H
   (try rw [hji9] at A4)
   (try rw [hji9] at A6)
   have hji9w : (IntKind.i64.wrap (x4_1 - 1)) = ji9 := (i64_w _).trans hji9
   replace H := ipd H
   obtain ⟨c10b0, H⟩ := H
   replace H := ipd H
   obtain ⟨c11b0, H⟩ := H
   try go_wp2
   replace HB := am (below_drew1 HB.out)
   have p590 : 0 ≤ (x4_1 : Int) := of_decide_eq_true xA
   have q590 : x4_1 < (l0.length : Int) := of_decide_eq_true xA
   obtain ⟨ad590, e590, hx590_0, hx590_1, hx590_2⟩ := at_T93 HR0.out x4_1 p590 q590
   have hw590_2 := hx590_2
   have hw590_1 := hx590_1
   have hw590_0 := hx590_0
   cases e590
   replace hx590_0 := hc HB hx590_0
   replace hx590_1 := hc HB hx590_1
   replace hx590_2 := hc HB hx590_2
   replace p590 := eq_true p590
   replace q590 := eq_true q590
   have p592 : 0 ≤ (x4_1 : Int) := of_decide_eq_true xA
   have q592 : x4_1 < (l0.length : Int) := of_decide_eq_true xA
   obtain ⟨ad592, e592, hx592_0, hx592_1, hx592_2⟩ := at_T93 HR0.out x4_1 p592 q592
   have hw592_2 := hx592_2
   have hw592_1 := hx592_1
   have hw592_0 := hx592_0
   obtain rfl : ad590 = ad592 := (by injection e592)
   replace hx592_0 := hc HB hx592_0
   replace hx592_1 := hc HB hx592_1
   replace hx592_2 := hc HB hx592_2
   replace p592 := eq_true p592
   replace q592 := eq_true q592
   have p594 : 0 ≤ (x4_1 : Int) := of_decide_eq_true xA
   have q594 : x4_1 < (l0.length : Int) := of_decide_eq_true xA
   obtain ⟨ad594, e594, hx594_0, hx594_1, hx594_2⟩ := at_T93 HR0.out x4_1 p594 q594
   have hw594_2 := hx594_2
   have hw594_1 := hx594_1
   have hw594_0 := hx594_0
   obtain rfl : ad590 = ad594 := (by injection e594)
   replace hx594_0 := hc HB hx594_0
   replace hx594_1 := hc HB hx594_1
   replace hx594_2 := hc HB hx594_2
   replace p594 := eq_true p594
   replace q594 := eq_true q594
   have p595 : 0 ≤ ((ji9) : Int) := of_decide_eq_true xA
   have q595 : (ji9) < (l0.length : Int) := of_decide_eq_true xA
   obtain ⟨ad595, e595, hx595_0, hx595_1, hx595_2⟩ := at_T93 HR0.out (ji9) p595 q595
   have hw595_2 := hx595_2
   have hw595_1 := hx595_1
   have hw595_0 := hx595_0
   obtain rfl : ad590 = ad595 := (by injection e595)
   replace hx595_0 := hc HB hx595_0
   replace hx595_1 := hc HB hx595_1
   replace hx595_2 := hc HB hx595_2
   replace p595 := eq_true p595
   replace q595 := eq_true q595
   refine start_ (n := 33) (S := fun w' => w'.cell? (ad590.add ((x4_1).toNat * 3)) = some (.string ((rd_T93 l0 x4_1).f0)) ∧ w'.cell? ⟨(ad590.add ((x4_1).toNat * 3)).block, (ad590.add ((x4_1).toNat * 3)).off + 1, none⟩ = some (.int .i64 ((rd_T93 l0 x4_1).f1)) ∧ w'.cell? ⟨(ad590.add ((x4_1).toNat * 3)).block, (ad590.add ((x4_1).toNat * 3)).off + 2, none⟩ = some (.int .i64 ((rd_T93 l0 x4_1).f2)) ∧ w'.cell? (ad590.add ((x4_1).toNat * 3)) = some (.string ((rd_T93 l0 x4_1).f0)) ∧ w'.cell? ⟨(ad590.add ((x4_1).toNat * 3)).block, (ad590.add ((x4_1).toNat * 3)).off + 1, none⟩ = some (.int .i64 ((rd_T93 l0 x4_1).f1)) ∧ w'.cell? ⟨(ad590.add ((x4_1).toNat * 3)).block, (ad590.add ((x4_1).toNat * 3)).off + 2, none⟩ = some (.int .i64 ((rd_T93 l0 x4_1).f2)) ∧ w'.cell? (ad590.add ((x4_1).toNat * 3)) = some (.string ((rd_T93 l0 x4_1).f0)) ∧ w'.cell? ⟨(ad590.add ((x4_1).toNat * 3)).block, (ad590.add ((x4_1).toNat * 3)).off + 1, none⟩ = some (.int .i64 ((rd_T93 l0 x4_1).f1)) ∧ w'.cell? ⟨(ad590.add ((x4_1).toNat * 3)).block, (ad590.add ((x4_1).toNat * 3)).off + 2, none⟩ = some (.int .i64 ((rd_T93 l0 x4_1).f2)) ∧ w'.cell? (ad590.add (((ji9)).toNat * 3)) = some (.string ((rd_T93 l0 (ji9)).f0)) ∧ w'.cell? ⟨(ad590.add (((ji9)).toNat * 3)).block, (ad590.add (((ji9)).toNat * 3)).off + 1, none⟩ = some (.int .i64 ((rd_T93 l0 (ji9)).f1)) ∧ w'.cell? ⟨(ad590.add (((ji9)).toNat * 3)).block, (ad590.add (((ji9)).toNat * 3)).off + 2, none⟩ = some (.int .i64 ((rd_T93 l0 (ji9)).f2))) (ds := []) (bm 33 0) (by kernel_rfl) rfl rfl ⟨(hd HB hw590_0), (hd HB hw590_1), (hd HB hw590_2), (hd HB hw592_0), (hd HB hw592_1), (hd HB hw592_2), (hd HB hw594_0), (hd HB hw594_1), (hd HB hw594_2), (hd HB hw595_0), (hd HB hw595_1), (hd HB hw595_2)⟩ (fun hHeld => ?_); refine with_tabW spec_l5Ok.tab5 spec_l5Ok.bits5 (fun HT_ HW_ => ?_)
   generalize wr.drew = w13 at HB hx590_0 hx590_1 hx590_2 hx592_0 hx592_1 hx592_2 hx594_0 hx594_1 hx594_2 hx595_0 hx595_1 hx595_2 hHeld ⊢
   refine pA 0 11 (bm 33 1) HT_ ?_
   refine pA 1 12 (bm 33 3) HT_ ?_
   refine pA 2 13 (bm 33 7) HT_ ?_
   refine tA 3 14 (bm 33 15) HT_ HW_ hHeld ?_
   refine oA 4 (some 15) (bm 33 31) HT_ fun K hK => ?_
   refine gA Tryz.func55 #[.agg #[.string ((rd_T93 l0 x4_1).f0), .int .i64 ((rd_T93 l0 x4_1).f1), .int .i64 ((rd_T93 l0 x4_1).f2)]] ?_
   with_reducible refine (spec_l5PeakOk.calls k1 ((rd_T93 l0 x4_1).f0) ((rd_T93 l0 x4_1).f1) ((rd_T93 l0 x4_1).f2) true _ A4.out).mono ?_
   rintro e w14 ⟨rfl, hb⟩
   refine ⟨_, rfl, ?_⟩
   replace HB := kH HB hb
   (try clear hb)
   (try clear hb2)
   (try clear hk)
   (try clear hi)
   refine hK.out _ _ ⟨(hd HB hw590_0), (hd HB hw590_1), (hd HB hw590_2), (hd HB hw592_0), (hd HB hw592_1), (hd HB hw592_2), (hd HB hw594_0), (hd HB hw594_1), (hd HB hw594_2), (hd HB hw595_0), (hd HB hw595_1), (hd HB hw595_2)⟩ (fun hHeld => ?_)
   clear hK K
   refine nA (some 15) ?_
   refine pA 5 16 (bm 33 63) HT_ ?_
   refine pA 6 17 (bm 33 127) HT_ ?_
   refine pA 7 18 (bm 33 255) HT_ ?_
   refine pA 8 19 (bm 33 511) HT_ ?_
   refine pA 9 20 (bm 33 1023) HT_ ?_
   refine pA 10 21 (bm 33 2047) HT_ ?_
   refine tA 11 22 (bm 33 4095) HT_ HW_ hHeld ?_
   refine oA 12 (some 23) (bm 33 8191) HT_ fun K hK => ?_
   refine gA Tryz.func79 #[.int .i64 ((rd_T93 l0 x4_1).f2)] ?_
   with_reducible refine (spec_l5Two.calls k1 ((rd_T93 l0 x4_1).f2) true _ A6.out).mono ?_
   rintro e w' ⟨rfl, ⟨nd, rfl⟩⟩
   refine ⟨_, rfl, ?_⟩
   refine hK.out _ _ ⟨(hd HB hw590_0), (hd HB hw590_1), (hd HB hw590_2), (hd HB hw592_0), (hd HB hw592_1), (hd HB hw592_2), (hd HB hw594_0), (hd HB hw594_1), (hd HB hw594_2), (hd HB hw595_0), (hd HB hw595_1), (hd HB hw595_2)⟩ (fun hHeld => ?_)
   clear hK K
   refine nA (some 23) ?_
   refine pA 13 24 (bm 33 16383) HT_ ?_
   refine pA 14 25 (bm 33 32767) HT_ ?_
   refine pA 15 26 (bm 33 65535) HT_ ?_
   refine pA 16 27 (bm 33 131071) HT_ ?_
   refine pA 17 28 (bm 33 262143) HT_ ?_
   refine pA 18 29 (bm 33 524287) HT_ ?_
   refine pA 19 30 (bm 33 1048575) HT_ ?_
   refine pA 20 31 (bm 33 2097151) HT_ ?_
   refine pA 21 32 (bm 33 4194303) HT_ ?_
   refine pA 22 33 (bm 33 8388607) HT_ ?_
   refine pA 24 35 (bm 33 25165823) HT_ ?_
   refine pA 25 36 (bm 33 58720255) HT_ ?_
   refine pA 26 37 (bm 33 125829119) HT_ ?_
   refine pA 27 38 (bm 33 260046847) HT_ ?_
   refine pA 28 39 (bm 33 528482303) HT_ ?_
   refine tA 23 34 (bm 33 536870911) HT_ HW_ hHeld ?_
   refine tA 29 40 (bm 33 1073741823) HT_ HW_ hHeld ?_
   refine pA 30 41 (bm 33 2147483647) HT_ ?_
   refine pA 31 42 (bm 33 4294967295) HT_ ?_
   refine pA 32 43 (bm 33 8589934591) HT_ ?_
   refine done_ (done_of HT_.out (by kernel_rfl)) ?_
   by_cases c12 : ((rd_T93 l0 x4_1).f2) ≥ ((rd_T93 l0 (ji9)).f2)
   ·rw [if_pos c12] at H
    have c12b0 := decide_eq_true c12
    try simp only [c12b0, Bool.not_true, Bool.not_false]
    clear c12
    obtain rfl := Option.some.inj H
    try go_wp2
    go_ret
    exact ⟨by first | rfl | (simp [errW_none, errW_some] <;> rfl) | (simp only [← hji9]; first | rfl | (simp [errW_none, errW_some] <;> rfl)) | (simp [*, errW_none, errW_some] <;> rfl), bl HB⟩
   rw [if_neg c12] at H
   have c12b0 := decide_eq_false c12
   try simp only [c12b0, Bool.not_true, Bool.not_false]
   clear c12
   have H' := Aside0.mk H
   clear H
   have p596 : 0 ≤ (x4_1 : Int) := of_decide_eq_true xA
   have q596 : x4_1 < (l0.length : Int) := of_decide_eq_true xA
   obtain ⟨ad596, e596, hx596_0, hx596_1, hx596_2⟩ := at_T93 HR0.out x4_1 p596 q596
   obtain rfl : ad590 = ad596 := (by injection e596)
   replace hx596_0 := hc HB hx596_0
   replace hx596_1 := hc HB hx596_1
   replace hx596_2 := hc HB hx596_2
   replace p596 := eq_true p596
   replace q596 := eq_true q596
   try go_wp2
   go_roundg k1
   case measure => have := HK1.out; omega
   case rel => exact ⟨(wrap64 (x3_1 + ((rd_T93 l0 x4_1).f2))), (wrap64 (x4_1 + 1)), xR, xR, H', ⟨xL HK1⟩, ⟨bl HB⟩⟩
mutual
def spec_l9Ok.l0 : Nat → Int → Int → ByteArray → ByteArray → Int → Int → Int → List (S93) → List (S93) → List (S48) → Option (Bool)
 | 0, _, _, _, _, _, _, _, _, _, _ => none
 | k + 1, x3, x599000, x599001, x599002, x599003, x599004, x599005, x599006, x599007, x599008 => if x3 < (x599008.length : Int) then (if 0 ≤ x3 then ((spec_l1IsSum.f k ((rd_T48 x599008 x3).f0)).bind fun t600 => (if t600 = true then (spec_l9Ok.l0 k (wrap64 (x3 + 1)) x599000 x599001 x599002 x599003 x599004 x599005 x599006 x599007 x599008) else (some false))) else (none)) else (spec_l9Ok.l1 k 0 x599000 x599001 x599002 x599003 x599004 x599005 x599006 x599007 x599008)
def spec_l9Ok.l1 : Nat → Int → Int → ByteArray → ByteArray → Int → Int → Int → List (S93) → List (S93) → List (S48) → Option (Bool)
 | 0, _, _, _, _, _, _, _, _, _, _ => none
 | k + 1, x4, x599000, x599001, x599002, x599003, x599004, x599005, x599006, x599007, x599008 => if x4 < (x599007.length : Int) then (if 0 ≤ x4 then ((spec_l5PeakOk.f k ((rd_T93 x599007 x4).f0) ((rd_T93 x599007 x4).f1) ((rd_T93 x599007 x4).f2)).bind fun t602 => (if t602 = true then (spec_l9Ok.l1 k (wrap64 (x4 + 1)) x599000 x599001 x599002 x599003 x599004 x599005 x599006 x599007 x599008) else (some false))) else (none)) else ((spec_l1In.f x599000 0 19).bind fun t603 => (if t603 = true then ((spec_l3Ok.f k x599001 x599002 x599003 x599004 x599005).bind fun t604 => (if t604 = true then ((spec_l5Ok.f k x599006).bind fun t605 => (if t605 = true then (if (x599008.length : Int) ≤ 8 then (some (decide ((x599007.length : Int) ≤ 8))) else (some false)) else (some false))) else (some false))) else (some false)))
end
def spec_l9Ok.f (k : Nat) (a0_0 : Int) (a0_1 : ByteArray) (a0_2 : ByteArray) (a0_3 : Int) (a0_4 : Int) (a0_5 : Int) (l0_6 : List (S93)) (l0_7 : List (S93)) (l0_8 : List (S48)) : Option (Bool) := spec_l9Ok.l0 k 0 a0_0 a0_1 a0_2 a0_3 a0_4 a0_5 l0_6 l0_7 l0_8
theorem spec_l9Ok.mono_l : ∀ k, (∀ y0 y1 y2 y3 y4 y5 y6 y7 y8 y9, LeO (spec_l9Ok.l0 k y0 y1 y2 y3 y4 y5 y6 y7 y8 y9) (spec_l9Ok.l0 (k + 1) y0 y1 y2 y3 y4 y5 y6 y7 y8 y9)) ∧ (∀ y0 y1 y2 y3 y4 y5 y6 y7 y8 y9, LeO (spec_l9Ok.l1 k y0 y1 y2 y3 y4 y5 y6 y7 y8 y9) (spec_l9Ok.l1 (k + 1) y0 y1 y2 y3 y4 y5 y6 y7 y8 y9))
 | 0 => ⟨fun _ _ _ _ _ _ _ _ _ _ r h => by simp [spec_l9Ok.l0] at h, fun _ _ _ _ _ _ _ _ _ _ r h => by simp [spec_l9Ok.l1] at h⟩
 | k + 1 => by
  obtain ⟨ih0, ih1⟩ := spec_l9Ok.mono_l k
  refine ⟨?_, ?_⟩
  ·intro y0 y1 y2 y3 y4 y5 y6 y7 y8 y9
   unfold spec_l9Ok.l0
   exact mo6 ih0 ih1 spec_l1IsSum.mono spec_l3Ok.mono spec_l5Ok.mono spec_l5PeakOk.mono
  ·intro y0 y1 y2 y3 y4 y5 y6 y7 y8 y9
   unfold spec_l9Ok.l1
   exact mo6 ih0 ih1 spec_l1IsSum.mono spec_l3Ok.mono spec_l5Ok.mono spec_l5PeakOk.mono
theorem spec_l9Ok.mono : ∀ a0 a1 a2 a3 a4 a5 a6 a7 a8 k, LeO (spec_l9Ok.f k a0 a1 a2 a3 a4 a5 a6 a7 a8) (spec_l9Ok.f (k + 1) a0 a1 a2 a3 a4 a5 a6 a7 a8) := by
 intro a0 a1 a2 a3 a4 a5 a6 a7 a8 k
 obtain ⟨ih0, ih1⟩ := spec_l9Ok.mono_l k
 unfold spec_l9Ok.f
 exact mo6 ih0 ih1 spec_l1IsSum.mono spec_l3Ok.mono spec_l5Ok.mono spec_l5PeakOk.mono
theorem spec_l9Ok.calls (k : Nat) (a0_0 : Int) (a0_1 : ByteArray) (a0_2 : ByteArray) (a0_3 : Int) (a0_4 : Int) (a0_5 : Int) (A0_6 : Option Addr) (c0_6 : Nat) (l0_6 : List (S93)) (A0_7 : Option Addr) (c0_7 : Nat) (l0_7 : List (S93)) (A0_8 : Option Addr) (c0_8 : Nat) (l0_8 : List (S48)) (r : Bool) (w : World) (hr0_6 : Kd.C k93 w A0_6 l0_6.length l0_6) (hc0_6 : l0_6.length ≤ c0_6) (hr0_7 : Kd.C k93 w A0_7 l0_7.length l0_7) (hc0_7 : l0_7.length ≤ c0_7) (hr0_8 : Kd.C k48 w A0_8 l0_8.length l0_8) (hc0_8 : l0_8.length ≤ c0_8) (h : spec_l9Ok.f k a0_0 a0_1 a0_2 a0_3 a0_4 a0_5 l0_6 l0_7 l0_8 = some r) :
  Calls Tryz.prog 22 #[.agg #[.int .i64 a0_0, .string a0_1, .string a0_2, .int .i64 a0_3, .int .i64 a0_4, .int .i64 a0_5, .slice A0_6 l0_6.length c0_6, .slice A0_7 l0_7.length c0_7, .slice A0_8 l0_8.length c0_8]] w fun e w' => e = .returned (.bool r) ∧ Below w.heap.size w w' := by
 have hu30 := Tryz.underlying30
 have hu93 := Tryz.underlying93
 have hu24 := Tryz.underlying24
 have HR0_6 := Aside0.mk hr0_6
 have HC0_6 := Aside0.mk hc0_6
 clear hr0_6 hc0_6
 have HR0_7 := Aside0.mk hr0_7
 have HC0_7 := Aside0.mk hc0_7
 clear hr0_7 hc0_7
 have HR0_8 := Aside0.mk hr0_8
 have HC0_8 := Aside0.mk hc0_8
 clear hr0_8 hc0_8
 have HB := Aside0.mk (Below.refl w.heap.size w)
 have H : (spec_l9Ok.l0 k 0 a0_0 a0_1 a0_2 a0_3 a0_4 a0_5 l0_6 l0_7 l0_8) = some r := h
 clear h
 have H' := Aside0.mk H
 clear H
 go_enter Tryz.func22, Tryz.ntmps22
 go_wp2_with ((with_reducible refine gate_dst (N := 1) rfl ?_); (try (refine gate_guard (by rfl) ?_; dsimp only)); refine box_event ?hg (N := 1) ?hd (cs := #[.int .i64 a0_0, .string a0_1, .string a0_2, .int .i64 a0_3, .int .i64 a0_4, .int .i64 a0_5, .slice A0_6 l0_6.length c0_6, .slice A0_7 l0_7.length c0_7, .slice A0_8 l0_8.length c0_8]) (t := 30) ?hr ?_; (case hd => rfl); (case hg => rfl); (case hr => first | (go_simp; done) | (go_simp; rfl)); intro gb598 hg w2 hbox hb; have BK598 := am (hbox); have GW598 := zB hg HB; have GE598 := zB hg HB; replace HB := kH HB hb; clear hb hbox hg)
 go_loopg [3] k (fun kq v3 w' => ∃ (x3_1 : Int), v3 = .int .i64 x3_1 ∧ Aside0 (spec_l9Ok.l0 kq x3_1 a0_0 a0_1 a0_2 a0_3 a0_4 a0_5 l0_6 l0_7 l0_8 = some r) ∧ Aside0 (kq ≤ k) ∧ Aside0 (w'.heap[gb598]? = some (.cells #[.int .i64 a0_0, .string a0_1, .string a0_2, .int .i64 a0_3, .int .i64 a0_4, .int .i64 a0_5, (.slice A0_6 l0_6.length c0_6), (.slice A0_7 l0_7.length c0_7), (.slice A0_8 l0_8.length c0_8)] 30 (0, 0))) ∧ Aside0 (Below w.heap.size w w'))
 case atStart => exact ⟨(0), xR, H', ⟨Nat.le_refl _⟩, ⟨kb BK598⟩, ⟨xB HB⟩⟩
 case round =>
  clear H'
  try clear c2
  try clear p2
  obtain ⟨x3_1, rfl, HA, HK1, BK598, HB⟩ := hrel
  cases gk with
  | zero => exact absurd HA.out (by simp [spec_l9Ok.l0])
  | succ k1 =>
   have H := HA.out
   clear HA
   simp only [spec_l9Ok.l0] at H
   by_cases c3 : x3_1 < (l0_8.length : Int)
   ·rw [if_pos c3] at H
    have c3b0 := decide_eq_true c3
    clear c3
    replace H := ipd H
    obtain ⟨c4b0, H⟩ := H
    replace H := oa H
    obtain ⟨t600, A5, H⟩ := H
    have hz7 := bc9 BK598
    have p599 : 0 ≤ (x3_1 : Int) := of_decide_eq_true xA
    have q599 : x3_1 < (l0_8.length : Int) := of_decide_eq_true xA
    obtain ⟨ad599, e599, hx599_0, hx599_1⟩ := at_T48 HR0_8.out x3_1 p599 q599
    cases e599
    replace hx599_0 := hc HB hx599_0
    replace hx599_1 := hc HB hx599_1
    replace p599 := eq_true p599
    replace q599 := eq_true q599
    go_upto_if 19 with ((with_reducible refine gg ?_); refine gL 18 Tryz.func54 #[.string ((rd_T48 l0_8 x3_1).f0)] ?_; (with_reducible refine (spec_l1IsSum.calls k1 ((rd_T48 l0_8 x3_1).f0) t600 _ A5.out).mono ?_); rintro e w' ⟨rfl, ⟨nd, rfl⟩⟩; refine ⟨_, rfl, ?_⟩)
    by_cases c6 : t600 = true
    rotate_left
    ·replace c6 := Bool.eq_false_iff.mpr c6
     subst c6
     try simp only [Bool.not_true, Bool.not_false]
     rw [if_neg (show ¬ (false = true) by decide)] at H
     obtain rfl := Option.some.inj H
     go_wp2
     go_ret
     exact ⟨xE, xB HB⟩
    subst c6
    try simp only [Bool.not_true, Bool.not_false]
    rw [if_pos rfl] at H
    have H' := Aside0.mk H
    clear H
    go_wp2
    go_roundg k1
    case measure => have := HK1.out; omega
    case rel => exact ⟨(wrap64 (x3_1 + 1)), xR, H', ⟨xL HK1⟩, ⟨kb BK598⟩, ⟨xB HB⟩⟩
   rw [if_neg c3] at H
   have c3b0 := decide_eq_false c3
   clear c3
   have H' := Aside0.mk H
   clear H
   have hz9 := bc9 BK598
   go_wp2
   go_loopg [4] k1 (fun kq v4 w' => ∃ (x4_2 : Int), v4 = .int .i64 x4_2 ∧ Aside0 (spec_l9Ok.l1 kq x4_2 a0_0 a0_1 a0_2 a0_3 a0_4 a0_5 l0_6 l0_7 l0_8 = some r) ∧ Aside0 (kq ≤ k1) ∧ Aside0 (w'.heap[gb598]? = some (.cells #[.int .i64 a0_0, .string a0_1, .string a0_2, .int .i64 a0_3, .int .i64 a0_4, .int .i64 a0_5, (.slice A0_6 l0_6.length c0_6), (.slice A0_7 l0_7.length c0_7), (.slice A0_8 l0_8.length c0_8)] 30 (0, 0))) ∧ Aside0 (Below w.heap.size w w'))
   case atStart => exact ⟨(0), xR, H', ⟨Nat.le_refl _⟩, ⟨kb BK598⟩, ⟨xB HB⟩⟩
   case round =>
    clear H'
    try clear c2
    try clear p2
    try clear c3
    try clear c3b0
    try clear c4
    try clear c4b0
    try clear c5
    try clear p5
    try clear q5
    try clear hx5
    try clear c6
    try clear p6
    try clear hz7
    try clear hz8
    try clear hz9
    try clear hx599_0
    try clear hx599_1
    try clear p2
    try clear p599
    try clear q599
    obtain ⟨x4_2, rfl, HA, HK2, BK598, HB⟩ := hrel
    cases gk with
    | zero => exact absurd HA.out (by simp [spec_l9Ok.l1])
    | succ k2 =>
     have H := HA.out
     clear HA
     simp only [spec_l9Ok.l1] at H
     by_cases c10 : x4_2 < (l0_7.length : Int)
     ·rw [if_pos c10] at H
      have c10b0 := decide_eq_true c10
      clear c10
      replace H := ipd H
      obtain ⟨c11b0, H⟩ := H
      replace H := oa H
      obtain ⟨t602, A12, H⟩ := H
      have hz14 := bc9 BK598
      have p601 : 0 ≤ (x4_2 : Int) := of_decide_eq_true xA
      have q601 : x4_2 < (l0_7.length : Int) := of_decide_eq_true xA
      obtain ⟨ad601, e601, hx601_0, hx601_1, hx601_2⟩ := at_T93 HR0_7.out x4_2 p601 q601
      cases e601
      replace hx601_0 := hc HB hx601_0
      replace hx601_1 := hc HB hx601_1
      replace hx601_2 := hc HB hx601_2
      replace p601 := eq_true p601
      replace q601 := eq_true q601
      go_upto_if 35 with ((with_reducible refine gg ?_); refine gL 34 Tryz.func55 #[.agg #[.string ((rd_T93 l0_7 x4_2).f0), .int .i64 ((rd_T93 l0_7 x4_2).f1), .int .i64 ((rd_T93 l0_7 x4_2).f2)]] ?_; (with_reducible refine (spec_l5PeakOk.calls k2 ((rd_T93 l0_7 x4_2).f0) ((rd_T93 l0_7 x4_2).f1) ((rd_T93 l0_7 x4_2).f2) t602 _ A12.out).mono ?_); rintro e w15 ⟨rfl, hb⟩; refine ⟨_, rfl, ?_⟩; replace BK598 := kP _ BK598 hb; replace HB := kH HB hb; (try clear hb))
      by_cases c13 : t602 = true
      rotate_left
      ·replace c13 := Bool.eq_false_iff.mpr c13
       subst c13
       try simp only [Bool.not_true, Bool.not_false]
       rw [if_neg (show ¬ (false = true) by decide)] at H
       obtain rfl := Option.some.inj H
       go_wp2
       go_ret
       exact ⟨xE, xB HB⟩
      subst c13
      try simp only [Bool.not_true, Bool.not_false]
      rw [if_pos rfl] at H
      have H' := Aside0.mk H
      clear H
      go_wp2
      go_roundg k2
      case measure => have := HK1.out; have := HK2.out; omega
      case rel => exact ⟨(wrap64 (x4_2 + 1)), xR, H', ⟨by have := HK1.out; have := HK2.out; omega⟩, ⟨kb BK598⟩, ⟨xB HB⟩⟩
     rw [if_neg c10] at H
     have c10b0 := decide_eq_false c10
     clear c10
     replace H := oa H
     obtain ⟨t603, A18, H⟩ := H
     by_cases c19 : t603 = true
     rotate_left
     ·replace c19 := Bool.eq_false_iff.mpr c19
      subst c19
      rw [if_neg (show ¬ (false = true) by decide)] at H
      obtain rfl := Option.some.inj H
      have hz41 := bc9 BK598
      go_wp2_with ((with_reducible refine gg ?_); refine gL 38 Tryz.func56 #[.int .i64 a0_0, .int .i64 0, .int .i64 19] ?_; (with_reducible refine (spec_l1In.calls a0_0 0 19 false _ A18.out).mono ?_); rintro e w' ⟨rfl, ⟨nd, rfl⟩⟩; refine ⟨_, rfl, ?_⟩)
      go_ret
      exact ⟨xE, xB HB⟩
     subst c19
     rw [if_pos rfl] at H
     replace H := oa H
     obtain ⟨t604, A20, H⟩ := H
     by_cases c21 : t604 = true
     rotate_left
     ·replace c21 := Bool.eq_false_iff.mpr c21
      subst c21
      rw [if_neg (show ¬ (false = true) by decide)] at H
      obtain rfl := Option.some.inj H
      have hz39 := bc9 BK598
      go_wp2_with (first | ((with_reducible refine gg ?_); refine gL 38 Tryz.func56 #[.int .i64 a0_0, .int .i64 0, .int .i64 19] ?_; (with_reducible refine (spec_l1In.calls a0_0 0 19 true _ A18.out).mono ?_); rintro e w' ⟨rfl, ⟨nd, rfl⟩⟩; refine ⟨_, rfl, ?_⟩) | (go_at_call 57; (with_reducible refine (spec_l3Ok.calls k2 a0_1 a0_2 a0_3 a0_4 a0_5 false _ A20.out).mono ?_); rintro e w40 ⟨rfl, hb⟩; replace BK598 := kP _ BK598 hb; replace HB := kH HB hb; (try clear hb)))
      go_ret
      exact ⟨xE, xB HB⟩
     subst c21
     rw [if_pos rfl] at H
     replace H := oa H
     obtain ⟨t605, A22, H⟩ := H
     by_cases c23 : t605 = true
     rotate_left
     ·replace c23 := Bool.eq_false_iff.mpr c23
      subst c23
      rw [if_neg (show ¬ (false = true) by decide)] at H
      obtain rfl := Option.some.inj H
      have hz35 := bc9 BK598
      go_wp2_with (first | ((with_reducible refine gg ?_); refine gL 38 Tryz.func56 #[.int .i64 a0_0, .int .i64 0, .int .i64 19] ?_; (with_reducible refine (spec_l1In.calls a0_0 0 19 true _ A18.out).mono ?_); rintro e w' ⟨rfl, ⟨nd, rfl⟩⟩; refine ⟨_, rfl, ?_⟩) | (go_at_call 57; (with_reducible refine (spec_l3Ok.calls k2 a0_1 a0_2 a0_3 a0_4 a0_5 true _ A20.out).mono ?_); rintro e w36 ⟨rfl, hb⟩; replace BK598 := kP _ BK598 hb; replace HB := kH HB hb; (try clear hb); have hz37 := bc9 BK598) | (go_at_call 58; (with_reducible refine (spec_l5Ok.calls k2 _ _ l0_6 false _ ?side1 ?side2 A22.out).mono ?_); (case side1 => exact cb HR0_6 HB); (case side2 => exact HC0_6.out); rintro e w38 ⟨rfl, hb⟩; replace BK598 := kP _ BK598 hb; replace HB := kH HB hb; (try clear hb)))
      go_ret
      exact ⟨xE, xB HB⟩
     subst c23
     rw [if_pos rfl] at H
     by_cases c24 : (l0_8.length : Int) ≤ 8
     ·rw [if_pos c24] at H
      have c24b0 := decide_eq_true c24
      have c24b1 : decide (l0_8.length ≤ 8) = true := decide_eq_true (by omega)
      clear c24
      obtain rfl := Option.some.inj H
      have hz25 := bc9 BK598
      go_wp2_with (first | ((with_reducible refine gg ?_); refine gL 38 Tryz.func56 #[.int .i64 a0_0, .int .i64 0, .int .i64 19] ?_; (with_reducible refine (spec_l1In.calls a0_0 0 19 true _ A18.out).mono ?_); rintro e w' ⟨rfl, ⟨nd, rfl⟩⟩; refine ⟨_, rfl, ?_⟩) | (go_at_call 57; (with_reducible refine (spec_l3Ok.calls k2 a0_1 a0_2 a0_3 a0_4 a0_5 true _ A20.out).mono ?_); rintro e w26 ⟨rfl, hb⟩; replace BK598 := kP _ BK598 hb; replace HB := kH HB hb; (try clear hb); have hz27 := bc9 BK598) | (go_at_call 58; (with_reducible refine (spec_l5Ok.calls k2 _ _ l0_6 true _ ?side1 ?side2 A22.out).mono ?_); (case side1 => exact cb HR0_6 HB); (case side2 => exact HC0_6.out); rintro e w28 ⟨rfl, hb⟩; replace BK598 := kP _ BK598 hb; replace HB := kH HB hb; (try clear hb); have hz29 := bc9 BK598))
      go_ret
      exact ⟨xE, xB HB⟩
     rw [if_neg c24] at H
     have c24b0 := decide_eq_false c24
     have c24b1 : decide (l0_8.length ≤ 8) = false := decide_eq_false (by omega)
     clear c24
     obtain rfl := Option.some.inj H
     have hz30 := bc9 BK598
     go_wp2_with (first | ((with_reducible refine gg ?_); refine gL 38 Tryz.func56 #[.int .i64 a0_0, .int .i64 0, .int .i64 19] ?_; (with_reducible refine (spec_l1In.calls a0_0 0 19 true _ A18.out).mono ?_); rintro e w' ⟨rfl, ⟨nd, rfl⟩⟩; refine ⟨_, rfl, ?_⟩) | (go_at_call 57; (with_reducible refine (spec_l3Ok.calls k2 a0_1 a0_2 a0_3 a0_4 a0_5 true _ A20.out).mono ?_); rintro e w31 ⟨rfl, hb⟩; replace BK598 := kP _ BK598 hb; replace HB := kH HB hb; (try clear hb); have hz32 := bc9 BK598) | (go_at_call 58; (with_reducible refine (spec_l5Ok.calls k2 _ _ l0_6 true _ ?side1 ?side2 A22.out).mono ?_); (case side1 => exact cb HR0_6 HB); (case side2 => exact HC0_6.out); rintro e w33 ⟨rfl, hb⟩; replace BK598 := kP _ BK598 hb; replace HB := kH HB hb; (try clear hb); have hz34 := bc9 BK598))
     go_ret
     exact ⟨xE, xB HB⟩

end Go.Proofs.YtgjljbaadglpnaaGreatDoor.PFnPaidPut
