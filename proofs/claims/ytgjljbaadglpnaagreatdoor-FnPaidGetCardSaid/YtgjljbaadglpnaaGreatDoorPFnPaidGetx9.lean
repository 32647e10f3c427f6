/- Functions of the program and what each answers: the kit's print, shortened (wip/press2.py). -/
import Derived.Test.YtgjljbaadglpnaaGreatDoorPFnPaidGetx0
import Derived.Test.YtgjljbaadglpnaaGreatDoorPFnPaidGetx4
import Derived.Test.YtgjljbaadglpnaaGreatDoorPFnPaidGetx6
namespace Go.Proofs.YtgjljbaadglpnaaGreatDoor.PFnPaidGet
open Go.Proofs.YtgjljbaadglpnaaGreatDoor.Sq Go.RowKit Go.Proofs.YtgjljbaadglpnaaGreatDoorW.PrintWords Go.Proofs.YtgjljbaadglpnaaGreatDoorW.PrintLast Go.Proofs.YtgjljbaadglpnaaGreatDoorW.PrintMore
open Kd
set_option linter.unusedVariables false
set_option linter.unusedSimpArgs false
set_option maxHeartbeats 64000000
set_option maxRecDepth 100000
-- NOT PRINTED: function 99 (strconv_small)
-- NOT PRINTED: function 112 (strconv_log10Pow2)
-- NOT PRINTED: function 113 (bits_Len64)
-- NOT PRINTED: function 114 (strconv_bool2_int)
-- NOT PRINTED: function 100 (strconv_numDigits)
-- NOT PRINTED: function 101 (strconv_formatBase10)
-- NOT PRINTED: function 115 (strconv_isPowerOfTwo)
-- NOT PRINTED: function 121 (bits_TrailingZeros32)
-- NOT PRINTED: function 122 (bits_TrailingZeros64)
-- NOT PRINTED: function 116 (bits_TrailingZeros)
-- NOT PRINTED: function 102 (strconv_formatBits)
-- NOT PRINTED: function 78 (strconv_FormatInt)
-- NOT PRINTED: function 53 (strconv_Itoa_53)
def strconv_Itoa_19.f (a0 : Int) : Option (ByteArray) := if -9223372036854775808 ≤ a0 ∧ a0 ≤ 9223372036854775807 then some (Sh.itoaS a0) else none
theorem strconv_Itoa_19.calls (a0 : Int) (r : ByteArray) (w : World) (h : strconv_Itoa_19.f a0 = some r) (PQT_ : Aside0 (Sh.HasT w)) :
  Calls Tryz.prog 19 #[.int .i64 a0] w fun e w' => e = .returned (.string r) ∧ Below w.heap.size w w' := by
 unfold strconv_Itoa_19.f at h
 by_cases hm : -9223372036854775808 ≤ a0 ∧ a0 ≤ 9223372036854775807
 rotate_left
 ·rw [if_neg hm] at h
  exact absurd h (by simp)
 rw [if_pos hm] at h
 obtain rfl := Option.some.inj h
 exact Sh.itoa_calls a0 hm.1 hm.2 w PQT_.out
def impl_HeadPut.f (k : Nat) (a0_0 : ByteArray) (a0_1 : ByteArray) (a0_2 : Int) (a0_3 : Int) (a0_4 : Int) : Option (ByteArray) := (impl_headOk.f k a0_0 a0_1 a0_2 a0_3 a0_4).bind fun t128 => (if t128 = true then (if a0_0.size + 1 ≤ 9223372036854775807 then (if (a0_0 ++ (⟨#[32]⟩ : ByteArray)).size + a0_1.size ≤ 9223372036854775807 then (if ((a0_0 ++ (⟨#[32]⟩ : ByteArray)) ++ a0_1).size + 1 ≤ 9223372036854775807 then ((strconv_Itoa_19.f a0_2).bind fun t129 => (if (((a0_0 ++ (⟨#[32]⟩ : ByteArray)) ++ a0_1) ++ (⟨#[32]⟩ : ByteArray)).size + t129.size ≤ 9223372036854775807 then (if ((((a0_0 ++ (⟨#[32]⟩ : ByteArray)) ++ a0_1) ++ (⟨#[32]⟩ : ByteArray)) ++ t129).size + 1 ≤ 9223372036854775807 then ((strconv_Itoa_19.f a0_3).bind fun t130 => (if (((((a0_0 ++ (⟨#[32]⟩ : ByteArray)) ++ a0_1) ++ (⟨#[32]⟩ : ByteArray)) ++ t129) ++ (⟨#[32]⟩ : ByteArray)).size + t130.size ≤ 9223372036854775807 then (if ((((((a0_0 ++ (⟨#[32]⟩ : ByteArray)) ++ a0_1) ++ (⟨#[32]⟩ : ByteArray)) ++ t129) ++ (⟨#[32]⟩ : ByteArray)) ++ t130).size + 1 ≤ 9223372036854775807 then ((strconv_Itoa_19.f a0_4).bind fun t131 => (if (((((((a0_0 ++ (⟨#[32]⟩ : ByteArray)) ++ a0_1) ++ (⟨#[32]⟩ : ByteArray)) ++ t129) ++ (⟨#[32]⟩ : ByteArray)) ++ t130) ++ (⟨#[32]⟩ : ByteArray)).size + t131.size ≤ 9223372036854775807 then (some ((((((((a0_0 ++ (⟨#[32]⟩ : ByteArray)) ++ a0_1) ++ (⟨#[32]⟩ : ByteArray)) ++ t129) ++ (⟨#[32]⟩ : ByteArray)) ++ t130) ++ (⟨#[32]⟩ : ByteArray)) ++ t131)) else (none))) else (none)) else (none))) else (none)) else (none))) else (none)) else (none)) else (none)) else (some (⟨#[]⟩ : ByteArray)))
def impl_HeadPut.T3 : Bool × List (List Nat × List Nat) := (true, [([], []), ([0], [0]), ([1], [1]), ([], []), ([3], [3]), ([2, 4], [2, 4]), ([5], [5]), ([], []), ([7], [7]), ([8], [8]), ([6, 9], [6, 9]), ([10], [10]), ([], []), ([12], [12]), ([13, 9], [13]), ([11, 14], [11, 14]), ([15], [15]), ([], []), ([17], [17]), ([18, 14], [18]), ([16, 19], [16, 19]), ([20, 19, 0, 1, 2, 3, 4, 5, 6, 7, 8, 9, 10, 11, 12, 13, 14, 15, 16, 17, 18, 19, 20], [20])])
def impl_HeadPut.B3 : List Nat := [0, 1, 3, 0, 8, 31, 63, 0, 128, 384, 1023, 2047, 0, 4096, 13184, 32767, 65535, 0, 131072, 422784, 1048575, 2097151]
theorem impl_HeadPut.tab3 : rtab .any (opsOf Tryz.f20 3) = impl_HeadPut.T3 := by kernel_rfl
theorem impl_HeadPut.bits3 : waitsOk impl_HeadPut.T3.2 impl_HeadPut.B3 = true := by kernel_rfl
theorem impl_HeadPut.calls (k : Nat) (a0_0 : ByteArray) (a0_1 : ByteArray) (a0_2 : Int) (a0_3 : Int) (a0_4 : Int) (r : ByteArray) (w : World) (h : impl_HeadPut.f k a0_0 a0_1 a0_2 a0_3 a0_4 = some r) (PQT_ : Aside0 (Sh.HasT w)) :
  Calls Tryz.prog 20 #[.agg #[.string a0_0, .string a0_1, .int .i64 a0_2, .int .i64 a0_3, .int .i64 a0_4]] w fun e w' => e = .returned (.string r) ∧ Below w.heap.size w w' := by
 have hu24 := Tryz.underlying24
 have HB := am (Below.refl w.heap.size w)
 have H : ((impl_headOk.f k a0_0 a0_1 a0_2 a0_3 a0_4).bind fun t128 => (if t128 = true then (if a0_0.size + 1 ≤ 9223372036854775807 then (if (a0_0 ++ (⟨#[32]⟩ : ByteArray)).size + a0_1.size ≤ 9223372036854775807 then (if ((a0_0 ++ (⟨#[32]⟩ : ByteArray)) ++ a0_1).size + 1 ≤ 9223372036854775807 then ((strconv_Itoa_19.f a0_2).bind fun t129 => (if (((a0_0 ++ (⟨#[32]⟩ : ByteArray)) ++ a0_1) ++ (⟨#[32]⟩ : ByteArray)).size + t129.size ≤ 9223372036854775807 then (if ((((a0_0 ++ (⟨#[32]⟩ : ByteArray)) ++ a0_1) ++ (⟨#[32]⟩ : ByteArray)) ++ t129).size + 1 ≤ 9223372036854775807 then ((strconv_Itoa_19.f a0_3).bind fun t130 => (if (((((a0_0 ++ (⟨#[32]⟩ : ByteArray)) ++ a0_1) ++ (⟨#[32]⟩ : ByteArray)) ++ t129) ++ (⟨#[32]⟩ : ByteArray)).size + t130.size ≤ 9223372036854775807 then (if ((((((a0_0 ++ (⟨#[32]⟩ : ByteArray)) ++ a0_1) ++ (⟨#[32]⟩ : ByteArray)) ++ t129) ++ (⟨#[32]⟩ : ByteArray)) ++ t130).size + 1 ≤ 9223372036854775807 then ((strconv_Itoa_19.f a0_4).bind fun t131 => (if (((((((a0_0 ++ (⟨#[32]⟩ : ByteArray)) ++ a0_1) ++ (⟨#[32]⟩ : ByteArray)) ++ t129) ++ (⟨#[32]⟩ : ByteArray)) ++ t130) ++ (⟨#[32]⟩ : ByteArray)).size + t131.size ≤ 9223372036854775807 then (some ((((((((a0_0 ++ (⟨#[32]⟩ : ByteArray)) ++ a0_1) ++ (⟨#[32]⟩ : ByteArray)) ++ t129) ++ (⟨#[32]⟩ : ByteArray)) ++ t130) ++ (⟨#[32]⟩ : ByteArray)) ++ t131)) else (none))) else (none)) else (none))) else (none)) else (none))) else (none)) else (none)) else (none)) else (some (⟨#[]⟩ : ByteArray)))) = some r := h
 clear h
 replace ⟨t128, A2, H⟩ := oa H
 go_enter Tryz.func20, Tryz.ntmps20
 go_upto_if 5 with ((with_reducible refine gg ?_); first | (refine bE 1 #[.string a0_0, .string a0_1, .int .i64 a0_2, .int .i64 a0_3, .int .i64 a0_4] 24 ?_; intro gb127 hg w15 hbox hb; have BK127 := am (hbox); have GW127 := zB hg HB; have GE127 := zB hg HB; replace HB := kH HB hb; clear hb hbox hg; have hz16 := bc5 BK127) | (refine store_event (t := 24) (p := 1) (v := ?vo_) (w1 := ?wo_) ?hg ?ho ?hn ?hr ?_; (case ho => rfl); (case hg => rfl); (case hn => rfl); (case hr => go_simp; rfl); intro wq_ hW_; have BQ_ := am hW_; have hzq_ := am hW_; replace hW_ := am hW_) | (refine gL 4 Tryz.func49 #[.agg #[.string a0_0, .string a0_1, .int .i64 a0_2, .int .i64 a0_3, .int .i64 a0_4]] ?_; (try (clear hzq_ BQ_; obtain ⟨hW_⟩ := hW_; subst hW_)); (with_reducible refine (impl_headOk.calls k a0_0 a0_1 a0_2 a0_3 a0_4 t128 _ A2.out).mono ?_); rintro e w17 ⟨rfl, hb⟩; refine ⟨_, rfl, ?_⟩; replace BK127 := kP _ BK127 hb; replace HB := kH HB hb; (try clear hb)))
 by_cases c3 : t128 = true
 rotate_left
 ·replace c3 := bF c3
  subst c3
  try simp only [Bool.not_true, Bool.not_false]
  rw [if_neg nF] at H
  obtain rfl := oI H
  go_wp2
  (try (clear hzq_ BQ_; obtain ⟨hW_⟩ := hW_; subst hW_))
  go_ret
  exact ⟨xE, xB HB⟩
 subst c3
 try simp only [Bool.not_true, Bool.not_false]
 rw [if_pos rfl] at H
 replace ⟨c4, H⟩ := ip H
 have c4b0 := eq_true c4
 have c4b1 := dt c4
 have c4b2 := nf c4
 replace ⟨c5, H⟩ := ip H
 have c5b0 := eq_true c5
 have c5b1 := dt c5
 have c5b2 := nf c5
 try (have c5b3 := c5b2; simp only [ByteArray.size_append, show (⟨#[32]⟩ : ByteArray).size = 1 from rfl] at c5b3)
 replace ⟨c6, H⟩ := ip H
 have c6b0 := eq_true c6
 have c6b1 := dt c6
 have c6b2 := nf c6
 try (have c6b3 := c6b2; simp only [ByteArray.size_append, show (⟨#[32]⟩ : ByteArray).size = 1 from rfl] at c6b3)
 replace ⟨t129, A7, H⟩ := oa H
 replace ⟨c8, H⟩ := ip H
 have c8b0 := eq_true c8
 have c8b1 := dt c8
 have c8b2 := nf c8
 try (have c8b3 := c8b2; simp only [ByteArray.size_append, show (⟨#[32]⟩ : ByteArray).size = 1 from rfl] at c8b3)
 replace ⟨c9, H⟩ := ip H
 have c9b0 := eq_true c9
 have c9b1 := dt c9
 have c9b2 := nf c9
 try (have c9b3 := c9b2; simp only [ByteArray.size_append, show (⟨#[32]⟩ : ByteArray).size = 1 from rfl] at c9b3)
 replace ⟨t130, A10, H⟩ := oa H
 replace ⟨c11, H⟩ := ip H
 have c11b0 := eq_true c11
 have c11b1 := dt c11
 have c11b2 := nf c11
 try (have c11b3 := c11b2; simp only [ByteArray.size_append, show (⟨#[32]⟩ : ByteArray).size = 1 from rfl] at c11b3)
 replace ⟨c12, H⟩ := ip H
 have c12b0 := eq_true c12
 have c12b1 := dt c12
 have c12b2 := nf c12
 try (have c12b3 := c12b2; simp only [ByteArray.size_append, show (⟨#[32]⟩ : ByteArray).size = 1 from rfl] at c12b3)
 replace ⟨t131, A13, H⟩ := oa H
 replace ⟨c14, H⟩ := ip H
 have c14b0 := eq_true c14
 have c14b1 := dt c14
 have c14b2 := nf c14
 try (have c14b3 := c14b2; simp only [ByteArray.size_append, show (⟨#[32]⟩ : ByteArray).size = 1 from rfl] at c14b3)
 obtain rfl := oI H
 try go_wp2
 replace BK127 := am (blk_drew BK127.out)
 replace HB := am (below_drew1 HB.out)
 (try (clear hzq_ BQ_; obtain ⟨hW_⟩ := hW_; subst hW_))
 refine start_ (n := 22) (S := cs5 gb127 (.string a0_0) (.string a0_1) (.int .i64 a0_2) (.int .i64 a0_3) (.int .i64 a0_4)) (ds := []) (bm 22 0) (by kernel_rfl) rfl rfl (bz5 BK127) (fun hHeld => ?_); refine with_tabW impl_HeadPut.tab3 impl_HeadPut.bits3 (fun HT_ HW_ => ?_)
 generalize w17.drew = w18 at BK127 HB hHeld ⊢
 refine pA 0 6 (bm 22 1) HT_ ?_
 refine pA 3 9 (bm 22 9) HT_ ?_
 refine pA 7 13 (bm 22 137) HT_ ?_
 refine pA 12 18 (bm 22 4233) HT_ ?_
 refine pA 17 23 (bm 22 135305) HT_ ?_
 refine tA 1 7 (bm 22 135307) HT_ HW_ hHeld ?_
 refine pA 2 8 (bm 22 135311) HT_ ?_
 refine tA 4 10 (bm 22 135327) HT_ HW_ hHeld ?_
 refine pA 5 11 (bm 22 135359) HT_ ?_
 refine pA 6 12 (bm 22 135423) HT_ ?_
 refine tA 8 14 (bm 22 135679) HT_ HW_ hHeld ?_
 refine tA 13 19 (bm 22 143871) HT_ HW_ hHeld ?_
 refine tA 18 24 (bm 22 406015) HT_ HW_ hHeld ?_
 refine oA 9 (some 15) (bm 22 406527) HT_ fun K hK => ?_
 refine gA Tryz.func19 #[.int .i64 a0_2] ?_
 with_reducible refine (strconv_Itoa_19.calls a0_2 t129 _ A7.out (am (Sh.hasT_of PQT_ (bl HB)))).mono ?_
 rintro e w19 ⟨rfl, hb⟩
 refine ⟨_, rfl, ?_⟩
 replace BK127 := kP _ BK127 hb
 replace HB := kH HB hb
 (try clear hb)
 (try clear hb2)
 (try clear hk)
 (try clear hi)
 refine hK.out _ _ (bz5 BK127) (fun hHeld => ?_)
 clear hK K
 refine nA (some 15) ?_
 refine pA 10 16 (bm 22 407551) HT_ ?_
 refine pA 11 17 (bm 22 409599) HT_ ?_
 refine oA 14 (some 20) (bm 22 425983) HT_ fun K hK => ?_
 refine gA Tryz.func19 #[.int .i64 a0_3] ?_
 with_reducible refine (strconv_Itoa_19.calls a0_3 t130 _ A10.out (am (Sh.hasT_of PQT_ (bl HB)))).mono ?_
 rintro e w20 ⟨rfl, hb⟩
 refine ⟨_, rfl, ?_⟩
 replace BK127 := kP _ BK127 hb
 replace HB := kH HB hb
 (try clear hb)
 (try clear hb2)
 (try clear hk)
 (try clear hi)
 refine hK.out _ _ (bz5 BK127) (fun hHeld => ?_)
 clear hK K
 refine nA (some 20) ?_
 refine pA 15 21 (bm 22 458751) HT_ ?_
 refine pA 16 22 (bm 22 524287) HT_ ?_
 refine oA 19 (some 25) (bm 22 1048575) HT_ fun K hK => ?_
 refine gA Tryz.func19 #[.int .i64 a0_4] ?_
 with_reducible refine (strconv_Itoa_19.calls a0_4 t131 _ A13.out (am (Sh.hasT_of PQT_ (bl HB)))).mono ?_
 rintro e w21 ⟨rfl, hb⟩
 refine ⟨_, rfl, ?_⟩
 replace BK127 := kP _ BK127 hb
 replace HB := kH HB hb
 (try clear hb)
 (try clear hb2)
 (try clear hk)
 (try clear hi)
 refine hK.out _ _ (bz5 BK127) (fun hHeld => ?_)
 clear hK K
 refine nA (some 25) ?_
 refine pA 20 26 (bm 22 2097151) HT_ ?_
 refine pA 21 2 (bm 22 4194303) HT_ ?_
 refine done_ (done_of HT_.out (by kernel_rfl)) ?_
 try go_wp2
 (try (clear hzq_ BQ_; obtain ⟨hW_⟩ := hW_; subst hW_))
 go_ret
 exact ⟨xE, xB HB⟩
def impl_peaksPut.l0 : Nat → ByteArray → List S93 → Int → Int → Option (ByteArray)
 | 0, _, _, _, _ => none
 | k + 1, x5, x9, x10, x11 => if x11 < x10 then (if 0 ≤ x11 then (if x11 < (x9.length : Int) then (if 1 + ((rd_T93 x9 x11).f0).size ≤ 9223372036854775807 then (if ((⟨#[32]⟩ : ByteArray) ++ ((rd_T93 x9 x11).f0)).size + 1 ≤ 9223372036854775807 then ((strconv_Itoa_19.f ((rd_T93 x9 x11).f1)).bind fun t134 => (if (((⟨#[32]⟩ : ByteArray) ++ ((rd_T93 x9 x11).f0)) ++ (⟨#[58]⟩ : ByteArray)).size + t134.size ≤ 9223372036854775807 then (if ((((⟨#[32]⟩ : ByteArray) ++ ((rd_T93 x9 x11).f0)) ++ (⟨#[58]⟩ : ByteArray)) ++ t134).size + 1 ≤ 9223372036854775807 then ((strconv_Itoa_19.f ((rd_T93 x9 x11).f2)).bind fun t135 => (if (((((⟨#[32]⟩ : ByteArray) ++ ((rd_T93 x9 x11).f0)) ++ (⟨#[58]⟩ : ByteArray)) ++ t134) ++ (⟨#[58]⟩ : ByteArray)).size + t135.size ≤ 9223372036854775807 then (if x5.size + ((((((⟨#[32]⟩ : ByteArray) ++ ((rd_T93 x9 x11).f0)) ++ (⟨#[58]⟩ : ByteArray)) ++ t134) ++ (⟨#[58]⟩ : ByteArray)) ++ t135).size ≤ 9223372036854775807 then (impl_peaksPut.l0 k (x5 ++ ((((((⟨#[32]⟩ : ByteArray) ++ ((rd_T93 x9 x11).f0)) ++ (⟨#[58]⟩ : ByteArray)) ++ t134) ++ (⟨#[58]⟩ : ByteArray)) ++ t135)) x9 x10 (wrap64 (x11 + 1))) else (none)) else (none))) else (none)) else (none))) else (none)) else (none)) else (none)) else (none)) else (if x5.size + 1 ≤ 9223372036854775807 then (some (x5 ++ (⟨#[10]⟩ : ByteArray))) else (none))
def impl_peaksPut.f (k : Nat) (a0 : ByteArray) (l1 : List S93) : Option (ByteArray) := impl_peaksPut.l0 k a0 l1 (l1.length : Int) 0
def impl_peaksPut.T5 : Bool × List (List Nat × List Nat) := (true, [([], []), ([], []), ([1], [1]), ([2], [2]), ([3], [3]), ([], []), ([5], [5]), ([6], [6]), ([4, 7], [4, 7]), ([8], [8]), ([], []), ([10], [10]), ([11, 7], [11]), ([9, 12], [9, 12]), ([0, 13], [0, 13]), ([14, 12, 0, 1, 2, 3, 4, 5, 6, 7, 8, 9, 10, 11, 12, 13, 14], [0, 14])])
def impl_peaksPut.B5 : List Nat := [0, 0, 2, 6, 14, 0, 32, 96, 254, 510, 0, 1024, 3296, 8190, 16383, 32767]
theorem impl_peaksPut.tab5 : rtab .any (opsOf Tryz.f21 5) = impl_peaksPut.T5 := by kernel_rfl
theorem impl_peaksPut.bits5 : waitsOk impl_peaksPut.T5.2 impl_peaksPut.B5 = true := by kernel_rfl
theorem impl_peaksPut.calls (k : Nat) (a0 : ByteArray) (A1 : Option Addr) (c1 : Nat) (l1 : List S93) (r : ByteArray) (w : World) (hr1 : Kd.C k93 w A1 l1.length l1) (hc1 : l1.length ≤ c1) (h : impl_peaksPut.f k a0 l1 = some r) (PQT_ : Aside0 (Sh.HasT w)) :
  Calls Tryz.prog 21 #[.string a0, .slice A1 l1.length c1] w fun e w' => e = .returned (.string r) ∧ Below w.heap.size w w' := by
 have hu93 := Tryz.underlying93
 have HR1 := am hr1
 have HC1 := am hc1
 clear hr1 hc1
 have HB := am (Below.refl w.heap.size w)
 have H : (impl_peaksPut.l0 k a0 l1 (l1.length : Int) 0) = some r := h
 clear h
 have H' := am H
 clear H
 go_enter Tryz.func21, Tryz.ntmps21
 go_wp2
 go_loopg [5, 11] k (fun kq v5 v11 w' => ∃ (x5_1 : ByteArray) (x11_1 : Int), v5 = .string x5_1 ∧ v11 = .int .i64 x11_1 ∧ Aside0 (impl_peaksPut.l0 kq x5_1 l1 (l1.length : Int) x11_1 = some r) ∧ Aside0 (kq ≤ k) ∧ Aside0 (Below w.heap.size w w'))
 case atStart => exact ⟨(a0), (0), xR, xR, H', ⟨Nat.le_refl _⟩, ⟨bl HB⟩⟩
 case round =>
  clear H'
  obtain ⟨x5_1, x11_1, rfl, rfl, HA, HK1, HB⟩ := hrel
  cases gk with
  | zero => exact absurd HA.out (by simp [impl_peaksPut.l0])
  | succ k1 =>
   have H := HA.out
   clear HA
   simp only [impl_peaksPut.l0] at H
   by_cases c3 : x11_1 < (l1.length : Int)
   rotate_left
   ·rw [if_neg c3] at H
    have c3b0 := df c3
    clear c3
    replace ⟨c20, H⟩ := ip H
    have c20b0 := eq_true c20
    have c20b1 := dt c20
    have c20b2 := nf c20
    obtain rfl := oI H
    go_wp2
    go_ret
    exact ⟨xE, bl HB⟩
   rw [if_pos c3] at H
   have c3b0 := dt c3
   clear c3
   replace ⟨c4b0, H⟩ := ipd H
   replace ⟨c5b0, H⟩ := ipd H
   replace ⟨c6, H⟩ := ip H
   have c6b0 := eq_true c6
   have c6b1 := dt c6
   have c6b2 := nf c6
   replace ⟨c7, H⟩ := ip H
   have c7b0 := eq_true c7
   have c7b1 := dt c7
   have c7b2 := nf c7
   try (have c7b3 := c7b2; simp only [ByteArray.size_append, show (⟨#[32]⟩ : ByteArray).size = 1 from rfl] at c7b3)
   replace ⟨t134, A8, H⟩ := oa H
   replace ⟨c9, H⟩ := ip H
   have c9b0 := eq_true c9
   have c9b1 := dt c9
   have c9b2 := nf c9
   try (have c9b3 := c9b2; simp only [ByteArray.size_append, show (⟨#[32]⟩ : ByteArray).size = 1 from rfl, show (⟨#[58]⟩ : ByteArray).size = 1 from rfl] at c9b3)
   replace ⟨c10, H⟩ := ip H
   have c10b0 := eq_true c10
   have c10b1 := dt c10
   have c10b2 := nf c10
   try (have c10b3 := c10b2; simp only [ByteArray.size_append, show (⟨#[32]⟩ : ByteArray).size = 1 from rfl, show (⟨#[58]⟩ : ByteArray).size = 1 from rfl] at c10b3)
   replace ⟨t135, A11, H⟩ := oa H
   replace ⟨c12, H⟩ := ip H
   have c12b0 := eq_true c12
   have c12b1 := dt c12
   have c12b2 := nf c12
   try (have c12b3 := c12b2; simp only [ByteArray.size_append, show (⟨#[32]⟩ : ByteArray).size = 1 from rfl, show (⟨#[58]⟩ : ByteArray).size = 1 from rfl] at c12b3)
   replace ⟨c13, H⟩ := ip H
   have c13b0 := eq_true c13
   have c13b1 := dt c13
   have c13b2 := nf c13
   try (have c13b3 := c13b2; simp only [ByteArray.size_append, show (⟨#[32]⟩ : ByteArray).size = 1 from rfl, show (⟨#[58]⟩ : ByteArray).size = 1 from rfl] at c13b3)
   have H' := am H
   clear H
   have p132 : 0 ≤ (x11_1 : Int) := oX
   have q132 : x11_1 < (l1.length : Int) := oX
   obtain ⟨ad132, e132, hx132_0, hx132_1, hx132_2⟩ := at_T93 (hC HB HR1.out) x11_1 p132 q132
   cases e132
   replace ⟨p132, q132⟩ := eT p132 q132
   try go_wp2_with ((with_reducible refine gg ?_); refine bE 7 #[.string (⟨#[]⟩ : ByteArray), .int .i64 0, .int .i64 0] 93 ?_; intro gb133 hg w14 hbox hb; have BK133 := am (hbox); have GW133 := zB hg HB; have GE133 := zB hg HB; replace HB := kH HB hb; clear hb hbox hg; have hz15 := bc3 BK133)
   have n0_ : Aside0 ((((w14.setCell ⟨gb133, 0, none⟩ (.string ((rd_T93 l1 x11_1).f0))).setCell ⟨gb133, 1, none⟩ (.int .i64 ((rd_T93 l1 x11_1).f1))).setCell ⟨gb133, 2, none⟩ (.int .i64 ((rd_T93 l1 x11_1).f2))).heap[gb133]? = some (.cells #[.string ((rd_T93 l1 x11_1).f0), .int .i64 ((rd_T93 l1 x11_1).f1), .int .i64 ((rd_T93 l1 x11_1).f2)] 93 (0, 0))) := ⟨fb BK133⟩
   have n1_ : Aside0 (Below w.heap.size w (((w14.setCell ⟨gb133, 0, none⟩ (.string ((rd_T93 l1 x11_1).f0))).setCell ⟨gb133, 1, none⟩ (.int .i64 ((rd_T93 l1 x11_1).f1))).setCell ⟨gb133, 2, none⟩ (.int .i64 ((rd_T93 l1 x11_1).f2)))) := ⟨xB HB⟩
   (try clear BK133)
   (try clear HB)
   generalize (((w14.setCell ⟨gb133, 0, none⟩ (.string ((rd_T93 l1 x11_1).f0))).setCell ⟨gb133, 1, none⟩ (.int .i64 ((rd_T93 l1 x11_1).f1))).setCell ⟨gb133, 2, none⟩ (.int .i64 ((rd_T93 l1 x11_1).f2))) = w16 at n0_ n1_ ⊢
   have BK133 := n0_
   have HB := n1_
   clear n0_ n1_
   replace BK133 := am (blk_drew BK133.out)
   replace HB := am (below_drew1 HB.out)
   refine start_ (n := 16) (S := cs3 gb133 (.string ((rd_T93 l1 x11_1).f0)) (.int .i64 ((rd_T93 l1 x11_1).f1)) (.int .i64 ((rd_T93 l1 x11_1).f2))) (ds := []) (bm 16 0) (by kernel_rfl) rfl rfl (bz3 BK133) (fun hHeld => ?_); refine with_tabW impl_peaksPut.tab5 impl_peaksPut.bits5 (fun HT_ HW_ => ?_)
   generalize w16.drew = w17 at BK133 HB hHeld ⊢
   refine pA 0 15 (bm 16 1) HT_ ?_
   refine pA 1 16 (bm 16 3) HT_ ?_
   refine pA 5 20 (bm 16 35) HT_ ?_
   refine pA 10 25 (bm 16 1059) HT_ ?_
   refine tA 2 17 (bm 16 1063) HT_ HW_ hHeld ?_
   refine pA 3 18 (bm 16 1071) HT_ ?_
   refine pA 4 19 (bm 16 1087) HT_ ?_
   refine tA 6 21 (bm 16 1151) HT_ HW_ hHeld ?_
   refine tA 11 26 (bm 16 3199) HT_ HW_ hHeld ?_
   refine oA 7 (some 22) (bm 16 3327) HT_ fun K hK => ?_
   refine gA Tryz.func19 #[.int .i64 ((rd_T93 l1 x11_1).f1)] ?_
   with_reducible refine (strconv_Itoa_19.calls ((rd_T93 l1 x11_1).f1) t134 _ A8.out (am (Sh.hasT_of PQT_ (bl HB)))).mono ?_
   rintro e w18 ⟨rfl, hb⟩
   refine ⟨_, rfl, ?_⟩
   replace BK133 := kP _ BK133 hb
   replace HB := kH HB hb
   (try clear hb)
   (try clear hb2)
   (try clear hk)
   (try clear hi)
   refine hK.out _ _ (bz3 BK133) (fun hHeld => ?_)
   clear hK K
   refine nA (some 22) ?_
   refine pA 8 23 (bm 16 3583) HT_ ?_
   refine pA 9 24 (bm 16 4095) HT_ ?_
   refine oA 12 (some 27) (bm 16 8191) HT_ fun K hK => ?_
   refine gA Tryz.func19 #[.int .i64 ((rd_T93 l1 x11_1).f2)] ?_
   with_reducible refine (strconv_Itoa_19.calls ((rd_T93 l1 x11_1).f2) t135 _ A11.out (am (Sh.hasT_of PQT_ (bl HB)))).mono ?_
   rintro e w19 ⟨rfl, hb⟩
   refine ⟨_, rfl, ?_⟩
   replace BK133 := kP _ BK133 hb
   replace HB := kH HB hb
   (try clear hb)
   (try clear hb2)
   (try clear hk)
   (try clear hi)
   refine hK.out _ _ (bz3 BK133) (fun hHeld => ?_)
   clear hK K
   refine nA (some 27) ?_
   refine pA 13 28 (bm 16 16383) HT_ ?_
   refine pA 14 29 (bm 16 32767) HT_ ?_
   refine pA 15 5 (bm 16 65535) HT_ ?_
   refine done_ (done_of HT_.out (by kernel_rfl)) ?_
   try go_wp2
   go_roundg k1
   case measure => have := HK1.out; omega
   case rel => exact ⟨(x5_1 ++ ((((((⟨#[32]⟩ : ByteArray) ++ ((rd_T93 l1 x11_1).f0)) ++ (⟨#[58]⟩ : ByteArray)) ++ t134) ++ (⟨#[58]⟩ : ByteArray)) ++ t135)), (wrap64 (x11_1 + 1)), xR, xR, H', ⟨xL HK1⟩, ⟨xB HB⟩⟩
open Kd
set_option linter.unusedVariables false
set_option linter.unusedSimpArgs false
set_option maxHeartbeats 64000000
set_option maxRecDepth 100000
def impl_PaidPut.l0 : Nat → ByteArray → List S48 → Int → Int → Option (ByteArray)
 | 0, _, _, _, _ => none
 | k + 1, x3, x30, x31, x32 => if x32 < x31 then (if 0 ≤ x32 then (if x32 < (x30.length : Int) then (if (rd_T48 x30 x32).f1 = true then (if 2 + ((rd_T48 x30 x32).f0).size ≤ 9223372036854775807 then (if x3.size + ((⟨#[32, 108]⟩ : ByteArray) ++ ((rd_T48 x30 x32).f0)).size ≤ 9223372036854775807 then (impl_PaidPut.l0 k (x3 ++ ((⟨#[32, 108]⟩ : ByteArray) ++ ((rd_T48 x30 x32).f0))) x30 x31 (wrap64 (x32 + 1))) else (none)) else (none)) else (if 2 + ((rd_T48 x30 x32).f0).size ≤ 9223372036854775807 then (if x3.size + ((⟨#[32, 114]⟩ : ByteArray) ++ ((rd_T48 x30 x32).f0)).size ≤ 9223372036854775807 then (impl_PaidPut.l0 k (x3 ++ ((⟨#[32, 114]⟩ : ByteArray) ++ ((rd_T48 x30 x32).f0))) x30 x31 (wrap64 (x32 + 1))) else (none)) else (none))) else (none)) else (none)) else (if x3.size + 1 ≤ 9223372036854775807 then (some (x3 ++ (⟨#[10]⟩ : ByteArray))) else (none))
def impl_PaidPut.f (k : Nat) (a0_0 : Int) (a0_1 : ByteArray) (a0_2 : ByteArray) (a0_3 : Int) (a0_4 : Int) (a0_5 : Int) (l0_6 : List S93) (l0_7 : List S93) (l0_8 : List S48) : Option (ByteArray) := (impl_paidOk.f k a0_0 a0_1 a0_2 a0_3 a0_4 a0_5 l0_6 l0_7 l0_8).bind fun t137 => (if t137 = true then ((strconv_Itoa_19.f a0_0).bind fun t138 => (if t138.size + 1 ≤ 9223372036854775807 then ((impl_HeadPut.f k a0_1 a0_2 a0_3 a0_4 a0_5).bind fun t139 => (if (t138 ++ (⟨#[32]⟩ : ByteArray)).size + t139.size ≤ 9223372036854775807 then (if ((t138 ++ (⟨#[32]⟩ : ByteArray)) ++ t139).size + 1 ≤ 9223372036854775807 then ((impl_peaksPut.f k (⟨#[112, 101, 97, 107, 115]⟩ : ByteArray) l0_6).bind fun t140 => (if (((t138 ++ (⟨#[32]⟩ : ByteArray)) ++ t139) ++ (⟨#[10]⟩ : ByteArray)).size + t140.size ≤ 9223372036854775807 then ((impl_peaksPut.f k (⟨#[115, 116, 101, 112, 115]⟩ : ByteArray) l0_7).bind fun t141 => (if ((((t138 ++ (⟨#[32]⟩ : ByteArray)) ++ t139) ++ (⟨#[10]⟩ : ByteArray)) ++ t140).size + t141.size ≤ 9223372036854775807 then (if (((((t138 ++ (⟨#[32]⟩ : ByteArray)) ++ t139) ++ (⟨#[10]⟩ : ByteArray)) ++ t140) ++ t141).size + 5 ≤ 9223372036854775807 then (impl_PaidPut.l0 k ((((((t138 ++ (⟨#[32]⟩ : ByteArray)) ++ t139) ++ (⟨#[10]⟩ : ByteArray)) ++ t140) ++ t141) ++ (⟨#[115, 105, 100, 101, 115]⟩ : ByteArray)) l0_8 (l0_8.length : Int) 0) else (none)) else (none))) else (none))) else (none)) else (none))) else (none))) else (some (⟨#[]⟩ : ByteArray)))
def impl_PaidPut.T3 : Bool × List (List Nat × List Nat) := (true, [([], []), ([0], [0]), ([1], [1]), ([2], [2]), ([], []), ([4], [4]), ([5, 2], [5]), ([3, 6], [3, 6]), ([7], [7]), ([], []), ([9], [9]), ([10], [10]), ([11, 6], [11]), ([8, 12], [8, 12]), ([], []), ([14], [14]), ([15], [15]), ([16, 12], [16]), ([13, 17], [13, 17]), ([18], [18]), ([19, 17, 0, 1, 2, 3, 4, 5, 6, 7, 8, 9, 10, 11, 12, 13, 14, 15, 16, 17, 18, 19], [19])])
def impl_PaidPut.B3 : List Nat := [0, 1, 3, 7, 0, 16, 55, 127, 255, 0, 512, 1536, 3703, 8191, 0, 16384, 49152, 122487, 262143, 524287, 1048575]
theorem impl_PaidPut.tab3 : rtab .any (opsOf Tryz.f6 3) = impl_PaidPut.T3 := by kernel_rfl
theorem impl_PaidPut.bits3 : waitsOk impl_PaidPut.T3.2 impl_PaidPut.B3 = true := by kernel_rfl
theorem impl_PaidPut.calls (k : Nat) (a0_0 : Int) (a0_1 : ByteArray) (a0_2 : ByteArray) (a0_3 : Int) (a0_4 : Int) (a0_5 : Int) (A0_6 : Option Addr) (c0_6 : Nat) (l0_6 : List S93) (A0_7 : Option Addr) (c0_7 : Nat) (l0_7 : List S93) (A0_8 : Option Addr) (c0_8 : Nat) (l0_8 : List S48) (r : ByteArray) (w : World) (hr0_6 : Kd.C k93 w A0_6 l0_6.length l0_6) (hc0_6 : l0_6.length ≤ c0_6) (hr0_7 : Kd.C k93 w A0_7 l0_7.length l0_7) (hc0_7 : l0_7.length ≤ c0_7) (hr0_8 : Kd.C k48 w A0_8 l0_8.length l0_8) (hc0_8 : l0_8.length ≤ c0_8) (h : impl_PaidPut.f k a0_0 a0_1 a0_2 a0_3 a0_4 a0_5 l0_6 l0_7 l0_8 = some r) (PQT_ : Aside0 (Sh.HasT w)) :
  Calls Tryz.prog 6 #[.agg #[.int .i64 a0_0, .string a0_1, .string a0_2, .int .i64 a0_3, .int .i64 a0_4, .int .i64 a0_5, .slice A0_6 l0_6.length c0_6, .slice A0_7 l0_7.length c0_7, .slice A0_8 l0_8.length c0_8]] w fun e w' => e = .returned (.string r) ∧ Below w.heap.size w w' := by
 have hu30 := Tryz.underlying30
 have hu24 := Tryz.underlying24
 have hu48 := Tryz.underlying48
 have HR0_6 := am hr0_6
 have HC0_6 := am hc0_6
 clear hr0_6 hc0_6
 have HR0_7 := am hr0_7
 have HC0_7 := am hc0_7
 clear hr0_7 hc0_7
 have HR0_8 := am hr0_8
 have HC0_8 := am hc0_8
 clear hr0_8 hc0_8
 have HB := am (Below.refl w.heap.size w)
 have H : ((impl_paidOk.f k a0_0 a0_1 a0_2 a0_3 a0_4 a0_5 l0_6 l0_7 l0_8).bind fun t137 => (if t137 = true then ((strconv_Itoa_19.f a0_0).bind fun t138 => (if t138.size + 1 ≤ 9223372036854775807 then ((impl_HeadPut.f k a0_1 a0_2 a0_3 a0_4 a0_5).bind fun t139 => (if (t138 ++ (⟨#[32]⟩ : ByteArray)).size + t139.size ≤ 9223372036854775807 then (if ((t138 ++ (⟨#[32]⟩ : ByteArray)) ++ t139).size + 1 ≤ 9223372036854775807 then ((impl_peaksPut.f k (⟨#[112, 101, 97, 107, 115]⟩ : ByteArray) l0_6).bind fun t140 => (if (((t138 ++ (⟨#[32]⟩ : ByteArray)) ++ t139) ++ (⟨#[10]⟩ : ByteArray)).size + t140.size ≤ 9223372036854775807 then ((impl_peaksPut.f k (⟨#[115, 116, 101, 112, 115]⟩ : ByteArray) l0_7).bind fun t141 => (if ((((t138 ++ (⟨#[32]⟩ : ByteArray)) ++ t139) ++ (⟨#[10]⟩ : ByteArray)) ++ t140).size + t141.size ≤ 9223372036854775807 then (if (((((t138 ++ (⟨#[32]⟩ : ByteArray)) ++ t139) ++ (⟨#[10]⟩ : ByteArray)) ++ t140) ++ t141).size + 5 ≤ 9223372036854775807 then (impl_PaidPut.l0 k ((((((t138 ++ (⟨#[32]⟩ : ByteArray)) ++ t139) ++ (⟨#[10]⟩ : ByteArray)) ++ t140) ++ t141) ++ (⟨#[115, 105, 100, 101, 115]⟩ : ByteArray)) l0_8 (l0_8.length : Int) 0) else (none)) else (none))) else (none))) else (none)) else (none))) else (none))) else (some (⟨#[]⟩ : ByteArray)))) = some r := h
 clear h
 replace ⟨t137, A2, H⟩ := oa H
 go_enter Tryz.func6, Tryz.ntmps6
 go_upto_if 8 with ((with_reducible refine gg ?_); first | (refine bE 1 #[.int .i64 a0_0, .string a0_1, .string a0_2, .int .i64 a0_3, .int .i64 a0_4, .int .i64 a0_5, .slice A0_6 l0_6.length c0_6, .slice A0_7 l0_7.length c0_7, .slice A0_8 l0_8.length c0_8] 30 ?_; intro gb136 hg w14 hbox hb; have BK136 := am (hbox); have GW136 := zB hg HB; have GE136 := zB hg HB; replace HB := kH HB hb; clear hb hbox hg; have hz15 := bc9 BK136) | (refine store_event (t := 30) (p := 1) (v := ?vo_) (w1 := ?wo_) ?hg ?ho ?hn ?hr ?_; (case ho => rfl); (case hg => rfl); (case hn => rfl); (case hr => go_simp; rfl); intro wq_ hW_; have BQ_ := am hW_; have hzq_ := am hW_; replace hW_ := am hW_) | (refine gL 7 Tryz.func18 #[.agg #[.int .i64 a0_0, .string a0_1, .string a0_2, .int .i64 a0_3, .int .i64 a0_4, .int .i64 a0_5, .slice A0_6 l0_6.length c0_6, .slice A0_7 l0_7.length c0_7, .slice A0_8 l0_8.length c0_8]] ?_; (try (clear hzq_ BQ_; obtain ⟨hW_⟩ := hW_; subst hW_)); (with_reducible refine (impl_paidOk.calls k a0_0 a0_1 a0_2 a0_3 a0_4 a0_5 _ _ l0_6 _ _ l0_7 _ _ l0_8 t137 _ ?side1 ?side2 ?side3 ?side4 ?side5 ?side6 A2.out).mono ?_); (case side1 => exact cb HR0_6 HB); (case side2 => exact HC0_6.out); (case side3 => exact cb HR0_7 HB); (case side4 => exact HC0_7.out); (case side5 => exact cb HR0_8 HB); (case side6 => exact HC0_8.out); rintro e w16 ⟨rfl, hb⟩; refine ⟨_, rfl, ?_⟩; replace BK136 := kP _ BK136 hb; replace HB := kH HB hb; (try clear hb)))
 by_cases c3 : t137 = true
 rotate_left
 ·replace c3 := bF c3
  subst c3
  try simp only [Bool.not_true, Bool.not_false]
  rw [if_neg nF] at H
  obtain rfl := oI H
  go_wp2
  (try (clear hzq_ BQ_; obtain ⟨hW_⟩ := hW_; subst hW_))
  go_ret
  exact ⟨xE, xB HB⟩
 subst c3
 try simp only [Bool.not_true, Bool.not_false]
 rw [if_pos rfl] at H
 replace ⟨t138, A4, H⟩ := oa H
 replace ⟨c5, H⟩ := ip H
 have c5b0 := eq_true c5
 have c5b1 := dt c5
 have c5b2 := nf c5
 replace ⟨t139, A6, H⟩ := oa H
 replace ⟨c7, H⟩ := ip H
 have c7b0 := eq_true c7
 have c7b1 := dt c7
 have c7b2 := nf c7
 try (have c7b3 := c7b2; simp only [ByteArray.size_append, show (⟨#[32]⟩ : ByteArray).size = 1 from rfl] at c7b3)
 replace ⟨c8, H⟩ := ip H
 have c8b0 := eq_true c8
 have c8b1 := dt c8
 have c8b2 := nf c8
 try (have c8b3 := c8b2; simp only [ByteArray.size_append, show (⟨#[32]⟩ : ByteArray).size = 1 from rfl] at c8b3)
 replace ⟨t140, A9, H⟩ := oa H
 replace ⟨c10, H⟩ := ip H
 have c10b0 := eq_true c10
 have c10b1 := dt c10
 have c10b2 := nf c10
 try (have c10b3 := c10b2; simp only [ByteArray.size_append, show (⟨#[10]⟩ : ByteArray).size = 1 from rfl, show (⟨#[32]⟩ : ByteArray).size = 1 from rfl] at c10b3)
 replace ⟨t141, A11, H⟩ := oa H
 replace ⟨c12, H⟩ := ip H
 have c12b0 := eq_true c12
 have c12b1 := dt c12
 have c12b2 := nf c12
 try (have c12b3 := c12b2; simp only [ByteArray.size_append, show (⟨#[10]⟩ : ByteArray).size = 1 from rfl, show (⟨#[32]⟩ : ByteArray).size = 1 from rfl] at c12b3)
 replace ⟨c13, H⟩ := ip H
 have c13b0 := eq_true c13
 have c13b1 := dt c13
 have c13b2 := nf c13
 try (have c13b3 := c13b2; simp only [ByteArray.size_append, show (⟨#[10]⟩ : ByteArray).size = 1 from rfl, show (⟨#[32]⟩ : ByteArray).size = 1 from rfl] at c13b3)
 have H' := am H
 clear H
 try go_wp2
 replace BK136 := am (blk_drew BK136.out)
 replace HB := am (below_drew1 HB.out)
 (try (clear hzq_ BQ_; obtain ⟨hW_⟩ := hW_; subst hW_))
 refine start_ (n := 21) (S := cs9 gb136 (.int .i64 a0_0) (.string a0_1) (.string a0_2) (.int .i64 a0_3) (.int .i64 a0_4) (.int .i64 a0_5) (.slice A0_6 l0_6.length c0_6) (.slice A0_7 l0_7.length c0_7) (.slice A0_8 l0_8.length c0_8)) (ds := []) (bm 21 0) (by kernel_rfl) rfl rfl (bz9 BK136) (fun hHeld => ?_); refine with_tabW impl_PaidPut.tab3 impl_PaidPut.bits3 (fun HT_ HW_ => ?_)
 generalize w16.drew = w17 at BK136 HB hHeld ⊢
 refine pA 0 9 (bm 21 1) HT_ ?_
 refine pA 4 13 (bm 21 17) HT_ ?_
 refine pA 9 18 (bm 21 529) HT_ ?_
 refine pA 10 19 (bm 21 1553) HT_ ?_
 refine pA 14 23 (bm 21 17937) HT_ ?_
 refine pA 15 24 (bm 21 50705) HT_ ?_
 refine tA 1 10 (bm 21 50707) HT_ HW_ hHeld ?_
 refine tA 5 14 (bm 21 50739) HT_ HW_ hHeld ?_
 refine tA 11 20 (bm 21 52787) HT_ HW_ hHeld ?_
 refine tA 16 25 (bm 21 118323) HT_ HW_ hHeld ?_
 refine oA 2 (some 11) (bm 21 118327) HT_ fun K hK => ?_
 refine gA Tryz.func19 #[.int .i64 a0_0] ?_
 with_reducible refine (strconv_Itoa_19.calls a0_0 t138 _ A4.out (am (Sh.hasT_of PQT_ (bl HB)))).mono ?_
 rintro e w18 ⟨rfl, hb⟩
 refine ⟨_, rfl, ?_⟩
 replace BK136 := kP _ BK136 hb
 replace HB := kH HB hb
 (try clear hb)
 (try clear hb2)
 (try clear hk)
 (try clear hi)
 refine hK.out _ _ (bz9 BK136) (fun hHeld => ?_)
 clear hK K
 refine nA (some 11) ?_
 refine pA 3 12 (bm 21 118335) HT_ ?_
 refine oA 6 (some 15) (bm 21 118399) HT_ fun K hK => ?_
 refine gA Tryz.func20 #[.agg #[.string a0_1, .string a0_2, .int .i64 a0_3, .int .i64 a0_4, .int .i64 a0_5]] ?_
 with_reducible refine (impl_HeadPut.calls k a0_1 a0_2 a0_3 a0_4 a0_5 t139 _ A6.out (am (Sh.hasT_of PQT_ (bl HB)))).mono ?_
 rintro e w19 ⟨rfl, hb⟩
 refine ⟨_, rfl, ?_⟩
 replace BK136 := kP _ BK136 hb
 replace HB := kH HB hb
 (try clear hb)
 (try clear hb2)
 (try clear hk)
 (try clear hi)
 refine hK.out _ _ (bz9 BK136) (fun hHeld => ?_)
 clear hK K
 refine nA (some 15) ?_
 refine pA 7 16 (bm 21 118527) HT_ ?_
 refine pA 8 17 (bm 21 118783) HT_ ?_
 refine oA 12 (some 21) (bm 21 122879) HT_ fun K hK => ?_
 refine gA Tryz.func21 #[.string (⟨#[112, 101, 97, 107, 115]⟩ : ByteArray), .slice A0_6 l0_6.length c0_6] ?_
 with_reducible refine (impl_peaksPut.calls k (⟨#[112, 101, 97, 107, 115]⟩ : ByteArray) _ _ l0_6 t140 _ ?side1 ?side2 A9.out (am (Sh.hasT_of PQT_ (bl HB)))).mono ?_
 (case side1 => exact cb HR0_6 HB)
 (case side2 => exact HC0_6.out)
 rintro e w20 ⟨rfl, hb⟩
 refine ⟨_, rfl, ?_⟩
 replace BK136 := kP _ BK136 hb
 replace HB := kH HB hb
 (try clear hb)
 (try clear hb2)
 (try clear hk)
 (try clear hi)
 refine hK.out _ _ (bz9 BK136) (fun hHeld => ?_)
 clear hK K
 refine nA (some 21) ?_
 refine pA 13 22 (bm 21 131071) HT_ ?_
 refine oA 17 (some 26) (bm 21 262143) HT_ fun K hK => ?_
 refine gA Tryz.func21 #[.string (⟨#[115, 116, 101, 112, 115]⟩ : ByteArray), .slice A0_7 l0_7.length c0_7] ?_
 with_reducible refine (impl_peaksPut.calls k (⟨#[115, 116, 101, 112, 115]⟩ : ByteArray) _ _ l0_7 t141 _ ?side1 ?side2 A11.out (am (Sh.hasT_of PQT_ (bl HB)))).mono ?_
 (case side1 => exact cb HR0_7 HB)
 (case side2 => exact HC0_7.out)
 rintro e w21 ⟨rfl, hb⟩
 refine ⟨_, rfl, ?_⟩
 replace BK136 := kP _ BK136 hb
 replace HB := kH HB hb
 (try clear hb)
 (try clear hb2)
 (try clear hk)
 (try clear hi)
 refine hK.out _ _ (bz9 BK136) (fun hHeld => ?_)
 clear hK K
 refine nA (some 26) ?_
 refine pA 18 27 (bm 21 524287) HT_ ?_
 refine pA 19 28 (bm 21 1048575) HT_ ?_
 refine pA 20 3 (bm 21 2097151) HT_ ?_
 refine done_ (done_of HT_.out (by kernel_rfl)) ?_
 (first | have hz22 := bc9 (kF _ BK136 hW_.out) | have hz22 := bc9 BK136)
 try go_wp2
 (try (clear hzq_ BQ_; obtain ⟨hW_⟩ := hW_; subst hW_))
 go_loopg [3, 32] k (fun kq v3 v32 w' => ∃ (x3_1 : ByteArray) (x32_1 : Int), v3 = .string x3_1 ∧ v32 = .int .i64 x32_1 ∧ Aside0 (impl_PaidPut.l0 kq x3_1 l0_8 (l0_8.length : Int) x32_1 = some r) ∧ Aside0 (kq ≤ k) ∧ Aside0 (w'.heap[gb136]? = some (.cells #[.int .i64 a0_0, .string a0_1, .string a0_2, .int .i64 a0_3, .int .i64 a0_4, .int .i64 a0_5, (.slice A0_6 l0_6.length c0_6), (.slice A0_7 l0_7.length c0_7), (.slice A0_8 l0_8.length c0_8)] 30 (0, 0))) ∧ Aside0 (Below w.heap.size w w'))
 case atStart => exact ⟨((((((t138 ++ (⟨#[32]⟩ : ByteArray)) ++ t139) ++ (⟨#[10]⟩ : ByteArray)) ++ t140) ++ t141) ++ (⟨#[115, 105, 100, 101, 115]⟩ : ByteArray)), (0), xR, xR, H', ⟨Nat.le_refl _⟩, ⟨kb BK136⟩, ⟨xB HB⟩⟩
 case round =>
  clear H'
  try clear c3 c5 c5b0 c5b1 c5b2 c7 c7b0 c7b1 c7b2 c8 c8b0 c8b1 c8b2 c10 c10b0 c10b1 c10b2 c12 c12b0 c12b1 c12b2 c13 c13b0 c13b1 c13b2 hz15 hz22
  obtain ⟨x3_1, x32_1, rfl, rfl, HA, HK1, BK136, HB⟩ := hrel
  cases gk with
  | zero => exact absurd HA.out (by simp [impl_PaidPut.l0])
  | succ k1 =>
   have H := HA.out
   clear HA
   simp only [impl_PaidPut.l0] at H
   by_cases c23 : x32_1 < (l0_8.length : Int)
   rotate_left
   ·rw [if_neg c23] at H
    have c23b0 := df c23
    clear c23
    replace ⟨c38, H⟩ := ip H
    have c38b0 := eq_true c38
    have c38b1 := dt c38
    have c38b2 := nf c38
    obtain rfl := oI H
    go_wp2
    (try (clear hzq_ BQ_; obtain ⟨hW_⟩ := hW_; subst hW_))
    go_ret
    exact ⟨xE, xB HB⟩
   rw [if_pos c23] at H
   have c23b0 := dt c23
   clear c23
   replace ⟨c24b0, H⟩ := ipd H
   replace ⟨c25b0, H⟩ := ipd H
   obtain ⟨bq26, hbq26⟩ : ∃ b_ : Bool, b_ = ((rd_T48 l0_8 x32_1).f1) := ⟨_, rfl⟩
   replace H : (if bq26 = true then (if 2 + ((rd_T48 l0_8 x32_1).f0).size ≤ 9223372036854775807 then (if x3_1.size + ((⟨#[32, 108]⟩ : ByteArray) ++ ((rd_T48 l0_8 x32_1).f0)).size ≤ 9223372036854775807 then (impl_PaidPut.l0 k1 (x3_1 ++ ((⟨#[32, 108]⟩ : ByteArray) ++ ((rd_T48 l0_8 x32_1).f0))) l0_8 (l0_8.length : Int) (wrap64 (x32_1 + 1))) else (none)) else (none)) else (if 2 + ((rd_T48 l0_8 x32_1).f0).size ≤ 9223372036854775807 then (if x3_1.size + ((⟨#[32, 114]⟩ : ByteArray) ++ ((rd_T48 l0_8 x32_1).f0)).size ≤ 9223372036854775807 then (impl_PaidPut.l0 k1 (x3_1 ++ ((⟨#[32, 114]⟩ : ByteArray) ++ ((rd_T48 l0_8 x32_1).f0))) l0_8 (l0_8.length : Int) (wrap64 (x32_1 + 1))) else (none)) else (none))) = some r := by rw [← hbq26] at H; exact H
   have Nbq26 := am hbq26
   clear hbq26
   have p142 : 0 ≤ (x32_1 : Int) := oX
   have q142 : x32_1 < (l0_8.length : Int) := oX
   obtain ⟨ad142, e142, hx142_0, hx142_1⟩ := at_T48 HR0_8.out x32_1 p142 q142
   (try rw [← Nbq26.out] at hx142_1)
   cases e142
   replace hx142_0 := hc HB hx142_0
   replace hx142_1 := hc HB hx142_1
   replace ⟨p142, q142⟩ := eT p142 q142
   go_upto_if 37 with ((with_reducible refine gg ?_); refine bE 5 #[.string (⟨#[]⟩ : ByteArray), .bool false] 48 ?_; (try (clear hzq_ BQ_; obtain ⟨hW_⟩ := hW_; subst hW_)); intro gb143 hg w30 hbox hb; have BK143 := am (hbox); have GW143 := zB hg HB; have GE143 := zB hg HB; replace HB := kH HB hb; have NB136_143 := nl hg (kb BK136); have NB143_136 := ng hg (kb BK136); replace BK136 := kP _ BK136 hb; clear hb hbox hg; have hnb31 := NB143_136.out; have hnc31 := NB136_143.out; have hz32 := bc2 BK143)
   by_cases c27 : bq26 = true
   ·subst c27
    try simp only [Bool.not_true, Bool.not_false]
    rw [if_pos rfl] at H
    replace ⟨c28, H⟩ := ip H
    have c28b0 := eq_true c28
    have c28b1 := dt c28
    have c28b2 := nf c28
    replace ⟨c29, H⟩ := ip H
    have c29b0 := eq_true c29
    have c29b1 := dt c29
    have c29b2 := nf c29
    try (have c29b3 := c29b2; simp only [ByteArray.size_append, show (⟨#[32, 108]⟩ : ByteArray).size = 2 from rfl] at c29b3)
    have H' := am H
    clear H
    go_wp2
    (try (clear hzq_ BQ_; obtain ⟨hW_⟩ := hW_; subst hW_))
    go_roundg k1
    case measure => have := HK1.out; omega
    case rel => exact ⟨(x3_1 ++ ((⟨#[32, 108]⟩ : ByteArray) ++ ((rd_T48 l0_8 x32_1).f0))), (wrap64 (x32_1 + 1)), xR, xR, H', ⟨xL HK1⟩, ⟨fb BK136⟩, ⟨xB HB⟩⟩
   replace c27 := bF c27
   subst c27
   try simp only [Bool.not_true, Bool.not_false]
   rw [if_neg nF] at H
   replace ⟨c33, H⟩ := ip H
   have c33b0 := eq_true c33
   have c33b1 := dt c33
   have c33b2 := nf c33
   replace ⟨c34, H⟩ := ip H
   have c34b0 := eq_true c34
   have c34b1 := dt c34
   have c34b2 := nf c34
   try (have c34b3 := c34b2; simp only [ByteArray.size_append, show (⟨#[32, 114]⟩ : ByteArray).size = 2 from rfl] at c34b3)
   have H' := am H
   clear H
   go_wp2
   (try (clear hzq_ BQ_; obtain ⟨hW_⟩ := hW_; subst hW_))
   go_roundg k1
   case measure => have := HK1.out; omega
   case rel => exact ⟨(x3_1 ++ ((⟨#[32, 114]⟩ : ByteArray) ++ ((rd_T48 l0_8 x32_1).f0))), (wrap64 (x32_1 + 1)), xR, xR, H', ⟨xL HK1⟩, ⟨fb BK136⟩, ⟨xB HB⟩⟩
-- NOT PRINTED: function 103 (utf8_RuneCountInString)
-- NOT PRINTED: function 117 (utf8_decodeRuneInStringSlow)
-- NOT PRINTED: function 104 (utf8_DecodeRuneInString)
-- NOT PRINTED: function 80 (strings_explode)
-- NOT PRINTED: function 118 (bytealg_IndexByteString)
-- NOT PRINTED: function 106 (stringslite_IndexByte)
-- NOT PRINTED: function 107 (bytealg_IndexString)
-- NOT PRINTED: function 108 (bytealg_Cutover)
-- NOT PRINTED: function 119 (bytealg_hashStr_string)
-- NOT PRINTED: function 109 (bytealg_IndexRabinKarp_string)
-- NOT PRINTED: function 83 (stringslite_Index)
-- NOT PRINTED: function 82 (strings_Index)
-- NOT PRINTED: function 105 (bytealg_CountString)
-- NOT PRINTED: function 81 (strings_Count)
-- NOT PRINTED: function 63 (strings_genSplit)
def strings_Split.f (a0 : ByteArray) (a1 : ByteArray) : Option (List ByteArray) := if a0.size < 4294967281 ∧ 1 ≤ a1.size then some (Sh.splitS a0 a1) else none
theorem strings_Split.calls (a0 : ByteArray) (a1 : ByteArray) (r : List ByteArray) (w : World) (h : strings_Split.f a0 a1 = some r) (PQM_ : Aside0 (Sh.HasM w)) :
  Calls Tryz.prog 24 #[.string a0, .string a1] w fun e w' => ∃ v0_ : Value, e = .returned (v0_) ∧ Kd.R Kd.string 9 w' w.heap.size (fun _ => True) v0_ r ∧ Below w.heap.size w w' := by
 unfold strings_Split.f at h
 by_cases hm : a0.size < 4294967281 ∧ 1 ≤ a1.size
 rotate_left
 ·rw [if_neg hm] at h
  exact absurd h (by simp)
 rw [if_pos hm] at h
 obtain rfl := Option.some.inj h
 exact Sh.split_calls a0 a1 hm.1 hm.2 w PQM_.out
-- NOT PRINTED: function 64 (stringslite_Cut)
def strings_Cut.f (a0 : ByteArray) (a1 : ByteArray) : Option (ByteArray × ByteArray × Bool) := if a0.size < 4294967281 then some (Sh.cutS a0 a1) else none
theorem strings_Cut.calls (a0 : ByteArray) (a1 : ByteArray) (r1 : ByteArray) (r2 : ByteArray) (r3 : Bool) (w : World) (h : strings_Cut.f a0 a1 = some (r1, r2, r3)) (PQM_ : Aside0 (Sh.HasM w)) :
  Calls Tryz.prog 25 #[.string a0, .string a1] w fun e w' => e = .returned (.tuple #[.string r1, .string r2, .bool r3]) ∧ Below w.heap.size w w' := by
 unfold strings_Cut.f at h
 by_cases hm : a0.size < 4294967281
 rotate_left
 ·rw [if_neg hm] at h
  exact absurd h (by simp)
 rw [if_pos hm] at h
 have e := Option.some.inj h
 have := Sh.cut_calls a0 a1 hm w PQM_.out
 rw [e] at this
 exact this
mutual
def impl_number.j0 : Nat → ByteArray → Bool → Option (Int × Bool)
 | 0, _, _ => none
 | k + 1, x0, x19 => if x19 = true then (some (0, false)) else (impl_number.l0 k x0 0 0)
def impl_number.l0 : Nat → ByteArray → Int → Int → Option (Int × Bool)
 | 0, _, _, _ => none
 | k + 1, x0, x4, x5 => if x5 < (x0.size : Int) then (if 0 ≤ x5 then ((impl_in.f (wrap64 (bt x0 x5)) 48 57).bind fun t145 => (if t145 = true then (impl_number.l0 k x0 (wrap64 ((wrap64 (10 * x4)) + (((bt x0 x5) - 48) % 256))) (wrap64 (x5 + 1))) else (some (0, false)))) else (none)) else (some (x4, true))
end
def impl_number.f (k : Nat) (a0 : ByteArray) : Option (Int × Bool) := (impl_in.f (a0.size : Int) 1 9).bind fun t144 => (if t144 = true then (if 0 < (a0.size : Int) then (if (bt a0 0) = 48 then (impl_number.j0 k a0 (decide ((a0.size : Int) > 1))) else (impl_number.j0 k a0 false)) else (none)) else (impl_number.j0 k a0 true))
theorem impl_number.calls (k : Nat) (a0 : ByteArray) (r1 : Int) (r2 : Bool) (w : World) (h : impl_number.f k a0 = some (r1, r2)) :
  Calls Tryz.prog 26 #[.string a0] w fun e w' => e = .returned (.tuple #[.int .i64 r1, .bool r2]) ∧ Drawn0 w w' := by
 have H : ((impl_in.f (a0.size : Int) 1 9).bind fun t144 => (if t144 = true then (if 0 < (a0.size : Int) then (if (bt a0 0) = 48 then (impl_number.j0 k a0 (decide ((a0.size : Int) > 1))) else (impl_number.j0 k a0 false)) else (none)) else (impl_number.j0 k a0 true))) = some (r1, r2) := h
 clear h
 have HC2 := am H
 clear H
 go_enter Tryz.func26, Tryz.ntmps26
 go_upto_region 1 with (fail)
 go_cut [19] (fun v19 wc => ∃ (kq : Nat) (x19_1 : Bool), v19 = .bool x19_1 ∧ Aside0 (impl_number.j0 kq a0 x19_1 = some (r1, r2)) ∧ Aside0 (kq ≤ k) ∧ Drawn0 w wc)
 case first =>
  have H := HC2.out
  clear HC2
  replace ⟨t144, A3, H⟩ := oa H
  by_cases c4 : t144 = true
  rotate_left
  ·replace c4 := bF c4
   subst c4
   rw [if_neg nF] at H
   have H' := am H
   clear H
   go_wp2_with ((with_reducible refine gg ?_); refine gL 8 Tryz.func33 #[.int .i64 (a0.size : Int), .int .i64 1, .int .i64 9] ?_; (with_reducible refine (impl_in.calls (a0.size : Int) 1 9 false _ A3.out).mono ?_); rintro e w' ⟨rfl, ⟨nd, rfl⟩⟩; refine ⟨_, rfl, ?_⟩)
   go_meet
   case rel => exact ⟨_, (true), xR, H', ⟨xO⟩, xW⟩
  subst c4
  rw [if_pos rfl] at H
  replace ⟨c5, H⟩ := ip H
  have c5b0 := dt c5
  have c5b1 : decide (0 < a0.size) = true := dt (by omega)
  clear c5
  (first | rw [c5b0] | rw [c5b1] | (simp only [i64_w, i32_w]; rw [c5b0]) | skip)
  by_cases c7 : (bt a0 0) = 48
  rotate_left
  ·rw [if_neg c7] at H
   have c7b0 := beq_eq_false_iff_ne.mpr c7
   have c7b1 := bne_iff_ne.mpr c7
   have H' := am H
   clear H
   go_wp2_with ((with_reducible refine gg ?_); refine gL 8 Tryz.func33 #[.int .i64 (a0.size : Int), .int .i64 1, .int .i64 9] ?_; (with_reducible refine (impl_in.calls (a0.size : Int) 1 9 true _ A3.out).mono ?_); rintro e w' ⟨rfl, ⟨nd, rfl⟩⟩; refine ⟨_, rfl, ?_⟩; have p6 : 0 ≤ (0 : Int) := (by omega); have q6 : 0 < a0.size := (by have : (0 : Int) < (a0.size : Int) := oX; omega); have hx6 : ∀ h : 0 < a0.size, ((a0[0]'h).toNat : Int) = bt a0 0 := bt_at a0 0; clear p6; have qi6 : (0 < (a0.size : Int)) = True := eq_true (oX); replace q6 := eq_true q6)
   go_meet
   case rel => exact ⟨_, (false), xR, H', ⟨xO⟩, xW⟩
  rw [if_pos c7] at H
  have c7b0 := beq_iff_eq.mpr c7
  have c7b1 := bne_eq_false_iff_eq.mpr c7
  clear c7
  have H' := am H
  clear H
  go_wp2_with ((with_reducible refine gg ?_); refine gL 8 Tryz.func33 #[.int .i64 (a0.size : Int), .int .i64 1, .int .i64 9] ?_; (with_reducible refine (impl_in.calls (a0.size : Int) 1 9 true _ A3.out).mono ?_); rintro e w' ⟨rfl, ⟨nd, rfl⟩⟩; refine ⟨_, rfl, ?_⟩; have p6 : 0 ≤ (0 : Int) := (by omega); have q6 : 0 < a0.size := (by have : (0 : Int) < (a0.size : Int) := oX; omega); have hx6 : ∀ h : 0 < a0.size, ((a0[0]'h).toNat : Int) = bt a0 0 := bt_at a0 0; clear p6; have qi6 : (0 < (a0.size : Int)) = True := eq_true (oX); replace q6 := eq_true q6)
  go_meet
  case rel => exact ⟨_, (decide ((a0.size : Int) > 1)), xR, H', ⟨xO⟩, xW⟩
 case rest =>
  clear HC2
  obtain ⟨kq, x19_1, rfl, HA, HJ1, ⟨mc1, rfl⟩⟩ := hcut
  cases kq with
  | zero => exact absurd HA.out (by simp [impl_number.j0])
  | succ kj1 =>
   have H := HA.out
   clear HA
   simp only [impl_number.j0] at H
   by_cases c8 : x19_1 = true
   ·subst c8
    rw [if_pos rfl] at H
    simp only [Option.some.injEq, Prod.mk.injEq] at H
    obtain ⟨rfl, rfl⟩ := H
    go_wp2
    go_ret2
    exact ⟨xR, xW⟩
   replace c8 := bF c8
   subst c8
   rw [if_neg nF] at H
   have H' := am H
   clear H
   go_wp2
   go_loopg [4, 5] kj1 (fun kq v4 v5 w' => ∃ (x4_2 : Int) (x5_2 : Int), v4 = .int .i64 x4_2 ∧ v5 = .int .i64 x5_2 ∧ Aside0 (impl_number.l0 kq a0 x4_2 x5_2 = some (r1, r2)) ∧ Aside0 (kq ≤ kj1) ∧ Drawn0 w w')
   case atStart => exact ⟨(0), (0), xR, xR, H', ⟨Nat.le_refl _⟩, xW⟩
   case round =>
    clear H'
    try clear c8
    obtain ⟨x4_2, x5_2, rfl, rfl, HA, HK2, ⟨m2, rfl⟩⟩ := hrel
    cases gk with
    | zero => exact absurd HA.out (by simp [impl_number.l0])
    | succ k2 =>
     have H := HA.out
     clear HA
     simp only [impl_number.l0] at H
     by_cases c9 : x5_2 < (a0.size : Int)
     rotate_left
     ·rw [if_neg c9] at H
      have c9b0 := df c9
      clear c9
      simp only [Option.some.injEq, Prod.mk.injEq] at H
      obtain ⟨rfl, rfl⟩ := H
      go_wp2
      go_ret2
      exact ⟨xR, xW⟩
     rw [if_pos c9] at H
     have c9b0 := dt c9
     clear c9
     replace ⟨c10b0, H⟩ := ipd H
     replace ⟨t145, A12, H⟩ := oa H
     have p11 : 0 ≤ (x5_2 : Int) := oX
     have q11 : x5_2 < (a0.size : Int) := oX
     have hx11 := bt_at a0 x5_2
     replace ⟨p11, q11⟩ := eT p11 q11
     go_upto_if 31 with ((with_reducible refine gg ?_); refine gL 30 Tryz.func33 #[.int .i64 (wrap64 (bt a0 x5_2)), .int .i64 48, .int .i64 57] ?_; (with_reducible refine (impl_in.calls (wrap64 (bt a0 x5_2)) 48 57 t145 _ A12.out).mono ?_); rintro e w' ⟨rfl, ⟨nd, rfl⟩⟩; refine ⟨_, rfl, ?_⟩)
     by_cases c13 : t145 = true
     rotate_left
     ·replace c13 := bF c13
      subst c13
      try simp only [Bool.not_true, Bool.not_false]
      rw [if_neg nF] at H
      simp only [Option.some.injEq, Prod.mk.injEq] at H
      obtain ⟨rfl, rfl⟩ := H
      go_wp2
      go_ret2
      exact ⟨xR, xW⟩
     subst c13
     try simp only [Bool.not_true, Bool.not_false]
     rw [if_pos rfl] at H
     have H' := am H
     clear H
     have p14 : 0 ≤ (x5_2 : Int) := oX
     have q14 : x5_2 < (a0.size : Int) := oX
     have hx14 := bt_at a0 x5_2
     replace ⟨p14, q14⟩ := eT p14 q14
     go_wp2
     go_roundg k2
     case measure => have := HJ1.out; have := HK2.out; omega
     case rel => exact ⟨(wrap64 ((wrap64 (10 * x4_2)) + (((bt a0 x5_2) - 48) % 256))), (wrap64 (x5_2 + 1)), xR, xR, H', ⟨by have := HJ1.out; have := HK2.out; omega⟩, xW⟩
open Kd
set_option linter.unusedVariables false
set_option linter.unusedSimpArgs false
set_option maxHeartbeats 64000000
set_option maxRecDepth 100000
def impl_HeadGet.f (k : Nat) (a0 : ByteArray) : Option (ByteArray × ByteArray × Int × Int × Int × Bool) := (strings_Split.f a0 (⟨#[32]⟩ : ByteArray)).bind fun t147 => (if (t147.length : Int) = 5 then (if 2 < (t147.length : Int) then ((impl_number.f k (rdOf ByteArray.empty t147 2)).bind fun bt151 => (if 3 < (t147.length : Int) then ((impl_number.f k (rdOf ByteArray.empty t147 3)).bind fun bt154 => (if 4 < (t147.length : Int) then ((impl_number.f k (rdOf ByteArray.empty t147 4)).bind fun bt157 => (if 0 < (t147.length : Int) then (if 1 < (t147.length : Int) then (if bt151.2 = true then (if bt154.2 = true then (if bt157.2 = true then ((impl_headOk.f k (rdOf ByteArray.empty t147 0) (rdOf ByteArray.empty t147 1) bt151.1 bt154.1 bt157.1).bind fun t162 => (if t162 = true then (some (rdOf ByteArray.empty t147 0, rdOf ByteArray.empty t147 1, bt151.1, bt154.1, bt157.1, true)) else (some ((⟨#[]⟩ : ByteArray), (⟨#[]⟩ : ByteArray), 0, 0, 0, false)))) else (some ((⟨#[]⟩ : ByteArray), (⟨#[]⟩ : ByteArray), 0, 0, 0, false))) else (some ((⟨#[]⟩ : ByteArray), (⟨#[]⟩ : ByteArray), 0, 0, 0, false))) else (some ((⟨#[]⟩ : ByteArray), (⟨#[]⟩ : ByteArray), 0, 0, 0, false))) else (none)) else (none))) else (none))) else (none))) else (none)) else (some ((⟨#[]⟩ : ByteArray), (⟨#[]⟩ : ByteArray), 0, 0, 0, false)))
def impl_HeadGet.T7 : Bool × List (List Nat × List Nat) := (true, [([], []), ([0], [0]), ([1], [1]), ([], []), ([3], [3]), ([4], [4]), ([], []), ([], []), ([], []), ([2, 5, 6, 7, 8], [2, 5, 6, 7, 8]), ([], []), ([10, 9, 0, 1, 2, 3, 4, 5, 6, 7, 8, 9, 10], [9, 10])])
def impl_HeadGet.B7 : List Nat := [0, 1, 3, 0, 8, 24, 0, 0, 0, 511, 0, 2047]
theorem impl_HeadGet.tab7 : rtab .any (opsOf Tryz.f27 7) = impl_HeadGet.T7 := by kernel_rfl
theorem impl_HeadGet.bits7 : waitsOk impl_HeadGet.T7.2 impl_HeadGet.B7 = true := by kernel_rfl
theorem impl_HeadGet.calls (k : Nat) (a0 : ByteArray) (r1 : ByteArray) (r2 : ByteArray) (r3 : Int) (r4 : Int) (r5 : Int) (r6 : Bool) (w : World) (h : impl_HeadGet.f k a0 = some (r1, r2, r3, r4, r5, r6)) (PQM_ : Aside0 (Sh.HasM w)) :
  Calls Tryz.prog 27 #[.string a0] w fun e w' => e = .returned (.tuple #[.agg #[.string r1, .string r2, .int .i64 r3, .int .i64 r4, .int .i64 r5], .bool r6]) ∧ Below w.heap.size w w' := by
 have hu24 := Tryz.underlying24
 have HB := am (Below.refl w.heap.size w)
 have H : ((strings_Split.f a0 (⟨#[32]⟩ : ByteArray)).bind fun t147 => (if (t147.length : Int) = 5 then (if 2 < (t147.length : Int) then ((impl_number.f k (rdOf ByteArray.empty t147 2)).bind fun bt151 => (if 3 < (t147.length : Int) then ((impl_number.f k (rdOf ByteArray.empty t147 3)).bind fun bt154 => (if 4 < (t147.length : Int) then ((impl_number.f k (rdOf ByteArray.empty t147 4)).bind fun bt157 => (if 0 < (t147.length : Int) then (if 1 < (t147.length : Int) then (if bt151.2 = true then (if bt154.2 = true then (if bt157.2 = true then ((impl_headOk.f k (rdOf ByteArray.empty t147 0) (rdOf ByteArray.empty t147 1) bt151.1 bt154.1 bt157.1).bind fun t162 => (if t162 = true then (some (rdOf ByteArray.empty t147 0, rdOf ByteArray.empty t147 1, bt151.1, bt154.1, bt157.1, true)) else (some ((⟨#[]⟩ : ByteArray), (⟨#[]⟩ : ByteArray), 0, 0, 0, false)))) else (some ((⟨#[]⟩ : ByteArray), (⟨#[]⟩ : ByteArray), 0, 0, 0, false))) else (some ((⟨#[]⟩ : ByteArray), (⟨#[]⟩ : ByteArray), 0, 0, 0, false))) else (some ((⟨#[]⟩ : ByteArray), (⟨#[]⟩ : ByteArray), 0, 0, 0, false))) else (none)) else (none))) else (none))) else (none))) else (none)) else (some ((⟨#[]⟩ : ByteArray), (⟨#[]⟩ : ByteArray), 0, 0, 0, false)))) = some (r1, r2, r3, r4, r5, r6) := h
 clear h
 replace ⟨t147, A2, H⟩ := oa H
 go_enter Tryz.func27, Tryz.ntmps27
 go_upto_if 16 with ((with_reducible refine gg ?_); first | (refine bE 2 #[.string (⟨#[]⟩ : ByteArray), .string (⟨#[]⟩ : ByteArray), .int .i64 0, .int .i64 0, .int .i64 0] 24 ?_; intro gb146 hg w17 hbox hb; have BK146 := am (hbox); have GW146 := zB hg HB; have GE146 := zB hg HB; replace HB := kH HB hb; clear hb hbox hg) | (refine gL 13 Tryz.func24 #[.string a0, .string (⟨#[32]⟩ : ByteArray)] ?_; (with_reducible refine (strings_Split.calls a0 (⟨#[32]⟩ : ByteArray) t147 _ A2.out (am (Sh.hasM_of PQM_ (xB HB)))).mono ?_); rintro e w18 ⟨v148, rfl, ho0, hb⟩; refine ⟨_, rfl, ?_⟩; have HO149 := am (R_lower ho0 (below_size (xB HB))); replace BK146 := kP _ BK146 hb; replace HB := kH HB hb; (try clear hb); (try clear ho0); obtain ⟨Ao19, co19, rfl⟩ := R_slice HO149.out))
 by_cases c3 : (t147.length : Int) = 5
 rotate_left
 ·rw [if_neg c3] at H
  have c3b0 := beq_eq_false_iff_ne.mpr c3
  have c3b1 := bne_iff_ne.mpr c3
  try simp only [c3b0, c3b1, Bool.not_true, Bool.not_false]
  simp only [Option.some.injEq, Prod.mk.injEq] at H
  obtain ⟨rfl, rfl, rfl, rfl, rfl, rfl⟩ := H
  have hz85 := bc5 BK146
  go_wp2
  refine bodyPost_ret (results_ct rfl _ _ gb146 24 #[.string (⟨#[]⟩ : ByteArray), .string (⟨#[]⟩ : ByteArray), .int .i64 0, .int .i64 0, .int .i64 0] (0, 0) _ rfl (fb BK146) Tryz.underlying24 rfl (by kernel_rfl)) rfl ?_
  exact ⟨xE, xB HB⟩
 rw [if_pos c3] at H
 have c3b0 := beq_iff_eq.mpr c3
 have c3b1 := bne_eq_false_iff_eq.mpr c3
 try simp only [c3b0, c3b1, Bool.not_true, Bool.not_false]
 clear c3
 replace ⟨c4, H⟩ := ip H
 have c4b0 := dt c4
 have c4b1 : decide (2 < t147.length) = true := dt (by omega)
 clear c4
 replace H := Option.bind_eq_some_iff.mp H
 obtain ⟨⟨t151, t152⟩, A50, H⟩ := H
 have A5 := am A50
 clear A50
 replace ⟨c6, H⟩ := ip H
 have c6b0 := dt c6
 have c6b1 : decide (3 < t147.length) = true := dt (by omega)
 clear c6
 replace H := Option.bind_eq_some_iff.mp H
 obtain ⟨⟨t154, t155⟩, A70, H⟩ := H
 have A7 := am A70
 clear A70
 replace ⟨c8, H⟩ := ip H
 have c8b0 := dt c8
 have c8b1 : decide (4 < t147.length) = true := dt (by omega)
 clear c8
 replace H := Option.bind_eq_some_iff.mp H
 obtain ⟨⟨t157, t158⟩, A90, H⟩ := H
 have A9 := am A90
 clear A90
 replace ⟨c10, H⟩ := ip H
 have c10b0 := dt c10
 have c10b1 : decide (0 < t147.length) = true := dt (by omega)
 clear c10
 replace ⟨c11, H⟩ := ip H
 have c11b0 := dt c11
 have c11b1 : decide (1 < t147.length) = true := dt (by omega)
 clear c11
 have p150 : 0 ≤ (2 : Int) := (by omega)
 have q150 : 2 < (t147.length : Int) := oX
 obtain ⟨ad150, e150, hx150_0⟩ := at_string (R_reads' HO149.out).2.2 2 p150 q150
 cases e150
 (try simp only [show (2 : Int).toNat = 2 from rfl, Nat.reduceMul, Nat.reduceEqDiff, Go.Addr.add, ↓reduceIte] at hx150_0)
 have qi150 : (2 < t147.length) = True := eq_true (by omega)
 (try rw [show ((2 : Int)).toNat = 2 from rfl] at hx150_0)
 replace ⟨p150, q150⟩ := eT p150 q150
 try go_wp2_with ((with_reducible refine gg ?_); first | (refine gL 22 Tryz.func26 #[.string (rdOf ByteArray.empty t147 2)] ?_; (with_reducible refine (impl_number.calls k (rdOf ByteArray.empty t147 2) t151 t152 _ A5.out).mono ?_); rintro e w' ⟨rfl, ⟨nd, rfl⟩⟩; refine ⟨_, rfl, ?_⟩; (try (rw [drewN_self w18]; generalize hq_ : World.drewN w18 _ = w18; have n0_ := dR hq_ HO149; have n1_ := dK hq_ BK146; have n2_ := dB hq_ HB; clear HO149 BK146 HB hq_; have HO149 := n0_; have BK146 := n1_; have HB := n2_; clear n0_ n1_ n2_)); have p153 : 0 ≤ (3 : Int) := (by omega); have q153 : 3 < (t147.length : Int) := oX; obtain ⟨ad153, e153, hx153_0⟩ := at_string (R_reads' HO149.out).2.2 3 p153 q153; obtain rfl : ad150 = ad153 := (by injection e153); (try simp only [show (3 : Int).toNat = 3 from rfl, Nat.reduceMul, Nat.reduceEqDiff, Go.Addr.add, ↓reduceIte] at hx153_0); have qi153 : (3 < t147.length) = True := eq_true (by omega); (try rw [show ((3 : Int)).toNat = 3 from rfl] at hx153_0); replace ⟨p153, q153⟩ := eT p153 q153) | (refine gL 29 Tryz.func26 #[.string (rdOf ByteArray.empty t147 3)] ?_; (with_reducible refine (impl_number.calls k (rdOf ByteArray.empty t147 3) t154 t155 _ A7.out).mono ?_); rintro e w' ⟨rfl, ⟨nd, rfl⟩⟩; refine ⟨_, rfl, ?_⟩; (try (rw [drewN_self w18]; generalize hq_ : World.drewN w18 _ = w18; have n0_ := dR hq_ HO149; have n1_ := dK hq_ BK146; have n2_ := dB hq_ HB; clear HO149 BK146 HB hq_; have HO149 := n0_; have BK146 := n1_; have HB := n2_; clear n0_ n1_ n2_)); have p156 : 0 ≤ (4 : Int) := (by omega); have q156 : 4 < (t147.length : Int) := oX; obtain ⟨ad156, e156, hx156_0⟩ := at_string (R_reads' HO149.out).2.2 4 p156 q156; obtain rfl : ad150 = ad156 := (by injection e156); (try simp only [show (4 : Int).toNat = 4 from rfl, Nat.reduceMul, Nat.reduceEqDiff, Go.Addr.add, ↓reduceIte] at hx156_0); have qi156 : (4 < t147.length) = True := eq_true (by omega); (try rw [show ((4 : Int)).toNat = 4 from rfl] at hx156_0); replace ⟨p156, q156⟩ := eT p156 q156) | (refine gL 36 Tryz.func26 #[.string (rdOf ByteArray.empty t147 4)] ?_; (with_reducible refine (impl_number.calls k (rdOf ByteArray.empty t147 4) t157 t158 _ A9.out).mono ?_); rintro e w' ⟨rfl, ⟨nd, rfl⟩⟩; refine ⟨_, rfl, ?_⟩; (try (rw [drewN_self w18]; generalize hq_ : World.drewN w18 _ = w18; have n0_ := dR hq_ HO149; have n1_ := dK hq_ BK146; have n2_ := dB hq_ HB; clear HO149 BK146 HB hq_; have HO149 := n0_; have BK146 := n1_; have HB := n2_; clear n0_ n1_ n2_))))
 replace HO149 := am (R_drew HO149.out)
 replace BK146 := am (blk_drew BK146.out)
 replace HB := am (below_drew1 HB.out)
 have p159 : 0 ≤ (0 : Int) := (by omega)
 have q159 : 0 < (t147.length : Int) := oX
 obtain ⟨ad159, e159, hx159_0⟩ := at_string (R_reads' HO149.out).2.2 0 p159 q159
 obtain rfl : ad150 = ad159 := (by injection e159)
 have qi159 : (0 < t147.length) = True := eq_true (by omega)
 (try rw [show ((0 : Int)).toNat = 0 from rfl] at hx159_0)
 (try rw [Addr.add_zero'] at hx159_0)
 replace ⟨p159, q159⟩ := eT p159 q159
 have p160 : 0 ≤ (1 : Int) := (by omega)
 have q160 : 1 < (t147.length : Int) := oX
 obtain ⟨ad160, e160, hx160_0⟩ := at_string (R_reads' HO149.out).2.2 1 p160 q160
 obtain rfl : ad150 = ad160 := (by injection e160)
 (try simp only [show (1 : Int).toNat = 1 from rfl, Nat.reduceMul, Nat.reduceEqDiff, Go.Addr.add, ↓reduceIte] at hx160_0)
 have qi160 : (1 < t147.length) = True := eq_true (by omega)
 (try rw [show ((1 : Int)).toNat = 1 from rfl] at hx160_0)
 replace ⟨p160, q160⟩ := eT p160 q160
 refine start_ (n := 12) (S := fun w' => w'.cell? ad150 = some (.string (rdOf ByteArray.empty t147 0)) ∧ w'.cell? ⟨ad150.block, ad150.off + 1, none⟩ = some (.string (rdOf ByteArray.empty t147 1))) (ds := []) (bm 12 0) (by kernel_rfl) rfl rfl ⟨hx159_0, hx160_0⟩ (fun hHeld => ?_); refine with_tabW impl_HeadGet.tab7 impl_HeadGet.bits7 (fun HT_ HW_ => ?_)
 generalize w18.drew = w20 at HO149 BK146 HB hx159_0 hx160_0 hHeld ⊢
 refine pA 0 39 (bm 12 1) HT_ ?_
 refine pA 1 40 (bm 12 3) HT_ ?_
 refine pA 3 42 (bm 12 11) HT_ ?_
 refine pA 4 43 (bm 12 27) HT_ ?_
 refine pA 6 45 (bm 12 91) HT_ ?_
 refine pA 7 46 (bm 12 219) HT_ ?_
 refine pA 8 47 (bm 12 475) HT_ ?_
 refine tA 2 41 (bm 12 479) HT_ HW_ hHeld ?_
 refine tA 5 44 (bm 12 511) HT_ HW_ hHeld ?_
 refine pA 9 48 (bm 12 1023) HT_ ?_
 refine oA 10 (some 11) (bm 12 2047) HT_ fun K hK => ?_
 refine bS 11 #[.string (⟨#[]⟩ : ByteArray), .string (⟨#[]⟩ : ByteArray), .int .i64 0, .int .i64 0, .int .i64 0] 24 ?_
 intro gb161 hg w21 hbox hb
 have HS0_ := cB hb hHeld.1
 have HS1_ := cB hb hHeld.2
 replace HO149 := rk HO149 hb
 have BK161 := am (hbox)
 have GW161 := zB hg HB
 have GE161 := zB hg HB
 replace HB := kH HB hb
 have NB146_161 := nl hg (kb BK146)
 have NB161_146 := ng hg (kb BK146)
 replace BK146 := kP _ BK146 hb
 clear hb hbox hg
 refine hK.out _ _ ⟨HS0_, HS1_⟩ (fun hHeld => ?_)
 clear hK K
 refine nA (some 11) ?_
 refine oA 11 none (bm 12 4095) HT_ fun K hK => ?_
 have hs22 : w21.cell? ⟨gb161, 0, none⟩ = some (.string (⟨#[]⟩ : ByteArray)) := (blk_cell BK161.out 0).trans rfl
 have hfs22 := blk_frozen BK161.out 0
 have hns22_0 := NB146_161.out
 have hms22_0 := NB161_146.out
 have hs23 : w21.cell? ⟨gb161, 1, none⟩ = some (.string (⟨#[]⟩ : ByteArray)) := (blk_cell BK161.out 1).trans rfl
 have hfs23 := blk_frozen BK161.out 1
 have hns23_0 := NB146_161.out
 have hms23_0 := NB161_146.out
 have hs24 : w21.cell? ⟨gb161, 2, none⟩ = some (.int .i64 0) := (blk_cell BK161.out 2).trans rfl
 have hfs24 := blk_frozen BK161.out 2
 have hns24_0 := NB146_161.out
 have hms24_0 := NB161_146.out
 have hs25 : w21.cell? ⟨gb161, 3, none⟩ = some (.int .i64 0) := (blk_cell BK161.out 3).trans rfl
 have hfs25 := blk_frozen BK161.out 3
 have hns25_0 := NB146_161.out
 have hms25_0 := NB161_146.out
 have hs26 : w21.cell? ⟨gb161, 4, none⟩ = some (.int .i64 0) := (blk_cell BK161.out 4).trans rfl
 have hfs26 := blk_frozen BK161.out 4
 have hns26_0 := NB146_161.out
 have hms26_0 := NB161_146.out
 refine skip_ (w1 := ?_) (by rfl) rfl ?_ ?_
 rotate_left
 ·go_simp
  rfl
 have hne_ := own_blk (R_ne HO149.out BK161.out (by decide))
 refine hK.out _ _ ⟨(cf hne_ hHeld.1), (cf hne_ hHeld.2)⟩ (fun hHeld => ?_)
 clear hK K
 refine done_ (done_of HT_.out (by kernel_rfl)) ?_
 by_cases c12 : t152 = true
 rotate_left
 ·replace c12 := bF c12
  subst c12
  try simp only [Bool.not_true, Bool.not_false]
  rw [if_neg nF] at H
  simp only [Option.some.injEq, Prod.mk.injEq] at H
  obtain ⟨rfl, rfl, rfl, rfl, rfl, rfl⟩ := H
  have hnb80 := NB146_161.out
  have hnc80 := NB161_146.out
  have hz81 := bc5 BK146
  try go_wp2
  refine bodyPost_ret (results_ct rfl _ _ gb146 24 #[.string (⟨#[]⟩ : ByteArray), .string (⟨#[]⟩ : ByteArray), .int .i64 0, .int .i64 0, .int .i64 0] (0, 0) _ rfl (fb BK146) Tryz.underlying24 rfl (by kernel_rfl)) rfl ?_
  exact ⟨xE, xB HB⟩
 subst c12
 try simp only [Bool.not_true, Bool.not_false]
 rw [if_pos rfl] at H
 by_cases c13 : t155 = true
 rotate_left
 ·replace c13 := bF c13
  subst c13
  rw [if_neg nF] at H
  simp only [Option.some.injEq, Prod.mk.injEq] at H
  obtain ⟨rfl, rfl, rfl, rfl, rfl, rfl⟩ := H
  have hnb68 := NB146_161.out
  have hnc68 := NB161_146.out
  have hz69 := bc5 BK146
  try go_wp2
  refine bodyPost_ret (results_ct rfl _ _ gb146 24 #[.string (⟨#[]⟩ : ByteArray), .string (⟨#[]⟩ : ByteArray), .int .i64 0, .int .i64 0, .int .i64 0] (0, 0) _ rfl (fb BK146) Tryz.underlying24 rfl (by kernel_rfl)) rfl ?_
  exact ⟨xE, xB HB⟩
 subst c13
 rw [if_pos rfl] at H
 by_cases c14 : t158 = true
 rotate_left
 ·replace c14 := bF c14
  subst c14
  rw [if_neg nF] at H
  simp only [Option.some.injEq, Prod.mk.injEq] at H
  obtain ⟨rfl, rfl, rfl, rfl, rfl, rfl⟩ := H
  have hnb56 := NB146_161.out
  have hnc56 := NB161_146.out
  have hz57 := bc5 BK146
  try go_wp2
  refine bodyPost_ret (results_ct rfl _ _ gb146 24 #[.string (⟨#[]⟩ : ByteArray), .string (⟨#[]⟩ : ByteArray), .int .i64 0, .int .i64 0, .int .i64 0] (0, 0) _ rfl (fb BK146) Tryz.underlying24 rfl (by kernel_rfl)) rfl ?_
  exact ⟨xE, xB HB⟩
 subst c14
 rw [if_pos rfl] at H
 replace ⟨t162, A15, H⟩ := oa H
 have hnb27 := NB161_146.out
 have hnc27 := NB146_161.out
 have hz28 := bc5 BK161
 go_upto_if 63 with (go_at_call 49; (with_reducible refine (impl_headOk.calls k (rdOf ByteArray.empty t147 0) (rdOf ByteArray.empty t147 1) t151 t154 t157 t162 _ A15.out).mono ?_); rintro e w29 ⟨rfl, hb⟩; replace HO149 := am (R_below (rf HO149 BK161) hb); replace BK146 := kP _ BK146 hb; replace BK161 := kP (.cells #[.string (rdOf ByteArray.empty t147 0), .string (rdOf ByteArray.empty t147 1), .int .i64 t151, .int .i64 t154, .int .i64 t157] 24 (0, 0)) BK161 hb; replace HB := kH HB hb; (try clear hb))
 by_cases c16 : t162 = true
 ·subst c16
  try simp only [Bool.not_true, Bool.not_false]
  rw [if_pos rfl] at H
  simp only [Option.some.injEq, Prod.mk.injEq] at H
  obtain ⟨rfl, rfl, rfl, rfl, rfl, rfl⟩ := H
  have hz30 := bc5 BK161
  have hz31 := bc5 BK146
  try go_wp2
  refine bodyPost_ret (results_ct rfl _ _ gb146 24 #[.string (rdOf ByteArray.empty t147 0), .string (rdOf ByteArray.empty t147 1), .int .i64 t151, .int .i64 t154, .int .i64 t157] (0, 0) _ rfl (fb BK146) Tryz.underlying24 rfl (by kernel_rfl)) rfl ?_
  exact ⟨xE, xB HB⟩
 replace c16 := bF c16
 subst c16
 try simp only [Bool.not_true, Bool.not_false]
 rw [if_neg nF] at H
 simp only [Option.some.injEq, Prod.mk.injEq] at H
 obtain ⟨rfl, rfl, rfl, rfl, rfl, rfl⟩ := H
 have hz45 := bc5 BK146
 try go_wp2
 refine bodyPost_ret (results_ct rfl _ _ gb146 24 #[.string (⟨#[]⟩ : ByteArray), .string (⟨#[]⟩ : ByteArray), .int .i64 0, .int .i64 0, .int .i64 0] (0, 0) _ rfl (fb BK146) Tryz.underlying24 rfl (by kernel_rfl)) rfl ?_
 exact ⟨xE, xB HB⟩

end Go.Proofs.YtgjljbaadglpnaaGreatDoor.PFnPaidGet
