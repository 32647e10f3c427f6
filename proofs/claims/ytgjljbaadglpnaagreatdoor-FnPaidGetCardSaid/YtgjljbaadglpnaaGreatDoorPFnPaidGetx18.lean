/- Functions of the program and what each answers: the kit's print, shortened (wip/press2.py). -/
import Derived.Test.YtgjljbaadglpnaaGreatDoorPFnPaidGetx0
import Derived.Test.YtgjljbaadglpnaaGreatDoorPFnPaidGetx14
import Derived.Test.YtgjljbaadglpnaaGreatDoorPFnPaidGetx16
namespace Go.Proofs.YtgjljbaadglpnaaGreatDoor.PFnPaidGet
open Go.Proofs.YtgjljbaadglpnaaGreatDoor.Sq Go.RowKit Go.Proofs.YtgjljbaadglpnaaGreatDoorW.PrintWords Go.Proofs.YtgjljbaadglpnaaGreatDoorW.PrintLast Go.Proofs.YtgjljbaadglpnaaGreatDoorW.PrintMore
open Kd
set_option linter.unusedVariables false
set_option linter.unusedSimpArgs false
set_option maxHeartbeats 64000000
set_option maxRecDepth 100000
def spec_l9Put.f (k : Nat) (a0_0 : Int) (a0_1 : ByteArray) (a0_2 : ByteArray) (a0_3 : Int) (a0_4 : Int) (a0_5 : Int) (l0_6 : List S93) (l0_7 : List S93) (l0_8 : List S48) : Option (ByteArray) := (spec_l1Dec.f k a0_0).bind fun t301 => (if t301.size + 1 ≤ 9223372036854775807 then ((spec_l3Put.f k a0_1 a0_2 a0_3 a0_4 a0_5).bind fun t302 => (if (t301 ++ (⟨#[32]⟩ : ByteArray)).size + t302.size ≤ 9223372036854775807 then (if ((t301 ++ (⟨#[32]⟩ : ByteArray)) ++ t302).size + 6 ≤ 9223372036854775807 then ((spec_l9Peaks.f k l0_6).bind fun t303 => (if (((t301 ++ (⟨#[32]⟩ : ByteArray)) ++ t302) ++ (⟨#[10, 112, 101, 97, 107, 115]⟩ : ByteArray)).size + t303.size ≤ 9223372036854775807 then (if ((((t301 ++ (⟨#[32]⟩ : ByteArray)) ++ t302) ++ (⟨#[10, 112, 101, 97, 107, 115]⟩ : ByteArray)) ++ t303).size + 6 ≤ 9223372036854775807 then ((spec_l9Peaks.f k l0_7).bind fun t304 => (if (((((t301 ++ (⟨#[32]⟩ : ByteArray)) ++ t302) ++ (⟨#[10, 112, 101, 97, 107, 115]⟩ : ByteArray)) ++ t303) ++ (⟨#[10, 115, 116, 101, 112, 115]⟩ : ByteArray)).size + t304.size ≤ 9223372036854775807 then (if ((((((t301 ++ (⟨#[32]⟩ : ByteArray)) ++ t302) ++ (⟨#[10, 112, 101, 97, 107, 115]⟩ : ByteArray)) ++ t303) ++ (⟨#[10, 115, 116, 101, 112, 115]⟩ : ByteArray)) ++ t304).size + 6 ≤ 9223372036854775807 then ((spec_l9Sides.f k l0_8).bind fun t305 => (if (((((((t301 ++ (⟨#[32]⟩ : ByteArray)) ++ t302) ++ (⟨#[10, 112, 101, 97, 107, 115]⟩ : ByteArray)) ++ t303) ++ (⟨#[10, 115, 116, 101, 112, 115]⟩ : ByteArray)) ++ t304) ++ (⟨#[10, 115, 105, 100, 101, 115]⟩ : ByteArray)).size + t305.size ≤ 9223372036854775807 then (if ((((((((t301 ++ (⟨#[32]⟩ : ByteArray)) ++ t302) ++ (⟨#[10, 112, 101, 97, 107, 115]⟩ : ByteArray)) ++ t303) ++ (⟨#[10, 115, 116, 101, 112, 115]⟩ : ByteArray)) ++ t304) ++ (⟨#[10, 115, 105, 100, 101, 115]⟩ : ByteArray)) ++ t305).size + 1 ≤ 9223372036854775807 then (some (((((((((t301 ++ (⟨#[32]⟩ : ByteArray)) ++ t302) ++ (⟨#[10, 112, 101, 97, 107, 115]⟩ : ByteArray)) ++ t303) ++ (⟨#[10, 115, 116, 101, 112, 115]⟩ : ByteArray)) ++ t304) ++ (⟨#[10, 115, 105, 100, 101, 115]⟩ : ByteArray)) ++ t305) ++ (⟨#[10]⟩ : ByteArray))) else (none)) else (none))) else (none)) else (none))) else (none)) else (none))) else (none)) else (none))) else (none))
def spec_l9Put.T1 : Bool × List (List Nat × List Nat) := (true, [([], []), ([0], [0]), ([1], [1]), ([2], [2]), ([], []), ([4], [4]), ([5, 2], [5]), ([3, 6], [3, 6]), ([7], [7]), ([], []), ([9], [9]), ([10], [10]), ([11, 6], [11]), ([8, 12], [8, 12]), ([13], [13]), ([], []), ([15], [15]), ([16], [16]), ([17, 12], [17]), ([14, 18], [14, 18]), ([19], [19]), ([], []), ([21], [21]), ([22, 18], [22]), ([20, 23], [20, 23]), ([24], [24]), ([25, 23, 0, 1, 2, 3, 4, 5, 6, 7, 8, 9, 10, 11, 12, 13, 14, 15, 16, 17, 18, 19, 20, 21, 22, 23, 24, 25], [25])])
def spec_l9Put.B1 : List Nat := [0, 1, 3, 7, 0, 16, 55, 127, 255, 0, 512, 1536, 3703, 8191, 16383, 0, 32768, 98304, 237175, 524287, 1048575, 0, 2097152, 6790775, 16777215, 33554431, 67108863]
theorem spec_l9Put.tab1 : rtab .any (opsOf Tryz.f23 1) = spec_l9Put.T1 := by kernel_rfl
theorem spec_l9Put.bits1 : waitsOk spec_l9Put.T1.2 spec_l9Put.B1 = true := by kernel_rfl
theorem spec_l9Put.calls (k : Nat) (a0_0 : Int) (a0_1 : ByteArray) (a0_2 : ByteArray) (a0_3 : Int) (a0_4 : Int) (a0_5 : Int) (A0_6 : Option Addr) (c0_6 : Nat) (l0_6 : List S93) (A0_7 : Option Addr) (c0_7 : Nat) (l0_7 : List S93) (A0_8 : Option Addr) (c0_8 : Nat) (l0_8 : List S48) (r : ByteArray) (w : World) (hr0_6 : Kd.C k93 w A0_6 l0_6.length l0_6) (hc0_6 : l0_6.length ≤ c0_6) (hr0_7 : Kd.C k93 w A0_7 l0_7.length l0_7) (hc0_7 : l0_7.length ≤ c0_7) (hr0_8 : Kd.C k48 w A0_8 l0_8.length l0_8) (hc0_8 : l0_8.length ≤ c0_8) (h : spec_l9Put.f k a0_0 a0_1 a0_2 a0_3 a0_4 a0_5 l0_6 l0_7 l0_8 = some r) :
  Calls Tryz.prog 23 #[.agg #[.int .i64 a0_0, .string a0_1, .string a0_2, .int .i64 a0_3, .int .i64 a0_4, .int .i64 a0_5, .slice A0_6 l0_6.length c0_6, .slice A0_7 l0_7.length c0_7, .slice A0_8 l0_8.length c0_8]] w fun e w' => e = .returned (.string r) ∧ Below w.heap.size w w' := by
 have hu30 := Tryz.underlying30
 have hu24 := Tryz.underlying24
 have HR0_6 := am hr0_6
 have HC0_6 := am hc0_6
 clear hr0_6 hc0_6
 have HR0_7 := am hr0_7
 have HC0_7 := am hc0_7
 clear hr0_7 hc0_7
 have HR0_8 := am hr0_8
 have HC0_8 := am hc0_8
 clear hr0_8 hc0_8
 have HB := am (Below.refl w.heap.size w)
 have H : ((spec_l1Dec.f k a0_0).bind fun t301 => (if t301.size + 1 ≤ 9223372036854775807 then ((spec_l3Put.f k a0_1 a0_2 a0_3 a0_4 a0_5).bind fun t302 => (if (t301 ++ (⟨#[32]⟩ : ByteArray)).size + t302.size ≤ 9223372036854775807 then (if ((t301 ++ (⟨#[32]⟩ : ByteArray)) ++ t302).size + 6 ≤ 9223372036854775807 then ((spec_l9Peaks.f k l0_6).bind fun t303 => (if (((t301 ++ (⟨#[32]⟩ : ByteArray)) ++ t302) ++ (⟨#[10, 112, 101, 97, 107, 115]⟩ : ByteArray)).size + t303.size ≤ 9223372036854775807 then (if ((((t301 ++ (⟨#[32]⟩ : ByteArray)) ++ t302) ++ (⟨#[10, 112, 101, 97, 107, 115]⟩ : ByteArray)) ++ t303).size + 6 ≤ 9223372036854775807 then ((spec_l9Peaks.f k l0_7).bind fun t304 => (if (((((t301 ++ (⟨#[32]⟩ : ByteArray)) ++ t302) ++ (⟨#[10, 112, 101, 97, 107, 115]⟩ : ByteArray)) ++ t303) ++ (⟨#[10, 115, 116, 101, 112, 115]⟩ : ByteArray)).size + t304.size ≤ 9223372036854775807 then (if ((((((t301 ++ (⟨#[32]⟩ : ByteArray)) ++ t302) ++ (⟨#[10, 112, 101, 97, 107, 115]⟩ : ByteArray)) ++ t303) ++ (⟨#[10, 115, 116, 101, 112, 115]⟩ : ByteArray)) ++ t304).size + 6 ≤ 9223372036854775807 then ((spec_l9Sides.f k l0_8).bind fun t305 => (if (((((((t301 ++ (⟨#[32]⟩ : ByteArray)) ++ t302) ++ (⟨#[10, 112, 101, 97, 107, 115]⟩ : ByteArray)) ++ t303) ++ (⟨#[10, 115, 116, 101, 112, 115]⟩ : ByteArray)) ++ t304) ++ (⟨#[10, 115, 105, 100, 101, 115]⟩ : ByteArray)).size + t305.size ≤ 9223372036854775807 then (if ((((((((t301 ++ (⟨#[32]⟩ : ByteArray)) ++ t302) ++ (⟨#[10, 112, 101, 97, 107, 115]⟩ : ByteArray)) ++ t303) ++ (⟨#[10, 115, 116, 101, 112, 115]⟩ : ByteArray)) ++ t304) ++ (⟨#[10, 115, 105, 100, 101, 115]⟩ : ByteArray)) ++ t305).size + 1 ≤ 9223372036854775807 then (some (((((((((t301 ++ (⟨#[32]⟩ : ByteArray)) ++ t302) ++ (⟨#[10, 112, 101, 97, 107, 115]⟩ : ByteArray)) ++ t303) ++ (⟨#[10, 115, 116, 101, 112, 115]⟩ : ByteArray)) ++ t304) ++ (⟨#[10, 115, 105, 100, 101, 115]⟩ : ByteArray)) ++ t305) ++ (⟨#[10]⟩ : ByteArray))) else (none)) else (none))) else (none)) else (none))) else (none)) else (none))) else (none)) else (none))) else (none))) = some r := h
 clear h
 replace ⟨t301, A2, H⟩ := oa H
 replace ⟨c3, H⟩ := ip H
 have c3b0 := eq_true c3
 have c3b1 := dt c3
 have c3b2 := nf c3
 replace ⟨t302, A4, H⟩ := oa H
 replace ⟨c5, H⟩ := ip H
 have c5b0 := eq_true c5
 have c5b1 := dt c5
 have c5b2 := nf c5
 try (have c5b3 := c5b2; simp only [ByteArray.size_append, show (⟨#[32]⟩ : ByteArray).size = 1 from rfl] at c5b3)
 replace ⟨c6, H⟩ := ip H
 have c6b0 := eq_true c6
 have c6b1 := dt c6
 have c6b2 := nf c6
 try (have c6b3 := c6b2; simp only [ByteArray.size_append, show (⟨#[32]⟩ : ByteArray).size = 1 from rfl] at c6b3)
 replace ⟨t303, A7, H⟩ := oa H
 replace ⟨c8, H⟩ := ip H
 have c8b0 := eq_true c8
 have c8b1 := dt c8
 have c8b2 := nf c8
 try (have c8b3 := c8b2; simp only [ByteArray.size_append, show (⟨#[10, 112, 101, 97, 107, 115]⟩ : ByteArray).size = 6 from rfl, show (⟨#[32]⟩ : ByteArray).size = 1 from rfl] at c8b3)
 replace ⟨c9, H⟩ := ip H
 have c9b0 := eq_true c9
 have c9b1 := dt c9
 have c9b2 := nf c9
 try (have c9b3 := c9b2; simp only [ByteArray.size_append, show (⟨#[10, 112, 101, 97, 107, 115]⟩ : ByteArray).size = 6 from rfl, show (⟨#[32]⟩ : ByteArray).size = 1 from rfl] at c9b3)
 replace ⟨t304, A10, H⟩ := oa H
 replace ⟨c11, H⟩ := ip H
 have c11b0 := eq_true c11
 have c11b1 := dt c11
 have c11b2 := nf c11
 try (have c11b3 := c11b2; simp only [ByteArray.size_append, show (⟨#[10, 112, 101, 97, 107, 115]⟩ : ByteArray).size = 6 from rfl, show (⟨#[10, 115, 116, 101, 112, 115]⟩ : ByteArray).size = 6 from rfl, show (⟨#[32]⟩ : ByteArray).size = 1 from rfl] at c11b3)
 replace ⟨c12, H⟩ := ip H
 have c12b0 := eq_true c12
 have c12b1 := dt c12
 have c12b2 := nf c12
 try (have c12b3 := c12b2; simp only [ByteArray.size_append, show (⟨#[10, 112, 101, 97, 107, 115]⟩ : ByteArray).size = 6 from rfl, show (⟨#[10, 115, 116, 101, 112, 115]⟩ : ByteArray).size = 6 from rfl, show (⟨#[32]⟩ : ByteArray).size = 1 from rfl] at c12b3)
 replace ⟨t305, A13, H⟩ := oa H
 replace ⟨c14, H⟩ := ip H
 have c14b0 := eq_true c14
 have c14b1 := dt c14
 have c14b2 := nf c14
 try (have c14b3 := c14b2; simp only [ByteArray.size_append, show (⟨#[10, 112, 101, 97, 107, 115]⟩ : ByteArray).size = 6 from rfl, show (⟨#[10, 115, 105, 100, 101, 115]⟩ : ByteArray).size = 6 from rfl, show (⟨#[10, 115, 116, 101, 112, 115]⟩ : ByteArray).size = 6 from rfl, show (⟨#[32]⟩ : ByteArray).size = 1 from rfl] at c14b3)
 replace ⟨c15, H⟩ := ip H
 have c15b0 := eq_true c15
 have c15b1 := dt c15
 have c15b2 := nf c15
 try (have c15b3 := c15b2; simp only [ByteArray.size_append, show (⟨#[10, 112, 101, 97, 107, 115]⟩ : ByteArray).size = 6 from rfl, show (⟨#[10, 115, 105, 100, 101, 115]⟩ : ByteArray).size = 6 from rfl, show (⟨#[10, 115, 116, 101, 112, 115]⟩ : ByteArray).size = 6 from rfl, show (⟨#[32]⟩ : ByteArray).size = 1 from rfl] at c15b3)
 obtain rfl := oI H
 go_enter Tryz.func23, Tryz.ntmps23
 try go_wp2_with ((with_reducible refine gg ?_); first | (refine bE 1 #[.int .i64 a0_0, .string a0_1, .string a0_2, .int .i64 a0_3, .int .i64 a0_4, .int .i64 a0_5, .slice A0_6 l0_6.length c0_6, .slice A0_7 l0_7.length c0_7, .slice A0_8 l0_8.length c0_8] 30 ?_; intro gb300 hg w16 hbox hb; have BK300 := am (hbox); have GW300 := zB hg HB; have GE300 := zB hg HB; replace HB := kH HB hb; clear hb hbox hg) | (refine store_event (t := 30) (p := 1) (v := ?vo_) (w1 := ?wo_) ?hg ?ho ?hn ?hr ?_; (case ho => rfl); (case hg => rfl); (case hn => rfl); (case hr => go_simp; rfl); intro wq_ hW_; have BQ_ := am hW_; have hzq_ := am hW_; replace hW_ := am hW_))
 replace BK300 := am (blk_drew BK300.out)
 replace HB := am (below_drew1 HB.out)
 (try (clear hzq_ BQ_; obtain ⟨hW_⟩ := hW_; subst hW_))
 refine start_ (n := 27) (S := cs9 gb300 (.int .i64 a0_0) (.string a0_1) (.string a0_2) (.int .i64 a0_3) (.int .i64 a0_4) (.int .i64 a0_5) (.slice A0_6 l0_6.length c0_6) (.slice A0_7 l0_7.length c0_7) (.slice A0_8 l0_8.length c0_8)) (ds := []) (bm 27 0) (by kernel_rfl) rfl rfl (bz9 BK300) (fun hHeld => ?_); refine with_tabW spec_l9Put.tab1 spec_l9Put.bits1 (fun HT_ HW_ => ?_)
 generalize w16.drew = w17 at BK300 HB hHeld ⊢
 refine pA 0 3 (bm 27 1) HT_ ?_
 refine pA 4 7 (bm 27 17) HT_ ?_
 refine pA 9 12 (bm 27 529) HT_ ?_
 refine pA 10 13 (bm 27 1553) HT_ ?_
 refine pA 15 18 (bm 27 34321) HT_ ?_
 refine pA 16 19 (bm 27 99857) HT_ ?_
 refine pA 21 24 (bm 27 2197009) HT_ ?_
 refine tA 1 4 (bm 27 2197011) HT_ HW_ hHeld ?_
 refine tA 5 8 (bm 27 2197043) HT_ HW_ hHeld ?_
 refine tA 11 14 (bm 27 2199091) HT_ HW_ hHeld ?_
 refine tA 17 20 (bm 27 2330163) HT_ HW_ hHeld ?_
 refine tA 22 25 (bm 27 6524467) HT_ HW_ hHeld ?_
 refine oA 2 (some 5) (bm 27 6524471) HT_ fun K hK => ?_
 refine gA Tryz.func59 #[.int .i64 a0_0] ?_
 with_reducible refine (spec_l1Dec.calls k a0_0 t301 _ A2.out).mono ?_
 rintro e w18 ⟨rfl, hb⟩
 refine ⟨_, rfl, ?_⟩
 replace BK300 := kP _ BK300 hb
 replace HB := kH HB hb
 (try clear hb)
 (try clear hb2)
 (try clear hk)
 (try clear hi)
 refine hK.out _ _ (bz9 BK300) (fun hHeld => ?_)
 clear hK K
 refine nA (some 5) ?_
 refine pA 3 6 (bm 27 6524479) HT_ ?_
 refine oA 6 (some 9) (bm 27 6524543) HT_ fun K hK => ?_
 refine gA Tryz.func60 #[.agg #[.string a0_1, .string a0_2, .int .i64 a0_3, .int .i64 a0_4, .int .i64 a0_5]] ?_
 with_reducible refine (spec_l3Put.calls k a0_1 a0_2 a0_3 a0_4 a0_5 t302 _ A4.out).mono ?_
 rintro e w19 ⟨rfl, hb⟩
 refine ⟨_, rfl, ?_⟩
 replace BK300 := kP _ BK300 hb
 replace HB := kH HB hb
 (try clear hb)
 (try clear hb2)
 (try clear hk)
 (try clear hi)
 refine hK.out _ _ (bz9 BK300) (fun hHeld => ?_)
 clear hK K
 refine nA (some 9) ?_
 refine pA 7 10 (bm 27 6524671) HT_ ?_
 refine pA 8 11 (bm 27 6524927) HT_ ?_
 refine oA 12 (some 15) (bm 27 6529023) HT_ fun K hK => ?_
 refine gA Tryz.func61 #[.slice A0_6 l0_6.length c0_6] ?_
 with_reducible refine (spec_l9Peaks.calls k _ _ l0_6 t303 _ ?side1 ?side2 A7.out).mono ?_
 (case side1 => exact cb HR0_6 HB)
 (case side2 => exact HC0_6.out)
 rintro e w20 ⟨rfl, hb⟩
 refine ⟨_, rfl, ?_⟩
 replace BK300 := kP _ BK300 hb
 replace HB := kH HB hb
 (try clear hb)
 (try clear hb2)
 (try clear hk)
 (try clear hi)
 refine hK.out _ _ (bz9 BK300) (fun hHeld => ?_)
 clear hK K
 refine nA (some 15) ?_
 refine pA 13 16 (bm 27 6537215) HT_ ?_
 refine pA 14 17 (bm 27 6553599) HT_ ?_
 refine oA 18 (some 21) (bm 27 6815743) HT_ fun K hK => ?_
 refine gA Tryz.func61 #[.slice A0_7 l0_7.length c0_7] ?_
 with_reducible refine (spec_l9Peaks.calls k _ _ l0_7 t304 _ ?side1 ?side2 A10.out).mono ?_
 (case side1 => exact cb HR0_7 HB)
 (case side2 => exact HC0_7.out)
 rintro e w21 ⟨rfl, hb⟩
 refine ⟨_, rfl, ?_⟩
 replace BK300 := kP _ BK300 hb
 replace HB := kH HB hb
 (try clear hb)
 (try clear hb2)
 (try clear hk)
 (try clear hi)
 refine hK.out _ _ (bz9 BK300) (fun hHeld => ?_)
 clear hK K
 refine nA (some 21) ?_
 refine pA 19 22 (bm 27 7340031) HT_ ?_
 refine pA 20 23 (bm 27 8388607) HT_ ?_
 refine oA 23 (some 26) (bm 27 16777215) HT_ fun K hK => ?_
 refine gA Tryz.func62 #[.slice A0_8 l0_8.length c0_8] ?_
 with_reducible refine (spec_l9Sides.calls k _ _ l0_8 t305 _ ?side1 ?side2 A13.out).mono ?_
 (case side1 => exact cb HR0_8 HB)
 (case side2 => exact HC0_8.out)
 rintro e w' ⟨rfl, ⟨nd, rfl⟩⟩
 refine ⟨_, rfl, ?_⟩
 refine hK.out _ _ (bz9 BK300) (fun hHeld => ?_)
 clear hK K
 refine nA (some 26) ?_
 refine pA 24 27 (bm 27 33554431) HT_ ?_
 refine pA 25 28 (bm 27 67108863) HT_ ?_
 refine pA 26 2 (bm 27 134217727) HT_ ?_
 refine done_ (done_of HT_.out (by kernel_rfl)) ?_
 try go_wp2
 (try (clear hzq_ BQ_; obtain ⟨hW_⟩ := hW_; subst hW_))
 go_ret
 exact ⟨xE, xB HB⟩
def spec_PaidPut.f (k : Nat) (a0_0 : Int) (a0_1 : ByteArray) (a0_2 : ByteArray) (a0_3 : Int) (a0_4 : Int) (a0_5 : Int) (l0_6 : List S93) (l0_7 : List S93) (l0_8 : List S48) : Option (ByteArray) := (spec_l9Ok.f k a0_0 a0_1 a0_2 a0_3 a0_4 a0_5 l0_6 l0_7 l0_8).bind fun t307 => (if t307 = true then ((spec_l9Put.f k a0_0 a0_1 a0_2 a0_3 a0_4 a0_5 l0_6 l0_7 l0_8).bind fun t308 => (some t308)) else (some (⟨#[]⟩ : ByteArray)))
theorem spec_PaidPut.calls (k : Nat) (a0_0 : Int) (a0_1 : ByteArray) (a0_2 : ByteArray) (a0_3 : Int) (a0_4 : Int) (a0_5 : Int) (A0_6 : Option Addr) (c0_6 : Nat) (l0_6 : List S93) (A0_7 : Option Addr) (c0_7 : Nat) (l0_7 : List S93) (A0_8 : Option Addr) (c0_8 : Nat) (l0_8 : List S48) (r : ByteArray) (w : World) (hr0_6 : Kd.C k93 w A0_6 l0_6.length l0_6) (hc0_6 : l0_6.length ≤ c0_6) (hr0_7 : Kd.C k93 w A0_7 l0_7.length l0_7) (hc0_7 : l0_7.length ≤ c0_7) (hr0_8 : Kd.C k48 w A0_8 l0_8.length l0_8) (hc0_8 : l0_8.length ≤ c0_8) (h : spec_PaidPut.f k a0_0 a0_1 a0_2 a0_3 a0_4 a0_5 l0_6 l0_7 l0_8 = some r) :
  Calls Tryz.prog 7 #[.agg #[.int .i64 a0_0, .string a0_1, .string a0_2, .int .i64 a0_3, .int .i64 a0_4, .int .i64 a0_5, .slice A0_6 l0_6.length c0_6, .slice A0_7 l0_7.length c0_7, .slice A0_8 l0_8.length c0_8]] w fun e w' => e = .returned (.string r) ∧ Below w.heap.size w w' := by
 have hu30 := Tryz.underlying30
 have HR0_6 := am hr0_6
 have HC0_6 := am hc0_6
 clear hr0_6 hc0_6
 have HR0_7 := am hr0_7
 have HC0_7 := am hc0_7
 clear hr0_7 hc0_7
 have HR0_8 := am hr0_8
 have HC0_8 := am hc0_8
 clear hr0_8 hc0_8
 have HB := am (Below.refl w.heap.size w)
 have H : ((spec_l9Ok.f k a0_0 a0_1 a0_2 a0_3 a0_4 a0_5 l0_6 l0_7 l0_8).bind fun t307 => (if t307 = true then ((spec_l9Put.f k a0_0 a0_1 a0_2 a0_3 a0_4 a0_5 l0_6 l0_7 l0_8).bind fun t308 => (some t308)) else (some (⟨#[]⟩ : ByteArray)))) = some r := h
 clear h
 replace ⟨t307, A2, H⟩ := oa H
 go_enter Tryz.func7, Tryz.ntmps7
 go_upto_if 5 with ((with_reducible refine gg ?_); first | (refine bE 1 #[.int .i64 a0_0, .string a0_1, .string a0_2, .int .i64 a0_3, .int .i64 a0_4, .int .i64 a0_5, .slice A0_6 l0_6.length c0_6, .slice A0_7 l0_7.length c0_7, .slice A0_8 l0_8.length c0_8] 30 ?_; intro gb306 hg w5 hbox hb; have BK306 := am (hbox); have GW306 := zB hg HB; have GE306 := zB hg HB; replace HB := kH HB hb; clear hb hbox hg; have hz6 := bc9 BK306) | (refine gL 4 Tryz.func22 #[.agg #[.int .i64 a0_0, .string a0_1, .string a0_2, .int .i64 a0_3, .int .i64 a0_4, .int .i64 a0_5, .slice A0_6 l0_6.length c0_6, .slice A0_7 l0_7.length c0_7, .slice A0_8 l0_8.length c0_8]] ?_; (with_reducible refine (spec_l9Ok.calls k a0_0 a0_1 a0_2 a0_3 a0_4 a0_5 _ _ l0_6 _ _ l0_7 _ _ l0_8 t307 _ ?side1 ?side2 ?side3 ?side4 ?side5 ?side6 A2.out).mono ?_); (case side1 => exact cb HR0_6 HB); (case side2 => exact HC0_6.out); (case side3 => exact cb HR0_7 HB); (case side4 => exact HC0_7.out); (case side5 => exact cb HR0_8 HB); (case side6 => exact HC0_8.out); rintro e w7 ⟨rfl, hb⟩; refine ⟨_, rfl, ?_⟩; replace BK306 := kP _ BK306 hb; replace HB := kH HB hb; (try clear hb)))
 by_cases c3 : t307 = true
 rotate_left
 ·replace c3 := bF c3
  subst c3
  try simp only [Bool.not_true, Bool.not_false]
  rw [if_neg nF] at H
  obtain rfl := oI H
  go_wp2
  go_ret
  exact ⟨xE, xB HB⟩
 subst c3
 try simp only [Bool.not_true, Bool.not_false]
 rw [if_pos rfl] at H
 replace ⟨t308, A4, H⟩ := oa H
 obtain rfl := oI H
 have hz8 := bc9 BK306
 go_wp2_with ((with_reducible refine gg ?_); refine gL 7 Tryz.func23 #[.agg #[.int .i64 a0_0, .string a0_1, .string a0_2, .int .i64 a0_3, .int .i64 a0_4, .int .i64 a0_5, .slice A0_6 l0_6.length c0_6, .slice A0_7 l0_7.length c0_7, .slice A0_8 l0_8.length c0_8]] ?_; (with_reducible refine (spec_l9Put.calls k a0_0 a0_1 a0_2 a0_3 a0_4 a0_5 _ _ l0_6 _ _ l0_7 _ _ l0_8 t308 _ ?side1 ?side2 ?side3 ?side4 ?side5 ?side6 A4.out).mono ?_); (case side1 => exact cb HR0_6 HB); (case side2 => exact HC0_6.out); (case side3 => exact cb HR0_7 HB); (case side4 => exact HC0_7.out); (case side5 => exact cb HR0_8 HB); (case side6 => exact HC0_8.out); rintro e w9 ⟨rfl, hb⟩; refine ⟨_, rfl, ?_⟩; replace BK306 := kP _ BK306 hb; replace HB := kH HB hb; (try clear hb))
 go_ret
 exact ⟨xE, xB HB⟩
/-- A state of type 78 at block g of W; what its slices lead to came in by w0. -/
def IsS78 (w0 W : World) (g : Nat) (f0 : List Int) (f1 : Int) : Prop := ∃ A0 c0, W.heap[g]? = some (.cells #[.slice A0 f0.length c0, .int .i64 f1] 78 (0, 0)) ∧ w0.heap.size ≤ g ∧ Kd.C (Kd.int .u8) w0 A0 f0.length f0
theorem IsS78.grown {w0 W : World} {g : Nat} {f0 : List Int} {f1 : Int} {W1 : World} {row : Option Nat} (h : IsS78 w0 W g f0 f1) (hw : W.grownBy W1 row) (hne : some g ≠ row) : IsS78 w0 W1 g f0 f1 := by
 obtain ⟨A0, c0, hb, hg, hr0⟩ := h
 exact ⟨A0, c0, blk_grown hb hw hne, hg, hr0⟩
theorem IsS78.fresh {w0 W : World} {g : Nat} {f0 : List Int} {f1 : Int} (h : IsS78 w0 W g f0 f1) : ∀ k, W.heap.size ≤ k → k ≠ g := by
 obtain ⟨A0, c0, hb, hg, hr0⟩ := h
 exact Kd.freshB hb
theorem IsS78.below {w0 W : World} {g : Nat} {f0 : List Int} {f1 : Int} {W1 : World} (h : IsS78 w0 W g f0 f1) (hw : Below W.heap.size W W1) : IsS78 w0 W1 g f0 f1 := h.grown (grown_of_below hw none) (by simp)
theorem IsS78.drewN {w0 W : World} {g : Nat} {f0 : List Int} {f1 : Int} (h : IsS78 w0 W g f0 f1) (m : Nat) : IsS78 w0 (W.drewN m) g f0 f1 := h
theorem IsS78.drew {w0 W : World} {g : Nat} {f0 : List Int} {f1 : Int} (h : IsS78 w0 W g f0 f1) : IsS78 w0 W.drew g f0 f1 := h
theorem IsS78.apart {w0 W : World} {g : Nat} {f0 : List Int} {f1 : Int} {α : Type} {d : Kd α} {e : Nat} {base : Nat} {ok : Nat → Prop} {v : Value} {xs : List α} (h : IsS78 w0 W g f0 f1) (ho : d.R e W base ok v xs) (ht : ∀ q, q ∈ e :: d.E → q ≠ 78) : d.R e W base (fun k => ok k ∧ k ≠ g) v xs := by
 obtain ⟨A0, c0, hb, hg, hr0⟩ := h
 exact R_types ho hb ht
theorem IsS78.own_ne {w0 W : World} {g : Nat} {f0 : List Int} {f1 : Int} {α : Type} {d : Kd α} {e : Nat} {base : Nat} {ok : Nat → Prop} {v : Value} {xs : List α} (h : IsS78 w0 W g f0 f1) (ho : d.R e W base ok v xs) (ht : e ≠ 78) : some g ≠ v.ownBlock := by
 obtain ⟨A0, c0, hb, hg, hr0⟩ := h
 exact R_ne ho hb ht
theorem IsS78.apartS {w0 W : World} {g : Nat} {f0 : List Int} {f1 : Int} {α : Type} {d : Kd α} {e : Nat} {base : Nat} {ok : Nat → Prop} {v : Value} {xs : List α} (h : IsS78 w0 W g f0 f1) (ho : d.S e W base ok v xs) (ht : ∀ q, q ∈ e :: d.E → q ≠ 78) : d.S e W base (fun k => ok k ∧ k ≠ g) v xs := by
 obtain ⟨A0, c0, hb, hg, hr0⟩ := h
 exact S_types ho hb ht
theorem IsS78.lt {w0 W : World} {g : Nat} {f0 : List Int} {f1 : Int} (h : IsS78 w0 W g f0 f1) : g < W.heap.size := by
 obtain ⟨A0, c0, hb, hg, hr0⟩ := h
 exact blk_lt hb
theorem IsS78.ge {w0 W : World} {g : Nat} {f0 : List Int} {f1 : Int} (h : IsS78 w0 W g f0 f1) : w0.heap.size ≤ g := by
 obtain ⟨A0, c0, hb, hg, hr0⟩ := h
 exact hg
theorem IsS78.far {w0 W : World} {g : Nat} {f0 : List Int} {f1 : Int} {p : Addr} (h : IsS78 w0 W g f0 f1) (hne : g ≠ p.block) (u : Value) : IsS78 w0 (W.setCell p u) g f0 f1 := by
 obtain ⟨A0, c0, hb, hg, hr0⟩ := h
 exact ⟨A0, c0, blk_far hb hne u, hg, hr0⟩
theorem cellS78_0 {W : World} {g : Nat} {A0 : Option Addr} {c0 : Nat} {f0 : List Int} {f1 : Int} (h : W.heap[g]? = some (.cells #[.slice A0 f0.length c0, .int .i64 f1] 78 (0, 0))) : W.cell? ⟨g, 0, none⟩ = some (.slice A0 f0.length c0) := (blk_cell h 0).trans rfl
theorem cellS78_1 {W : World} {g : Nat} {A0 : Option Addr} {c0 : Nat} {f0 : List Int} {f1 : Int} (h : W.heap[g]? = some (.cells #[.slice A0 f0.length c0, .int .i64 f1] 78 (0, 0))) : W.cell? ⟨g, 1, none⟩ = some (.int .i64 f1) := (blk_cell h 1).trans rfl
theorem IsS78.set_1 {w0 W : World} {g : Nat} {f0 : List Int} {f1 : Int} (h : IsS78 w0 W g f0 f1) (x : Int) : IsS78 w0 (W.setCell ⟨g, 1, none⟩ (.int .i64 x)) g f0 x := by
 obtain ⟨A0, c0, hb, hg, hr0⟩ := h
 exact ⟨A0, c0, by simpa using blk_set hb 1 (.int .i64 x), hg, hr0⟩
theorem iX {w0 W : World} {g : Nat} {f0 : List Int} {f1 : Int} {p : Prop} (H : Aside0 (IsS78 w0 W g f0 f1)) (h : IsS78 w0 W g f0 f1 → p := by intro h_; (repeat (with_reducible first | exact h_ | apply IsS78.alloc | apply IsS78.drewN | apply IsS78.drew | apply IsS78.set_1 | refine IsS78.far ?_ (Aside0.out (by assumption)) _)); all_goals exact h_) : p := h H.out
theorem iK {w0 w W W1 : World} {g : Nat} {f0 : List Int} {f1 : Int} {f0' : List Int} {f1' : Int} (H : Aside0 (IsS78 w0 w g f0 f1)) (hb : Below W.heap.size W W1) (h : IsS78 w0 w g f0 f1 → IsS78 w0 W g f0' f1' := by intro h_; (repeat (with_reducible first | exact h_ | apply IsS78.alloc | apply IsS78.drewN | apply IsS78.drew | apply IsS78.set_1 | refine IsS78.far ?_ (Aside0.out (by assumption)) _)); all_goals exact h_) : Aside0 (IsS78 w0 W1 g f0' f1') := ⟨IsS78.below (h H.out) hb⟩
theorem iL {w0 w W : World} {g gb : Nat} {f0 : List Int} {f1 : Int} (hg : gb = W.heap.size) (H : Aside0 (IsS78 w0 w g f0 f1)) (h : IsS78 w0 w g f0 f1 → ∃ f0' f1', IsS78 w0 W g f0' f1' := by intro h_; apply Exists.intro; apply Exists.intro; (repeat (with_reducible first | exact h_ | apply IsS78.alloc | apply IsS78.drewN | apply IsS78.drew | apply IsS78.set_1 | refine IsS78.far ?_ (Aside0.out (by assumption)) _)); all_goals exact h_) : g < gb := by obtain ⟨_, _, k⟩ := h H.out; rw [hg]; exact IsS78.lt k
theorem iN {w0 w W : World} {g gb : Nat} {f0 : List Int} {f1 : Int} (hg : gb = W.heap.size) (H : Aside0 (IsS78 w0 w g f0 f1)) (h : IsS78 w0 w g f0 f1 → ∃ f0' f1', IsS78 w0 W g f0' f1' := by intro h_; apply Exists.intro; apply Exists.intro; (repeat (with_reducible first | exact h_ | apply IsS78.alloc | apply IsS78.drewN | apply IsS78.drew | apply IsS78.set_1 | refine IsS78.far ?_ (Aside0.out (by assumption)) _)); all_goals exact h_) : Aside0 (g ≠ gb) := ⟨Nat.ne_of_lt (iL hg H h)⟩
theorem iM {w0 w W : World} {g gb : Nat} {f0 : List Int} {f1 : Int} (hg : gb = W.heap.size) (H : Aside0 (IsS78 w0 w g f0 f1)) (h : IsS78 w0 w g f0 f1 → ∃ f0' f1', IsS78 w0 W g f0' f1' := by intro h_; apply Exists.intro; apply Exists.intro; (repeat (with_reducible first | exact h_ | apply IsS78.alloc | apply IsS78.drewN | apply IsS78.drew | apply IsS78.set_1 | refine IsS78.far ?_ (Aside0.out (by assumption)) _)); all_goals exact h_) : Aside0 (gb ≠ g) := ⟨Nat.ne_of_gt (iL hg H h)⟩
theorem iR {w0 w v W W1 : World} {g : Nat} {f0 : List Int} {f1 : Int} {α : Type} {d : Kd α} {e base : Nat} {ok : Nat → Prop} {u : Value} {xs : List α} (H : Aside0 (IsS78 w0 w g f0 f1)) (HO : Aside0 (d.R e v base ok u xs)) (hk : KeepBut W W1 g none) [k : Nonempty (Gr v W)] (ht : ∀ q, q ∈ e :: d.E → q ≠ 78 := by decide) (h : IsS78 w0 w g f0 f1 → ∃ f0' f1', IsS78 w0 W g f0' f1' := by intro h_; apply Exists.intro; apply Exists.intro; (repeat (with_reducible first | exact h_ | apply IsS78.alloc | apply IsS78.drewN | apply IsS78.drew | apply IsS78.set_1 | refine IsS78.far ?_ (Aside0.out (by assumption)) _)); all_goals exact h_) : Aside0 (d.R e W1 base ok u xs) := ⟨by obtain ⟨_, _, j⟩ := h H.out; exact R_mono (R_keep (IsS78.apart j (ra HO) ht) hk (fun _ h => h.2)) (fun _ h => h.1)⟩
theorem xBi {p : Prop} {B : Nat} {v w : World} (H : Aside0 (Below B v w)) (h : Below B v w → p := by intro h_; (repeat (with_reducible first | exact h_ | apply below_alloc | apply pw_below_drewN | apply below_drew1 | refine below_set ?_ (Aside0.out (by assumption)) | refine below_set ?_ (IsS78.ge (Aside0.out (by assumption))))); all_goals exact h_) : p := h H.out
theorem kHi {v w W W1 : World} (H : Aside0 (Below v.heap.size v w)) (hb : Below W.heap.size W W1) (h : Below v.heap.size v w → Below v.heap.size v W := by intro h_; (repeat (with_reducible first | exact h_ | apply below_alloc | apply pw_below_drewN | apply below_drew1 | refine below_set ?_ (Aside0.out (by assumption)) | refine below_set ?_ (IsS78.ge (Aside0.out (by assumption))))); all_goals exact h_) : Aside0 (Below v.heap.size v W1) := ⟨below_step (h H.out) hb⟩
def spec_l20Open.f (l0 : List Int) : Option (List Int × Int) := if (l0.length : Int) > 2000 then (if 2000 ≤ (l0.length : Int) then (some (l0.take 2000, 0)) else (none)) else (some (l0, 0))
theorem spec_l20Open.calls (A0 : Option Addr) (c0 : Nat) (l0 : List Int) (r1 : List Int) (r2 : Int) (w0 w : World) (hB : Below w0.heap.size w0 w) (hr0 : Kd.C (Kd.int .u8) w0 A0 l0.length l0) (hc0 : l0.length ≤ c0) (h : spec_l20Open.f l0 = some (r1, r2)) :
  Calls Tryz.prog 13 #[.slice A0 l0.length c0] w fun e w' => ∃ g_ : Nat, e = .returned (.pointer (some ⟨g_, 0, none⟩)) ∧ IsS78 w0 w' g_ r1 r2 ∧ Below w0.heap.size w0 w' ∧ Below w.heap.size w w' := by
 have hu78 := Tryz.underlying78
 have HR0 := am hr0
 have HC0 := am hc0
 clear hr0 hc0
 have HBW := am (Below.refl w.heap.size w)
 have HW0 := am hB.size
 have HB := am hB
 clear hB
 have H : (if (l0.length : Int) > 2000 then (if 2000 ≤ (l0.length : Int) then (some (l0.take 2000, 0)) else (none)) else (some (l0, 0))) = some (r1, r2) := h
 clear h
 by_cases c2 : (l0.length : Int) > 2000
 rotate_left
 ·rw [if_neg c2] at H
  have c2b0 := df c2
  have c2b1 : decide (2000 < l0.length) = false := decide_eq_false (by omega)
  clear c2
  simp only [Option.some.injEq, Prod.mk.injEq] at H
  obtain ⟨rfl, rfl⟩ := H
  go_enter Tryz.func13, Tryz.ntmps13
  go_wp2_with ((with_reducible refine gg ?_); refine bE 10 #[.slice A0 l0.length c0, .int .i64 0] 78 ?_; intro gb311 hg w6 hbox hb; replace HB := kH HB hb; have BK311 := am (hbox); have GW311 := am ((by rw [hg]; exact (below_size (xB HBW)) : w.heap.size ≤ gb311)); have GE311 := am ((Nat.le_trans HW0.out (by rw [hg]; exact (below_size (xB HBW)) : w.heap.size ≤ gb311) : w0.heap.size ≤ gb311)); replace HBW := am (below_step HBW.out hb); clear hb hbox hg)
  go_ret
  exact ⟨_, rfl, (show IsS78 w0 _ gb311 l0 0 from ⟨_, _, kb BK311, GE311.out, HR0.out⟩), xB HB, xB HBW⟩
 rw [if_pos c2] at H
 have c2b0 := dt c2
 have c2b1 : decide (2000 < l0.length) = true := decide_eq_true (by omega)
 clear c2
 replace ⟨c3, H⟩ := ip H
 have c3b0 := eq_true c3
 have c3b1 := dt c3
 clear c3
 simp only [Option.some.injEq, Prod.mk.injEq] at H
 obtain ⟨rfl, rfl⟩ := H
 obtain ⟨i04, hi04, _, hsz4, _⟩ := info_parts info5
 obtain ⟨hcut4, hA4, hC4⟩ := print_take_of (P := Tryz.prog) (Value.int .u8) 0 22 5 .i64 Tryz.underlying22 hi04 hsz4 A0 c0 l0 2000 (by omega) (oX) HC0.out
 have HR309 := am (C_of_reads (h1 := fun _ => rfl) (hA4 _ (reads_of_C HR0.out)))
 have HC309 := am hC4
 clear hA4 hC4 hi04 hsz4
 go_enter Tryz.func13, Tryz.ntmps13
 go_wp2_with ((with_reducible refine gg ?_); refine bE 10 #[.slice A0 (l0.take 2000).length c0, .int .i64 0] 78 ?_; intro gb310 hg w5 hbox hb; replace HB := kH HB hb; have BK310 := am (hbox); have GW310 := am ((by rw [hg]; exact (below_size (xB HBW)) : w.heap.size ≤ gb310)); have GE310 := am ((Nat.le_trans HW0.out (by rw [hg]; exact (below_size (xB HBW)) : w.heap.size ≤ gb310) : w0.heap.size ≤ gb310)); replace HBW := am (below_step HBW.out hb); clear hb hbox hg)
 go_ret
 exact ⟨_, rfl, (show IsS78 w0 _ gb310 (l0.take 2000) 0 from ⟨_, _, kb BK310, GE310.out, HR309.out⟩), xB HB, xB HBW⟩
def spec_l20Rd_pick.j0 : Nat → Int → Bool → List Int → Int → Option (Int × Int)
 | 0, _, _, _, _ => none
 | k + 1, x1, x24, x1000, x1001 => if x24 = true then (some (0, x1001)) else (if (wrap64 (x1001 - 1)) < (x1000.length : Int) then (if 0 ≤ (wrap64 (x1001 - 1)) then (if x1 = 0 then (none) else (some (Int.tmod (wrap64 (rd x1000 (wrap64 (x1001 - 1)))) x1, x1001))) else (none)) else (if (x1000.length : Int) = 0 then (none) else (if 0 ≤ (Int.tmod (wrap64 (x1001 - 1)) (x1000.length : Int)) then (if (Int.tmod (wrap64 (x1001 - 1)) (x1000.length : Int)) < (x1000.length : Int) then (if 0 ≤ (Int.tmod (wrap64 ((wrap64 ((wrap64 (x1001 - 1)) * 7)) + 3)) (x1000.length : Int)) then (if (Int.tmod (wrap64 ((wrap64 ((wrap64 (x1001 - 1)) * 7)) + 3)) (x1000.length : Int)) < (x1000.length : Int) then (if x1 = 0 then (none) else (some (Int.tmod (Go.bits .xor .i64 (wrap64 ((wrap64 ((wrap64 ((wrap64 ((wrap64 (rd x1000 (Int.tmod (wrap64 (x1001 - 1)) (x1000.length : Int)))) * 131)) + (wrap64 ((wrap64 (rd x1000 (Int.tmod (wrap64 ((wrap64 ((wrap64 (x1001 - 1)) * 7)) + 3)) (x1000.length : Int)))) * 1117)))) + (wrap64 ((wrap64 (x1001 - 1)) * 29)))) + (wrap64 ((wrap64 (Int.tdiv (wrap64 (x1001 - 1)) (x1000.length : Int))) * 53)))) (wrap64 (Int.tdiv (wrap64 ((wrap64 ((wrap64 ((wrap64 ((wrap64 (rd x1000 (Int.tmod (wrap64 (x1001 - 1)) (x1000.length : Int)))) * 131)) + (wrap64 ((wrap64 (rd x1000 (Int.tmod (wrap64 ((wrap64 ((wrap64 (x1001 - 1)) * 7)) + 3)) (x1000.length : Int)))) * 1117)))) + (wrap64 ((wrap64 (x1001 - 1)) * 29)))) + (wrap64 ((wrap64 (Int.tdiv (wrap64 (x1001 - 1)) (x1000.length : Int))) * 53)))) 64))) x1, x1001))) else (none)) else (none)) else (none)) else (none))))
def spec_l20Rd_pick.f (k : Nat) (s0_0 : List Int) (s0_1 : Int) (a1 : Int) : Option (Int × Int) := if a1 < 1 then (spec_l20Rd_pick.j0 k a1 true s0_0 (wrap64 (s0_1 + 1))) else (spec_l20Rd_pick.j0 k a1 ((s0_0.length : Int) == 0) s0_0 (wrap64 (s0_1 + 1)))
theorem spec_l20Rd_pick.calls (k : Nat) (g : Nat) (s0_0 : List Int) (s0_1 : Int) (a1 : Int) (r1 : Int) (r2 : Int) (w0 w : World) (hI : IsS78 w0 w g s0_0 s0_1) (hB : Below w0.heap.size w0 w) (h : spec_l20Rd_pick.f k s0_0 s0_1 a1 = some (r1, r2)) :
  Calls Tryz.prog 15 #[.pointer (some ⟨g, 0, none⟩), .int .i64 a1] w fun e w' => e = .returned (.int .i64 r1) ∧ IsS78 w0 w' g s0_0 r2 ∧ Below w0.heap.size w0 w' ∧ KeepBut w w' g none := by
 have HI0 := am hI
 have HK := am (KeepBut.refl w g none)
 have HL := am hB.size
 clear hI
 have HW0 := am hB.size
 have HB := am hB
 clear hB
 have H : (if a1 < 1 then (spec_l20Rd_pick.j0 k a1 true s0_0 (wrap64 (s0_1 + 1))) else (spec_l20Rd_pick.j0 k a1 ((s0_0.length : Int) == 0) s0_0 (wrap64 (s0_1 + 1)))) = some (r1, r2) := h
 clear h
 have HC3 := am H
 clear H
 obtain ⟨ASz4_0, cSz4_0, HGz4, hgz4, HSz4_0⟩ := HI0.out
 have hcz4_0 := cellS78_0 HGz4
 have hcz4_1 := cellS78_1 HGz4
 have hfz4_1 := blk_frozen HGz4 1
 clear HGz4 hgz4
 go_enter Tryz.func15, Tryz.ntmps15
 go_upto_region 2 with (fail)
 repeat (go_quiet (fail); go_upto_region 2 with (fail))
 go_cut [24] (fun v24 wc => ∃ (kq : Nat) (x24_2 : Bool), v24 = .bool x24_2 ∧ Aside0 (spec_l20Rd_pick.j0 kq a1 x24_2 s0_0 (wrap64 (s0_1 + 1)) = some (r1, r2)) ∧ Aside0 (kq ≤ k) ∧ Aside0 (IsS78 w0 wc g s0_0 (wrap64 (s0_1 + 1))) ∧ Aside0 (KeepBut w wc g none) ∧ Aside0 (Below w0.heap.size w0 wc))
 case first =>
  have H := HC3.out
  clear HC3
  by_cases c5 : a1 < 1
  ·rw [if_pos c5] at H
   have c5b0 := dt c5
   clear c5
   (first | rw [c5b0] | rw [c5b1] | (simp only [i64_w, i32_w]; rw [c5b0]) | skip)
   have H' := am H
   clear H
   go_wp2
   repeat (go_quiet (fail); try go_wp2)
   go_meet
   case rel => exact ⟨_, (true), xR, H', ⟨xO⟩, ⟨iX HI0⟩, ⟨xK HK⟩, ⟨xBi HB⟩⟩
  rw [if_neg c5] at H
  have c5b0 := df c5
  clear c5
  (first | rw [c5b0] | rw [c5b1] | (simp only [i64_w, i32_w]; rw [c5b0]) | skip)
  have H' := am H
  clear H
  obtain ⟨ASz6_0, cSz6_0, HGz6, hgz6, HSz6_0⟩ := HI0.out
  have hcz6_0 := cellS78_0 HGz6
  have hcz6_1 := cellS78_1 HGz6
  have hfz6_1 := blk_frozen HGz6 1
  clear HGz6 hgz6
  go_wp2
  repeat (go_quiet (fail); try go_wp2)
  go_meet
  case rel => exact ⟨_, (((s0_0.length : Int) == 0)), xR, H', ⟨xO⟩, ⟨iX HI0⟩, ⟨xK HK⟩, ⟨xBi HB⟩⟩
 case rest =>
  clear HC3
  obtain ⟨kq, x24_2, rfl, HA, HJ2, HI0, HK, HB⟩ := hcut
  cases kq with
  | zero => exact absurd HA.out (by simp [spec_l20Rd_pick.j0])
  | succ kj2 =>
   have H := HA.out
   clear HA
   simp only [spec_l20Rd_pick.j0] at H
   by_cases c7 : x24_2 = true
   ·subst c7
    rw [if_pos rfl] at H
    simp only [Option.some.injEq, Prod.mk.injEq] at H
    obtain ⟨rfl, rfl⟩ := H
    go_wp2
    repeat (go_quiet (fail); try go_wp2)
    go_ret
    exact ⟨xE, iX HI0, xBi HB, xK HK⟩
   replace c7 := bF c7
   subst c7
   rw [if_neg nF] at H
   by_cases c8 : (wrap64 ((wrap64 (s0_1 + 1)) - 1)) < (s0_0.length : Int)
   ·rw [if_pos c8] at H
    have c8b0 := dt c8
    clear c8
    obtain ⟨ji9, hji9⟩ := je (wrap64 ((wrap64 (s0_1 + 1)) - 1))
    first | rw [hji9] at H | simp only [hji9] at H
    (try rw [hji9] at c8b0)
    have hji9w : (IntKind.i64.wrap ((wrap64 (s0_1 + 1)) - 1)) = ji9 := (i64_w _).trans hji9
    replace ⟨c10b0, H⟩ := ipd H
    replace H := iq H
    obtain ⟨c11, H⟩ := H
    have c11b0 := beq_eq_false_iff_ne.mpr c11
    have c11b1 := bne_iff_ne.mpr c11
    simp only [Option.some.injEq, Prod.mk.injEq] at H
    obtain ⟨rfl, rfl⟩ := H
    obtain ⟨ASz12_0, cSz12_0, HGz12, hgz12, HSz12_0⟩ := HI0.out
    have hcz12_0 := cellS78_0 HGz12
    have hcz12_1 := cellS78_1 HGz12
    have hfz12_1 := blk_frozen HGz12 1
    clear HGz12 hgz12
    have p312 : 0 ≤ ((ji9) : Int) := oX
    have q312 : (ji9) < (s0_0.length : Int) := oX
    obtain ⟨ad312, e312, hx312_0⟩ := at_int HSz12_0 (ji9) p312 q312
    cases e312
    replace hx312_0 := pw_cell_below HB.out hx312_0
    replace ⟨p312, q312⟩ := eT p312 q312
    go_wp2
    repeat (go_quiet (fail); try go_wp2)
    go_ret
    exact ⟨by first | rfl | (simp [errW_none, errW_some] <;> rfl) | (simp only [← hji9]; first | rfl | (simp [errW_none, errW_some] <;> rfl)) | (simp [*, errW_none, errW_some] <;> rfl), iX HI0, xBi HB, xK HK⟩
   rw [if_neg c8] at H
   have c8b0 := df c8
   clear c8
   replace H := iq H
   obtain ⟨c13, H⟩ := H
   have c13b0 := beq_eq_false_iff_ne.mpr c13
   have c13b1 := bne_iff_ne.mpr c13
   have c13b2 : ¬ (s0_0 = []) := fun h_ => c13 (by rw [h_]; rfl)
   obtain ⟨ji14, hji14⟩ := je (Int.tmod (wrap64 ((wrap64 (s0_1 + 1)) - 1)) (s0_0.length : Int))
   first | rw [hji14] at H | simp only [hji14] at H
   replace ⟨c15b0, H⟩ := ipd H
   replace ⟨c16b0, H⟩ := ipd H
   obtain ⟨ji17, hji17⟩ := je (Int.tmod (wrap64 ((wrap64 ((wrap64 ((wrap64 (s0_1 + 1)) - 1)) * 7)) + 3)) (s0_0.length : Int))
   first | rw [hji17] at H | simp only [hji17] at H
   replace ⟨c18b0, H⟩ := ipd H
   replace ⟨c19b0, H⟩ := ipd H
   replace H := iq H
   obtain ⟨c20, H⟩ := H
   have c20b0 := beq_eq_false_iff_ne.mpr c20
   have c20b1 := bne_iff_ne.mpr c20
   simp only [Option.some.injEq, Prod.mk.injEq] at H
   obtain ⟨rfl, rfl⟩ := H
   obtain ⟨ASz21_0, cSz21_0, HGz21, hgz21, HSz21_0⟩ := HI0.out
   have hcz21_0 := cellS78_0 HGz21
   have hcz21_1 := cellS78_1 HGz21
   have hfz21_1 := blk_frozen HGz21 1
   clear HGz21 hgz21
   have p313 : 0 ≤ ((ji14) : Int) := oX
   have q313 : (ji14) < (s0_0.length : Int) := oX
   obtain ⟨ad313, e313, hx313_0⟩ := at_int HSz21_0 (ji14) p313 q313
   cases e313
   replace hx313_0 := pw_cell_below HB.out hx313_0
   replace ⟨p313, q313⟩ := eT p313 q313
   have p314 : 0 ≤ ((ji17) : Int) := oX
   have q314 : (ji17) < (s0_0.length : Int) := oX
   obtain ⟨ad314, e314, hx314_0⟩ := at_int HSz21_0 (ji17) p314 q314
   obtain rfl : ad313 = ad314 := (by injection e314)
   replace hx314_0 := pw_cell_below HB.out hx314_0
   replace ⟨p314, q314⟩ := eT p314 q314
   go_wp2
   repeat (go_quiet (fail); try go_wp2)
   go_ret
   exact ⟨by first | rfl | (simp [errW_none, errW_some] <;> rfl) | (simp only [← hji14, ← hji17]; first | rfl | (simp [errW_none, errW_some] <;> rfl)) | (simp [*, errW_none, errW_some] <;> rfl), iX HI0, xBi HB, xK HK⟩
open Kd
set_option linter.unusedVariables false
set_option linter.unusedSimpArgs false
set_option maxHeartbeats 64000000
set_option maxRecDepth 100000
def spec_l20Rd_one.f (k : Nat) (s0_0 : List Int) (s0_1 : Int) (l1 : List Int) : Option (Int × Int) := (spec_l20Rd_pick.f k s0_0 s0_1 (l1.length : Int)).bind fun bt315 => (if 0 ≤ bt315.1 then (if bt315.1 < (l1.length : Int) then (some (rd l1 bt315.1, bt315.2)) else (none)) else (none))
theorem spec_l20Rd_one.calls (k : Nat) (g : Nat) (s0_0 : List Int) (s0_1 : Int) (A1 : Option Addr) (c1 : Nat) (l1 : List Int) (r1 : Int) (r2 : Int) (w0 w : World) (hI : IsS78 w0 w g s0_0 s0_1) (hB : Below w0.heap.size w0 w) (hr1 : Kd.C (Kd.int .i64) w A1 l1.length l1) (hc1 : l1.length ≤ c1) (hf1 : ∀ ad, A1 = some ad → 0 < l1.length → ad.block ≠ g) (h : spec_l20Rd_one.f k s0_0 s0_1 l1 = some (r1, r2)) :
  Calls Tryz.prog 16 #[.pointer (some ⟨g, 0, none⟩), .slice A1 l1.length c1] w fun e w' => e = .returned (.int .i64 r1) ∧ IsS78 w0 w' g s0_0 r2 ∧ Below w0.heap.size w0 w' ∧ KeepBut w w' g none := by
 have HR1 := am hr1
 have HC1 := am hc1
 clear hr1 hc1
 have HI0 := am hI
 have HK := am (KeepBut.refl w g none)
 have HL := am hB.size
 clear hI
 have HW0 := am hB.size
 have HB := am hB
 clear hB
 have H : ((spec_l20Rd_pick.f k s0_0 s0_1 (l1.length : Int)).bind fun bt315 => (if 0 ≤ bt315.1 then (if bt315.1 < (l1.length : Int) then (some (rd l1 bt315.1, bt315.2)) else (none)) else (none))) = some (r1, r2) := h
 clear h
 replace H := Option.bind_eq_some_iff.mp H
 obtain ⟨⟨t315, t316⟩, A30, H⟩ := H
 have A3 := am A30
 clear A30
 replace ⟨c4b0, H⟩ := ipd H
 replace ⟨c5b0, H⟩ := ipd H
 simp only [Option.some.injEq, Prod.mk.injEq] at H
 obtain ⟨rfl, rfl⟩ := H
 go_enter Tryz.func16, Tryz.ntmps16
 go_wp2_with ((with_reducible refine gg ?_); refine gL 9 Tryz.func15 #[.pointer (some ⟨g, 0, none⟩), .int .i64 (l1.length : Int)] ?_; (with_reducible refine (spec_l20Rd_pick.calls k g s0_0 s0_1 (l1.length : Int) t315 t316 w0 _ ?side1 ?side2 A3.out).mono ?_); (case side1 => exact iX HI0); (case side2 => exact xBi HB); rintro e w6 ⟨rfl, hi, hb, hk⟩; refine ⟨_, rfl, ?_⟩; replace HK := kT HK hk; replace HB := am (hb); replace HI0 := am (hi); (try clear hb); have p317 : 0 ≤ (t315 : Int) := oX; have q317 : t315 < (l1.length : Int) := oX; obtain ⟨ad317, e317, hx317_0⟩ := at_int HR1.out t315 p317 q317; cases e317; replace hx317_0 := keep_cell HK.out hx317_0 (by first | (rw [add_block]; exact hf1 _ rfl (by omega)) | exact hf1 _ rfl (by omega) | exact hf1 ad317 rfl (by omega)); replace ⟨p317, q317⟩ := eT p317 q317)
 go_ret
 exact ⟨xE, iX HI0, xBi HB, xK HK⟩
def spec_l4Heads.l0 : Nat → List S82 → List S24 → Int → Option (List S24)
 | 0, _, _, _ => none
 | k + 1, x0, x3, x4 => if x4 < (x0.length : Int) then (if 0 ≤ x4 then (if x3.length < 2513169434916 then (spec_l4Heads.l0 k x0 (x3 ++ [(⟨(rd_T82 x0 x4).f0.f0, (rd_T82 x0 x4).f0.f1, (rd_T82 x0 x4).f0.f2, (rd_T82 x0 x4).f0.f3, (rd_T82 x0 x4).f0.f4⟩ : S24)]) (wrap64 (x4 + 1))) else (none)) else (none)) else (some x3)
def spec_l4Heads.f (k : Nat) (l0 : List S82) : Option (List S24) := spec_l4Heads.l0 k l0 (([] : List S24)) 0
theorem spec_l4Heads.calls (k : Nat) (A0 : Option Addr) (c0 : Nat) (l0 : List S82) (r : List S24) (w : World) (hr0 : Kd.C k82 w A0 l0.length l0) (hc0 : l0.length ≤ c0) (h : spec_l4Heads.f k l0 = some r) :
  Calls Tryz.prog 44 #[.slice A0 l0.length c0] w fun e w' => ∃ v0_ : Value, e = .returned (v0_) ∧ Kd.R k24 24 w' w.heap.size (fun _ => True) v0_ r ∧ Below w.heap.size w w' := by
 have hu24 := Tryz.underlying24
 have HR0 := am hr0
 have HC0 := am hc0
 clear hr0 hc0
 have HB := am (Below.refl w.heap.size w)
 have H : (spec_l4Heads.l0 k l0 (([] : List S24)) 0) = some r := h
 clear h
 obtain ⟨y318, Ny318⟩ := yA (([] : List S24) : List S24)
 rw [← Ny318.out] at H
 have H' := am H
 clear H
 go_enter Tryz.func44, Tryz.ntmps44
 go_wp2_with ((with_reducible refine gate_dst (N := 5) rfl ?_); refine R_lit k24 _ 24 ?hg (N := 5) ?hd (xs := ([] : List S24)) (inner := []) (ok := fun _ => True) (okp := fun _ => True) ?hr ?hp (fun _ hk => hk) trivial (Below.refl _ _) (Nat.le_refl _) (by simp) ?_; (case hd => rfl); (case hg => rfl); (case hr => first | (go_simp; done) | (go_simp; rfl)); (case hp => exact xP); intro v319 w2 ho3 hb hg_ hnew_; clear hg_ hnew_; (first | rw [← Ny318.out] at ho3 | (simp only [Int.reduceToNat] at ho3; rw [← Ny318.out] at ho3)); have HO320 := am (R_lower ho3 (below_size (bl HB))); replace HB := kH HB hb; clear hb ho3)
 go_loopg [3, 4] k (fun kq v3 v4 w' => ∃ (x3_1 : List S24) (x4_1 : Int), v4 = .int .i64 x4_1 ∧ Aside0 (spec_l4Heads.l0 kq l0 x3_1 x4_1 = some r) ∧ Aside0 (kq ≤ k) ∧ Aside0 (Kd.R k24 24 w' w.heap.size (fun _ => True) v3 x3_1) ∧ Aside0 (Below w.heap.size w w'))
 case atStart => exact ⟨(y318), (0), xR, H', ⟨Nat.le_refl _⟩, ⟨ra HO320⟩, ⟨bl HB⟩⟩
 case round =>
  clear H'
  try clear p2
  obtain ⟨x3_1, x4_1, rfl, HA, HK1, HO_3, HB⟩ := hrel
  cases gk with
  | zero => exact absurd HA.out (by simp [spec_l4Heads.l0])
  | succ k1 =>
   have H := HA.out
   clear HA
   simp only [spec_l4Heads.l0] at H
   by_cases c4 : x4_1 < (l0.length : Int)
   rotate_left
   ·rw [if_neg c4] at H
    have c4b0 := df c4
    clear c4
    obtain rfl := oI H
    go_wp2
    go_ret
    exact ⟨_, xE, ra HO_3, bl HB⟩
   rw [if_pos c4] at H
   have c4b0 := dt c4
   clear c4
   replace ⟨c5b0, H⟩ := ipd H
   replace ⟨LMc6, H⟩ := ipa H
   obtain ⟨y322, Ny322⟩ := yA (x3_1 ++ [(⟨(rd_T82 l0 x4_1).f0.f0, (rd_T82 l0 x4_1).f0.f1, (rd_T82 l0 x4_1).f0.f2, (rd_T82 l0 x4_1).f0.f3, (rd_T82 l0 x4_1).f0.f4⟩ : S24)] : List S24)
   rw [← Ny322.out] at H
   have H' := am H
   clear H
   have p321 : 0 ≤ (x4_1 : Int) := oX
   have q321 : x4_1 < (l0.length : Int) := oX
   obtain ⟨ad321, A321_5, c321_5, e321, hx321_0, hx321_1, hx321_2, hx321_3, hx321_4, hx321_5, hl321_5, hi321_5⟩ := at_T82 HR0.out x4_1 p321 q321
   cases e321
   replace hx321_0 := hc HB hx321_0
   replace hx321_1 := hc HB hx321_1
   replace hx321_2 := hc HB hx321_2
   replace hx321_3 := hc HB hx321_3
   replace hx321_4 := hc HB hx321_4
   replace hx321_5 := hc HB hx321_5
   have HR321_5 := am hi321_5
   have HC321_5 := am hl321_5
   clear hi321_5 hl321_5
   replace ⟨p321, q321⟩ := eT p321 q321
   go_wp2_with ((with_reducible refine gate_builtin (b := .append) (xs := #[.tmp 12, .tmp 18]) rfl ?_); at_builtin; refine R_append k24 (w0 := w) w.heap.size rfl (.tmp 12) (.tmp 18) 85 24 (.agg #[(.string ⟨#[]⟩), (.string ⟨#[]⟩), (.int .i64 0), (.int .i64 0), (.int .i64 0)]) 56 rfl Tryz.underlying85 info24 rfl (by decide) (by omega) u3 x3_1 (⟨(rd_T82 l0 x4_1).f0.f0, (rd_T82 l0 x4_1).f0.f1, (rd_T82 l0 x4_1).f0.f2, (rd_T82 l0 x4_1).f0.f3, (rd_T82 l0 x4_1).f0.f4⟩ : S24) [.string ((rd_T82 l0 x4_1).f0.f0), .string ((rd_T82 l0 x4_1).f0.f1), .int .i64 ((rd_T82 l0 x4_1).f0.f2), .int .i64 ((rd_T82 l0 x4_1).f0.f3), .int .i64 ((rd_T82 l0 x4_1).f0.f4)] (fun _ => True) (fun _ => False) rfl rfl ?aP (fun _ hk => hk.elim) ?aF ?aO ?aB ?aS ?aL ?_; (case aP => exact k24_mkM _ _ _ (⟨(rd_T82 l0 x4_1).f0.f0, (rd_T82 l0 x4_1).f0.f1, (rd_T82 l0 x4_1).f0.f2, (rd_T82 l0 x4_1).f0.f3, (rd_T82 l0 x4_1).f0.f4⟩ : S24)); (case aB => exact (bl HB)); (case aF => exact (fun _ _ => trivial)); (case aO => exact (ra HO_3)); (case aS => exact (below_size (bl HB))); (case aL => have := LMc6.out; omega); intro v323 w7 ho hb hg hat; rw [← Ny322.out] at ho; have n0_ := am (hb); have n1_ := am (ho); clear HB; clear HO_3; have HB := n0_; have HO324 := n1_; clear n0_ n1_; clear ho hb hg hat)
   go_roundg k1
   case measure => have := HK1.out; omega
   case rel => exact ⟨(y322), (wrap64 (x4_1 + 1)), xR, H', ⟨xL HK1⟩, ⟨ra HO324⟩, ⟨bl HB⟩⟩
def spec_l4Zero.f  : Option (ByteArray) := some (⟨#[48, 48, 48, 48, 48, 48, 48, 48, 48, 48, 48, 48, 48, 48, 48, 48]⟩ : ByteArray)
theorem spec_l4Zero.calls  (r : ByteArray) (w : World) (h : spec_l4Zero.f  = some r) :
  Calls Tryz.prog 84 #[] w fun e w' => e = .returned (.string r) ∧ Drawn0 w w' := by
 have H : (some (⟨#[48, 48, 48, 48, 48, 48, 48, 48, 48, 48, 48, 48, 48, 48, 48, 48]⟩ : ByteArray)) = some r := h
 clear h
 obtain rfl := oI H
 go_enter Tryz.func84, Tryz.ntmps84
 go_wp2
 go_ret
 exact ⟨xR, xW⟩
def spec_l1Consts.f  : Option (List Int × List Int) := some ((([1779033703, 3144134277, 1013904242, 2773480762, 1359893119, 2600822924, 528734635, 1541459225] : List Int)), (([1116352408, 1899447441, 3049323471, 3921009573, 961987163, 1508970993, 2453635748, 2870763221, 3624381080, 310598401, 607225278, 1426881987, 1925078388, 2162078206, 2614888103, 3248222580, 3835390401, 4022224774, 264347078, 604807628, 770255983, 1249150122, 1555081692, 1996064986, 2554220882, 2821834349, 2952996808, 3210313671, 3336571891, 3584528711, 113926993, 338241895, 666307205, 773529912, 1294757372, 1396182291, 1695183700, 1986661051, 2177026350, 2456956037, 2730485921, 2820302411, 3259730800, 3345764771, 3516065817, 3600352804, 4094571909, 275423344, 430227734, 506948616, 659060556, 883997877, 958139571, 1322822218, 1537002063, 1747873779, 1955562222, 2024104815, 2227730452, 2361852424, 2428436474, 2756734187, 3204031479, 3329325298] : List Int)))
theorem spec_l1Consts.calls  (r1 : List Int) (r2 : List Int) (w : World) (h : spec_l1Consts.f  = some (r1, r2)) :
  Calls Tryz.prog 95 #[] w fun e w' => ∃ v0_ v1_ : Value, e = .returned (.tuple #[v0_, v1_]) ∧ Kd.R (Kd.int .i64) 3 w' w.heap.size (fun k_ => some k_ ≠ (v1_ : Value).ownBlock) v0_ r1 ∧ Kd.R (Kd.int .i64) 3 w' w.heap.size (fun k_ => some k_ ≠ (v0_ : Value).ownBlock) v1_ r2 ∧ Below w.heap.size w w' := by
 have HB := am (Below.refl w.heap.size w)
 have H : (some ((([1779033703, 3144134277, 1013904242, 2773480762, 1359893119, 2600822924, 528734635, 1541459225] : List Int)), (([1116352408, 1899447441, 3049323471, 3921009573, 961987163, 1508970993, 2453635748, 2870763221, 3624381080, 310598401, 607225278, 1426881987, 1925078388, 2162078206, 2614888103, 3248222580, 3835390401, 4022224774, 264347078, 604807628, 770255983, 1249150122, 1555081692, 1996064986, 2554220882, 2821834349, 2952996808, 3210313671, 3336571891, 3584528711, 113926993, 338241895, 666307205, 773529912, 1294757372, 1396182291, 1695183700, 1986661051, 2177026350, 2456956037, 2730485921, 2820302411, 3259730800, 3345764771, 3516065817, 3600352804, 4094571909, 275423344, 430227734, 506948616, 659060556, 883997877, 958139571, 1322822218, 1537002063, 1747873779, 1955562222, 2024104815, 2227730452, 2361852424, 2428436474, 2756734187, 3204031479, 3329325298] : List Int)))) = some (r1, r2) := h
 clear h
 obtain ⟨y325, Ny325⟩ := yA (([1779033703, 3144134277, 1013904242, 2773480762, 1359893119, 2600822924, 528734635, 1541459225] : List Int) : List Int)
 rw [← Ny325.out] at H
 obtain ⟨y328, Ny328⟩ := yA (([1116352408, 1899447441, 3049323471, 3921009573, 961987163, 1508970993, 2453635748, 2870763221, 3624381080, 310598401, 607225278, 1426881987, 1925078388, 2162078206, 2614888103, 3248222580, 3835390401, 4022224774, 264347078, 604807628, 770255983, 1249150122, 1555081692, 1996064986, 2554220882, 2821834349, 2952996808, 3210313671, 3336571891, 3584528711, 113926993, 338241895, 666307205, 773529912, 1294757372, 1396182291, 1695183700, 1986661051, 2177026350, 2456956037, 2730485921, 2820302411, 3259730800, 3345764771, 3516065817, 3600352804, 4094571909, 275423344, 430227734, 506948616, 659060556, 883997877, 958139571, 1322822218, 1537002063, 1747873779, 1955562222, 2024104815, 2227730452, 2361852424, 2428436474, 2756734187, 3204031479, 3329325298] : List Int) : List Int)
 rw [← Ny328.out] at H
 simp only [Option.some.injEq, Prod.mk.injEq] at H
 obtain ⟨rfl, rfl⟩ := H
 go_enter Tryz.func95, Tryz.ntmps95
 go_wp2_with (first | ((with_reducible refine gate_dst (N := 4) rfl ?_); refine R_lit (Kd.int .i64) _ 3 ?hg (N := 4) ?hd (xs := ([1779033703, 3144134277, 1013904242, 2773480762, 1359893119, 2600822924, 528734635, 1541459225] : List Int)) (inner := [.int .i64 1779033703, .int .i64 3144134277, .int .i64 1013904242, .int .i64 2773480762, .int .i64 1359893119, .int .i64 2600822924, .int .i64 528734635, .int .i64 1541459225]) (ok := fun _ => True) (okp := fun _ => True) ?hr ?hp (fun _ hk => hk) trivial (Below.refl _ _) (Nat.le_refl _) (by simp) ?_; (case hd => rfl); (case hg => rfl); (case hr => first | (go_simp; done) | (go_simp; rfl)); (case hp => exact xP); intro v326 w1 ho2 hb hg_ hnew_; clear hg_ hnew_; (first | rw [← Ny325.out] at ho2 | (simp only [Int.reduceToNat] at ho2; rw [← Ny325.out] at ho2)); have HO327 := am (R_lower ho2 (below_size (bl HB))); replace HB := kH HB hb; clear hb ho2) | ((with_reducible refine gate_dst (N := 5) rfl ?_); refine R_lit (Kd.int .i64) _ 3 ?hg (N := 5) ?hd (xs := ([1116352408, 1899447441, 3049323471, 3921009573, 961987163, 1508970993, 2453635748, 2870763221, 3624381080, 310598401, 607225278, 1426881987, 1925078388, 2162078206, 2614888103, 3248222580, 3835390401, 4022224774, 264347078, 604807628, 770255983, 1249150122, 1555081692, 1996064986, 2554220882, 2821834349, 2952996808, 3210313671, 3336571891, 3584528711, 113926993, 338241895, 666307205, 773529912, 1294757372, 1396182291, 1695183700, 1986661051, 2177026350, 2456956037, 2730485921, 2820302411, 3259730800, 3345764771, 3516065817, 3600352804, 4094571909, 275423344, 430227734, 506948616, 659060556, 883997877, 958139571, 1322822218, 1537002063, 1747873779, 1955562222, 2024104815, 2227730452, 2361852424, 2428436474, 2756734187, 3204031479, 3329325298] : List Int)) (inner := [.int .i64 1116352408, .int .i64 1899447441, .int .i64 3049323471, .int .i64 3921009573, .int .i64 961987163, .int .i64 1508970993, .int .i64 2453635748, .int .i64 2870763221, .int .i64 3624381080, .int .i64 310598401, .int .i64 607225278, .int .i64 1426881987, .int .i64 1925078388, .int .i64 2162078206, .int .i64 2614888103, .int .i64 3248222580, .int .i64 3835390401, .int .i64 4022224774, .int .i64 264347078, .int .i64 604807628, .int .i64 770255983, .int .i64 1249150122, .int .i64 1555081692, .int .i64 1996064986, .int .i64 2554220882, .int .i64 2821834349, .int .i64 2952996808, .int .i64 3210313671, .int .i64 3336571891, .int .i64 3584528711, .int .i64 113926993, .int .i64 338241895, .int .i64 666307205, .int .i64 773529912, .int .i64 1294757372, .int .i64 1396182291, .int .i64 1695183700, .int .i64 1986661051, .int .i64 2177026350, .int .i64 2456956037, .int .i64 2730485921, .int .i64 2820302411, .int .i64 3259730800, .int .i64 3345764771, .int .i64 3516065817, .int .i64 3600352804, .int .i64 4094571909, .int .i64 275423344, .int .i64 430227734, .int .i64 506948616, .int .i64 659060556, .int .i64 883997877, .int .i64 958139571, .int .i64 1322822218, .int .i64 1537002063, .int .i64 1747873779, .int .i64 1955562222, .int .i64 2024104815, .int .i64 2227730452, .int .i64 2361852424, .int .i64 2428436474, .int .i64 2756734187, .int .i64 3204031479, .int .i64 3329325298]) (ok := fun _ => True) (okp := fun _ => True) ?hr ?hp (fun _ hk => hk) trivial (Below.refl _ _) (Nat.le_refl _) (by simp) ?_; (case hd => rfl); (case hg => rfl); (case hr => first | (go_simp; done) | (go_simp; rfl)); (case hp => exact xP); intro v329 w3 ho4 hb hg_ hnew_; clear hg_ hnew_; (first | rw [← Ny328.out] at ho4 | (simp only [Int.reduceToNat] at ho4; rw [← Ny328.out] at ho4)); have HO330 := am (R_lower (R_new' ho4 (R_lt (ra HO327))) (below_size (bl HB))); replace HO327 := am (R_elder' (ra HO327) (R_base ho4) hb); replace HB := kH HB hb; clear hb ho4))
 go_ret2
 exact ⟨_, _, xE, rM HO327 h2, rM HO330 h2, bl HB⟩
mutual
def spec_l1Pad.l0 : Nat → ByteArray → List Int → Int → Option (List Int)
 | 0, _, _, _ => none
 | k + 1, x0, x3, x4 => if x4 < (x0.size : Int) then (if 0 ≤ x4 then (if x4 < (x3.length : Int) then (spec_l1Pad.l0 k x0 (x3.set (x4 : Int).toNat (wrap64 (bt x0 x4))) (wrap64 (x4 + 1))) else (none)) else (none)) else (if 0 ≤ (x0.size : Int) then (if (x0.size : Int) < (x3.length : Int) then (spec_l1Pad.l1 k (x3.set ((x0.size : Int) : Int).toNat 128) (wrap64 ((x0.size : Int) * 8)) 0) else (none)) else (none))
def spec_l1Pad.l1 : Nat → List Int → Int → Int → Option (List Int)
 | 0, _, _, _ => none
 | k + 1, x3, x5, x6 => if x6 < 8 then (if 0 ≤ (wrap64 (8 * x6)) then (if 0 ≤ (wrap64 ((wrap64 ((x3.length : Int) - 1)) - x6)) then (if (wrap64 ((wrap64 ((x3.length : Int) - 1)) - x6)) < (x3.length : Int) then (spec_l1Pad.l1 k (x3.set ((wrap64 ((wrap64 ((x3.length : Int) - 1)) - x6)) : Int).toNat (Go.bits .and .i64 (shr .i64 x5 (wrap64 (8 * x6))) 255)) x5 (wrap64 (x6 + 1))) else (none)) else (none)) else (none)) else (some x3)
end
def spec_l1Pad.f (k : Nat) (a0 : ByteArray) : Option (List Int) := if 0 ≤ (wrap64 ((wrap64 (Int.tdiv (wrap64 ((a0.size : Int) + 72)) 64)) * 64)) then (if (wrap64 ((wrap64 (Int.tdiv (wrap64 ((a0.size : Int) + 72)) 64)) * 64) : Int).toNat ≤ 35184372088832 then (spec_l1Pad.l0 k a0 (List.replicate (wrap64 ((wrap64 (Int.tdiv (wrap64 ((a0.size : Int) + 72)) 64)) * 64) : Int).toNat 0) 0) else (none)) else (none)
theorem spec_l1Pad.calls (k : Nat) (a0 : ByteArray) (r : List Int) (w : World) (h : spec_l1Pad.f k a0 = some r) :
  Calls Tryz.prog 96 #[.string a0] w fun e w' => ∃ v0_ : Value, e = .returned (v0_) ∧ Kd.R (Kd.int .i64) 3 w' w.heap.size (fun _ => True) v0_ r ∧ Below w.heap.size w w' := by
 have HB := am (Below.refl w.heap.size w)
 have H : (if 0 ≤ (wrap64 ((wrap64 (Int.tdiv (wrap64 ((a0.size : Int) + 72)) 64)) * 64)) then (if (wrap64 ((wrap64 (Int.tdiv (wrap64 ((a0.size : Int) + 72)) 64)) * 64) : Int).toNat ≤ 35184372088832 then (spec_l1Pad.l0 k a0 (List.replicate (wrap64 ((wrap64 (Int.tdiv (wrap64 ((a0.size : Int) + 72)) 64)) * 64) : Int).toNat 0) 0) else (none)) else (none)) = some r := h
 clear h
 obtain ⟨ji2, hji2⟩ := je (wrap64 ((wrap64 (Int.tdiv (wrap64 ((a0.size : Int) + 72)) 64)) * 64))
 first | rw [hji2] at H | simp only [hji2] at H
 have hji2w : (IntKind.i64.wrap ((wrap64 (Int.tdiv (wrap64 ((a0.size : Int) + 72)) 64)) * 64)) = ji2 := (i64_w _).trans hji2
 replace ⟨c3, H⟩ := ip H
 have c3b0 := eq_true c3
 have c3b1 := dt c3
 clear c3
 replace ⟨c4, H⟩ := ip H
 have c4b0 := eq_true c4
 have c4b1 := dt c4
 clear c4
 obtain ⟨y331, Ny331⟩ := yA (List.replicate (ji2 : Int).toNat 0 : List Int)
 rw [← Ny331.out] at H
 have H' := am H
 clear H
 go_enter Tryz.func96, Tryz.ntmps96
 go_wp2_with ((with_reducible refine gate_dst (N := 12) rfl ?_); refine R_make (Kd.int .i64) _ 3 rfl (N := 12) rfl 45 _ _ rfl ji2 rfl rfl Tryz.underlying45 (.int .i64 0) 8 info3 rfl (by decide) (by omega) 0 (ok := fun _ => True) (okp := fun _ => True) rfl (fun _ hk => hk) trivial (oX) (Nat.le_trans (Nat.mul_le_mul_right _ (oX : ji2.toNat ≤ 35184372088832)) (by omega)) (Below.refl _ _) (Nat.le_refl _) ?_; intro v332 w5 ho6 hb hg_ hnew_; clear hg_ hnew_; (first | rw [← Ny331.out] at ho6 | (simp only [Int.reduceToNat] at ho6; rw [← Ny331.out] at ho6)); have HO333 := am (R_lower ho6 (below_size (bl HB))); replace HB := kH HB hb; clear hb ho6)
 go_loopg [4] k (fun kq v4 w' => ∃ (x3_1 : List Int) (x4_1 : Int), v4 = .int .i64 x4_1 ∧ Aside0 (spec_l1Pad.l0 kq a0 x3_1 x4_1 = some r) ∧ Aside0 (kq ≤ k) ∧ Aside0 (Kd.R (Kd.int .i64) 3 w' w.heap.size (fun _ => True) v332 x3_1) ∧ Aside0 (Below w.heap.size w w'))
 case atStart => exact ⟨(y331), (0), xR, H', ⟨Nat.le_refl _⟩, ⟨ra HO333⟩, ⟨bl HB⟩⟩
 case round =>
  clear H'
  try clear c3 c3b0 c3b1 c4 c4b0 c4b1
  obtain ⟨x3_1, x4_1, rfl, HA, HK1, HO_3, HB⟩ := hrel
  cases gk with
  | zero => exact absurd HA.out (by simp [spec_l1Pad.l0])
  | succ k1 =>
   have H := HA.out
   clear HA
   simp only [spec_l1Pad.l0] at H
   by_cases c7 : x4_1 < (a0.size : Int)
   ·rw [if_pos c7] at H
    have c7b0 := dt c7
    clear c7
    replace ⟨c8b0, H⟩ := ipd H
    replace ⟨c10b0, H⟩ := ipd H
    obtain ⟨y334, Ny334⟩ := yA (x3_1.set (x4_1 : Int).toNat (wrap64 (bt a0 x4_1)) : List Int)
    first | rw [← Ny334.out] at H | (replace H := bh H; rw [← Ny334.out] at H)
    have H' := am H
    clear H
    have p9 : 0 ≤ (x4_1 : Int) := oX
    have q9 : x4_1 < (a0.size : Int) := oX
    have hx9 := bt_at a0 x4_1
    replace ⟨p9, q9⟩ := eT p9 q9
    have p11 : 0 ≤ (x4_1 : Int) := oX
    have q11 : (x4_1 : Int) < ((x3_1.length : Int) : Int) := oX
    obtain ⟨go11, co11, eo11, gb11, gl11, cl11, HG11⟩ := R_form HO_3.out (by omega)
    (first | cases eo11 | (injection eo11 with ea_ en_ ec_; (first | subst ea_ | (injection ea_ with ea_; subst ea_)); subst ec_; clear en_))
    have GB11 := am gb11
    have GG11 := am HG11
    clear gb11 gl11 HG11
    obtain ⟨hx11_0, hf11_0⟩ := R_celln 0 HO_3.out (x4_1 : Int) p11 q11
    replace ⟨p11, q11⟩ := eT p11 q11
    have HP12 := R_putg HO_3.out (x4_1 : Int) (wrap64 (bt a0 x4_1))
    go_wp2_with ((with_reducible refine gate_store (t := 3) (p := 25) rfl ?_); refine store_event (t := 3) (p := 25) (v := ?vo_w13) (w1 := (wr.setCell ⟨go11, (x4_1 : Int).toNat, none⟩ (.int .i64 (wrap64 (bt a0 x4_1))))) ?hg ?ho ?hn ?hr ?_; (case ho => rfl); (case hg => rfl); (case hn => rfl); (case hr => first | (go_simp; done) | (go_simp; rfl)); intro w13 hw; have hg : wr.grownBy w13 (some go11) := (by rw [hw]; exact HP12.2); have hp_ : Kd.R (Kd.int .i64) 3 w13 w.heap.size (fun _ => True) (.slice (some ⟨go11, 0, none⟩) x3_1.length co11) y334 := (by rw [hw, Ny334.out]; exact HP12.1); clear HP12; replace HO_3 := am (hp_); replace HB := am ((by rw [hw]; exact below_set (HB.out) GB11.out : Below w.heap.size w w13)); clear hg hw hp_)
    go_roundg k1
    case measure => have := HK1.out; omega
    case rel => exact ⟨(y334), (wrap64 (x4_1 + 1)), xR, H', ⟨xL HK1⟩, ⟨ra HO_3⟩, ⟨bl HB⟩⟩
   rw [if_neg c7] at H
   have c7b0 := df c7
   clear c7
   replace ⟨c14, H⟩ := ip H
   have c14b0 := dt c14
   have c14b1 : decide (0 ≤ a0.size) = true := decide_eq_true (by omega)
   clear c14
   replace ⟨c15, H⟩ := ip H
   have c15b0 := dt c15
   have c15b1 : decide (a0.size < x3_1.length) = true := decide_eq_true (Int.ofNat_lt.mp c15)
   clear c15
   obtain ⟨y335, Ny335⟩ := yA (x3_1.set ((a0.size : Int) : Int).toNat 128 : List Int)
   first | rw [← Ny335.out] at H | (replace H := bh H; rw [← Ny335.out] at H)
   have H' := am H
   clear H
   have p16 : 0 ≤ ((a0.size : Int) : Int) := oX
   have q16 : ((a0.size : Int) : Int) < ((x3_1.length : Int) : Int) := oX
   obtain ⟨go16, co16, eo16, gb16, gl16, cl16, HG16⟩ := R_form HO_3.out (by omega)
   (first | cases eo16 | (injection eo16 with ea_ en_ ec_; (first | subst ea_ | (injection ea_ with ea_; subst ea_)); subst ec_; clear en_))
   have GB16 := am gb16
   have GG16 := am HG16
   clear gb16 gl16 HG16
   obtain ⟨hx16_0, hf16_0⟩ := R_celln 0 HO_3.out ((a0.size : Int) : Int) p16 q16
   replace ⟨p16, q16⟩ := eT p16 q16
   have HP17 := R_putg HO_3.out ((a0.size : Int) : Int) 128
   go_wp2_with ((with_reducible refine gate_store (t := 3) (p := 29) rfl ?_); refine store_event (t := 3) (p := 29) (v := ?vo_w18) (w1 := (wr.setCell ⟨go16, a0.size, none⟩ (.int .i64 128))) ?hg ?ho ?hn ?hr ?_; (case ho => rfl); (case hg => rfl); (case hn => rfl); (case hr => (simp only [Int.toNat_natCast] at hx16_0 hf16_0; first | (go_simp; done) | (go_simp; rfl))); intro w18 hw; have hg : wr.grownBy w18 (some go16) := (by rw [hw]; have e_ := HP17.2; rw [Int.toNat_natCast] at e_; exact e_); have hp_ : Kd.R (Kd.int .i64) 3 w18 w.heap.size (fun _ => True) (.slice (some ⟨go16, 0, none⟩) x3_1.length co16) y335 := (by rw [hw, Ny335.out]; rw [Int.toNat_natCast]; have e_ := HP17.1; rw [Int.toNat_natCast] at e_; exact e_); clear HP17; replace HO_3 := am (hp_); replace HB := am ((by rw [hw]; exact below_set (HB.out) GB16.out : Below w.heap.size w w18)); clear hg hw hp_)
   go_loopg [6] k1 (fun kq v6 w' => ∃ (x3_2 : List Int) (x6_2 : Int), v6 = .int .i64 x6_2 ∧ Aside0 (spec_l1Pad.l1 kq x3_2 (wrap64 ((a0.size : Int) * 8)) x6_2 = some r) ∧ Aside0 (kq ≤ k1) ∧ Aside0 (Kd.R (Kd.int .i64) 3 w' w.heap.size (fun _ => True) (.slice (some ⟨go16, 0, none⟩) x3_1.length co16) x3_2) ∧ Aside0 (Below w.heap.size w w'))
   case atStart => exact ⟨(y335), (0), xR, H', ⟨Nat.le_refl _⟩, ⟨ra HO_3⟩, ⟨bl HB⟩⟩
   case round =>
    clear H'
    try clear c3 c3b0 c3b1 c4 c4b0 c4b1 c7 c7b0 c14 c14b0 c14b1 c15 c15b0 c15b1 p16 q16 hx16_0
    obtain ⟨x3_2, x6_2, rfl, HA, HK2, HO_3, HB⟩ := hrel
    have hl3_2 := (R_reads' HO_3.out).1
    rw [hl3_2] at HO_3
    (try simp only [hl3_2])
    cases gk with
    | zero => exact absurd HA.out (by simp [spec_l1Pad.l1])
    | succ k2 =>
     have H := HA.out
     clear HA
     simp only [spec_l1Pad.l1] at H
     by_cases c19 : x6_2 < 8
     rotate_left
     ·rw [if_neg c19] at H
      have c19b0 := df c19
      clear c19
      obtain rfl := oI H
      go_wp2
      go_ret
      exact ⟨_, by first | rfl | (simp [errW_none, errW_some] <;> rfl) | (simp only [← hji2]; first | rfl | (simp [errW_none, errW_some] <;> rfl)) | (simp [*, errW_none, errW_some] <;> rfl), ra HO_3, bl HB⟩
     rw [if_pos c19] at H
     have c19b0 := dt c19
     clear c19
     obtain ⟨ji20, hji20⟩ := je (wrap64 (8 * x6_2))
     first | rw [hji20] at H | simp only [hji20] at H
     have hji20w : (IntKind.i64.wrap (8 * x6_2)) = ji20 := (i64_w _).trans hji20
     replace ⟨c21, H⟩ := ip H
     have c21b0 := eq_true c21
     have c21b1 := dt c21
     clear c21
     obtain ⟨ji22, hji22⟩ := je (shr .i64 (wrap64 ((a0.size : Int) * 8)) (ji20))
     first | rw [hji22] at H | simp only [hji22] at H
     have hji22_ : ((wrap64 ((a0.size : Int) * 8)) / 2 ^ min (ji20).toNat 64) = ji22 := hji22
     have hji22z : (ji20) ≤ 64 → ((wrap64 ((a0.size : Int) * 8)) / 2 ^ (ji20).toNat) = ji22 := shr_small hji22
     obtain ⟨ji23, hji23⟩ := je (wrap64 ((wrap64 ((x3_2.length : Int) - 1)) - x6_2))
     first | rw [hji23] at H | simp only [hji23] at H
     have hji23w : (IntKind.i64.wrap ((wrap64 ((x3_2.length : Int) - 1)) - x6_2)) = ji23 := (i64_w _).trans hji23
     replace ⟨c24b0, H⟩ := ipd H
     replace ⟨c25b0, H⟩ := ipd H
     obtain ⟨y336, Ny336⟩ := yA (x3_2.set ((ji23) : Int).toNat (Go.bits .and .i64 (ji22) 255) : List Int)
     first | rw [← Ny336.out] at H | (replace H := bh H; rw [← Ny336.out] at H)
     have H' := am H
     clear H
     have p26 : 0 ≤ ((ji23) : Int) := oX
     have q26 : ((ji23) : Int) < ((x3_2.length : Int) : Int) := oX
     obtain ⟨hx26_0, hf26_0⟩ := R_celln 0 HO_3.out ((ji23) : Int) p26 q26
     replace ⟨p26, q26⟩ := eT p26 q26
     have HP27 := R_putg HO_3.out ((ji23) : Int) (Go.bits .and .i64 (ji22) 255)
     go_wp2_with ((with_reducible refine gate_store (t := 3) (p := 48) rfl ?_); refine store_event (t := 3) (p := 48) (v := ?vo_w28) (w1 := (wr.setCell ⟨go16, ((ji23) : Int).toNat, none⟩ (.int .i64 (Go.bits .and .i64 (ji22) 255)))) ?hg ?ho ?hn ?hr ?_; (case ho => rfl); (case hg => rfl); (case hn => rfl); (case hr => first | (go_simp; done) | (go_simp; rfl)); intro w28 hw; have hg : wr.grownBy w28 (some go16) := (by rw [hw]; exact HP27.2); have hp_ : Kd.R (Kd.int .i64) 3 w28 w.heap.size (fun _ => True) (.slice (some ⟨go16, 0, none⟩) x3_2.length co16) y336 := (by rw [hw, Ny336.out]; exact HP27.1); clear HP27; replace HO_3 := am (hp_); replace HB := am ((by rw [hw]; exact below_set (HB.out) GB16.out : Below w.heap.size w w28)); clear hg hw hp_)
     (try simp only [← hl3_2])
     go_roundg k2
     case measure => have := HK1.out; have := HK2.out; omega
     case rel => exact ⟨(y336), (wrap64 (x6_2 + 1)), xR, H', ⟨by have := HK1.out; have := HK2.out; omega⟩, ⟨by (try simp only [hl3_2]); (with_reducible repeat (first | apply R_alloc | apply R_drewN | apply R_drew)); exact HO_3.out⟩, ⟨bl HB⟩⟩
def spec_l1Turn.f (a0 : Int) (a1 : Int) : Option (Int) := if 0 ≤ a1 then (if 0 ≤ (wrap64 (32 - a1)) then (some (Go.bits .or .i64 (shr .i64 a0 a1) (Go.bits .and .i64 (shl .i64 a0 (wrap64 (32 - a1))) 4294967295))) else (none)) else (none)
theorem spec_l1Turn.calls (a0 : Int) (a1 : Int) (r : Int) (w : World) (h : spec_l1Turn.f a0 a1 = some r) :
  Calls Tryz.prog 111 #[.int .i64 a0, .int .i64 a1] w fun e w' => e = .returned (.int .i64 r) ∧ Drawn0 w w' := by
 have H : (if 0 ≤ a1 then (if 0 ≤ (wrap64 (32 - a1)) then (some (Go.bits .or .i64 (shr .i64 a0 a1) (Go.bits .and .i64 (shl .i64 a0 (wrap64 (32 - a1))) 4294967295))) else (none)) else (none)) = some r := h
 clear h
 replace ⟨c3, H⟩ := ip H
 have c3b0 := eq_true c3
 have c3b1 := dt c3
 clear c3
 obtain ⟨ji4, hji4⟩ := je (shr .i64 a0 a1)
 first | rw [hji4] at H | simp only [hji4] at H
 have hji4_ : (a0 / 2 ^ min a1.toNat 64) = ji4 := hji4
 have hji4z : a1 ≤ 64 → (a0 / 2 ^ a1.toNat) = ji4 := shr_small hji4
 obtain ⟨ji5, hji5⟩ := je (wrap64 (32 - a1))
 first | rw [hji5] at H | simp only [hji5] at H
 have hji5w : (IntKind.i64.wrap (32 - a1)) = ji5 := (i64_w _).trans hji5
 replace ⟨c6, H⟩ := ip H
 have c6b0 := eq_true c6
 have c6b1 := dt c6
 clear c6
 obtain ⟨ji7, hji7⟩ := je (shl .i64 a0 (ji5))
 first | rw [hji7] at H | simp only [hji7] at H
 have hji7_ : (IntKind.i64.wrap (a0 * 2 ^ min (ji5).toNat 64)) = ji7 := hji7
 have hji7z : (ji5) ≤ 64 → (IntKind.i64.wrap (a0 * 2 ^ (ji5).toNat)) = ji7 := shl_small hji7
 have hji7y : (wrap64 (a0 * 2 ^ min (ji5).toNat 64)) = ji7 := (i64_w _).symm.trans hji7_
 have hji7x : (ji5) ≤ 64 → (wrap64 (a0 * 2 ^ (ji5).toNat)) = ji7 := fun h_ => (i64_w _).symm.trans (hji7z h_)
 obtain rfl := oI H
 go_enter Tryz.func111, Tryz.ntmps111
 go_wp2
 repeat (go_quiet (fail); try go_wp2)
 go_ret
 exact ⟨by first | rfl | (simp; done) | (simp only [← hji4, ← hji5, ← hji7] <;> (first | rfl | simp)) | (simp [*]; done), xW⟩

end Go.Proofs.YtgjljbaadglpnaaGreatDoor.PFnPaidGet
