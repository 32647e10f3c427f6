/- Functions of the program and what each answers: the kit's print, shortened (wip/press2.py). -/
import Derived.Test.YtgjljbaadglpnaaGreatDoorPFnPaidPutx0
import Derived.Test.YtgjljbaadglpnaaGreatDoorPFnPaidPutx19
import Derived.Test.YtgjljbaadglpnaaGreatDoorPFnPaidPutx26
import Derived.Test.YtgjljbaadglpnaaGreatDoorPFnPaidPutx28
import Derived.Test.YtgjljbaadglpnaaGreatDoorPFnPaidPutx32
namespace Go.Proofs.YtgjljbaadglpnaaGreatDoor.PFnPaidPut
open Go.Proofs.YtgjljbaadglpnaaGreatDoor.Sq Go.RowKit Go.Proofs.YtgjljbaadglpnaaGreatDoorW.PrintWords Go.Proofs.YtgjljbaadglpnaaGreatDoorW.PrintLast Go.Proofs.YtgjljbaadglpnaaGreatDoorW.PrintMore
attribute [local go_sem] max2_int min2_int max_two min_two max_three min_three max_four min_four   -- for this text's walks alone
set_option linter.unusedVariables false
set_option linter.unusedSimpArgs false
set_option maxHeartbeats 64000000
set_option maxRecDepth 100000
def laws_FnPaidPut.j0 : Nat → ByteArray → Bool → Int → ByteArray → ByteArray → Int → Int → Int → List (S93) → List (S93) → List (S48) → Option (Bool)
 | 0, _, _, _, _, _, _, _, _, _, _, _ => none
 | k + 1, x4, x21, x755000, x755001, x755002, x755003, x755004, x755005, x755006, x755007, x755008 => if x21 = true then ((spec_PaidPut.f k x755000 x755001 x755002 x755003 x755004 x755005 x755006 x755007 x755008).bind fun t757 => (some (x4.toList == t757.toList))) else ((impl_PaidGet.f k x4).bind fun bt758 => (if bt758.2.2.2.2.2.2.2.2.2 = true then ((laws_coPaid.f k bt758.1 bt758.2.1 bt758.2.2.1 bt758.2.2.2.1 bt758.2.2.2.2.1 bt758.2.2.2.2.2.1 bt758.2.2.2.2.2.2.1 bt758.2.2.2.2.2.2.2.1 bt758.2.2.2.2.2.2.2.2.1 x755000 x755001 x755002 x755003 x755004 x755005 x755006 x755007 x755008).bind fun t775 => (if t775 = true then ((impl_PaidDeep.f k bt758.1 bt758.2.1 bt758.2.2.1 bt758.2.2.2.1 bt758.2.2.2.2.1 bt758.2.2.2.2.2.1 bt758.2.2.2.2.2.2.1 bt758.2.2.2.2.2.2.2.1 bt758.2.2.2.2.2.2.2.2.1).bind fun t776 => ((impl_PaidDeep.f k x755000 x755001 x755002 x755003 x755004 x755005 x755006 x755007 x755008).bind fun t777 => (some (t776 == t777)))) else (some false))) else (some false)))
def laws_FnPaidPut.f (k : Nat) (l0 : List Int) : Option (Bool) := if (l0.length : Int) > 1048576 then (some true) else ((spec_DrawPaidPut.f k l0).bind fun bt739 => ((impl_PaidPut.f k bt739.1 bt739.2.1 bt739.2.2.1 bt739.2.2.2.1 bt739.2.2.2.2.1 bt739.2.2.2.2.2.1 bt739.2.2.2.2.2.2.1 bt739.2.2.2.2.2.2.2.1 bt739.2.2.2.2.2.2.2.2).bind fun t755 => ((spec_PaidPut.f k bt739.1 bt739.2.1 bt739.2.2.1 bt739.2.2.2.1 bt739.2.2.2.2.1 bt739.2.2.2.2.2.1 bt739.2.2.2.2.2.2.1 bt739.2.2.2.2.2.2.2.1 bt739.2.2.2.2.2.2.2.2).bind fun t756 => (if t755.toList = t756.toList then (laws_FnPaidPut.j0 k t755 (t755.toList == ([] : List UInt8)) bt739.1 bt739.2.1 bt739.2.2.1 bt739.2.2.2.1 bt739.2.2.2.2.1 bt739.2.2.2.2.2.1 bt739.2.2.2.2.2.2.1 bt739.2.2.2.2.2.2.2.1 bt739.2.2.2.2.2.2.2.2) else (laws_FnPaidPut.j0 k t755 true bt739.1 bt739.2.1 bt739.2.2.1 bt739.2.2.2.1 bt739.2.2.2.2.1 bt739.2.2.2.2.2.1 bt739.2.2.2.2.2.2.1 bt739.2.2.2.2.2.2.2.1 bt739.2.2.2.2.2.2.2.2)))))
theorem laws_FnPaidPut.mono_l : ∀ k, (∀ y0 y1 y2 y3 y4 y5 y6 y7 y8 y9 y10, LeO (laws_FnPaidPut.j0 k y0 y1 y2 y3 y4 y5 y6 y7 y8 y9 y10) (laws_FnPaidPut.j0 (k + 1) y0 y1 y2 y3 y4 y5 y6 y7 y8 y9 y10))
 | 0 => fun _ _ _ _ _ _ _ _ _ _ _ r h => by simp [laws_FnPaidPut.j0] at h
 | k + 1 => by
  have ih0 := laws_FnPaidPut.mono_l k
  ·intro y0 y1 y2 y3 y4 y5 y6 y7 y8 y9 y10
   unfold laws_FnPaidPut.j0
   exact mo7 ih0 impl_PaidDeep.mono impl_PaidGet.mono impl_PaidPut.mono laws_coPaid.mono spec_DrawPaidPut.mono spec_PaidPut.mono
theorem laws_FnPaidPut.mono : ∀ a0 k, LeO (laws_FnPaidPut.f k a0) (laws_FnPaidPut.f (k + 1) a0) := by
 intro a0 k
 have ih0 := laws_FnPaidPut.mono_l k
 unfold laws_FnPaidPut.f
 exact mo7 ih0 impl_PaidDeep.mono impl_PaidGet.mono impl_PaidPut.mono laws_coPaid.mono spec_DrawPaidPut.mono spec_PaidPut.mono
def laws_FnPaidPut.T8 : Bool × List (List Nat × List Nat) := (true, [([], []), ([0], [0]), ([1], [1]), ([1], [1]), ([2, 3, 1, 1], [1, 2, 3]), ([1, 4], [1, 4]), ([5, 4], [5]), ([6], [6]), ([7, 6, 6], [6, 7]), ([6], [6]), ([9, 8, 6], [6, 9]), ([8, 10, 6], [6, 8, 10]), ([6, 11], [6, 11]), ([12, 10, 0, 1, 2, 3, 4, 5, 6, 7, 8, 9, 10, 11, 12], [12])])
def laws_FnPaidPut.B8 : List Nat := [0, 1, 3, 3, 15, 31, 63, 127, 255, 127, 1023, 2047, 4095, 8191]
theorem laws_FnPaidPut.tab8 : rtab .any (opsOf Tryz.f3 8) = laws_FnPaidPut.T8 := by kernel_rfl
theorem laws_FnPaidPut.bits8 : waitsOk laws_FnPaidPut.T8.2 laws_FnPaidPut.B8 = true := by kernel_rfl
theorem laws_FnPaidPut.calls (k : Nat) (A0 : Option Addr) (c0 : Nat) (l0 : List Int) (r : Bool) (w : World) (hr0 : Kd.C (Kd.int .u8) w A0 l0.length l0) (hc0 : l0.length ≤ c0) (h : laws_FnPaidPut.f k l0 = some r) (PQM_ : Aside0 (Sh.HasM w)) (PQT_ : Aside0 (Sh.HasT w)) :
  Calls Tryz.prog 3 #[.slice A0 l0.length c0] w fun e w' => e = .returned (.bool r) ∧ Below w.heap.size w w' := by
 have hu30 := Tryz.underlying30
 have HR0 := Aside0.mk hr0
 have HC0 := Aside0.mk hc0
 clear hr0 hc0
 have HB := Aside0.mk (Below.refl w.heap.size w)
 have H : (if (l0.length : Int) > 1048576 then (some true) else ((spec_DrawPaidPut.f k l0).bind fun bt739 => ((impl_PaidPut.f k bt739.1 bt739.2.1 bt739.2.2.1 bt739.2.2.2.1 bt739.2.2.2.2.1 bt739.2.2.2.2.2.1 bt739.2.2.2.2.2.2.1 bt739.2.2.2.2.2.2.2.1 bt739.2.2.2.2.2.2.2.2).bind fun t755 => ((spec_PaidPut.f k bt739.1 bt739.2.1 bt739.2.2.1 bt739.2.2.2.1 bt739.2.2.2.2.1 bt739.2.2.2.2.2.1 bt739.2.2.2.2.2.2.1 bt739.2.2.2.2.2.2.2.1 bt739.2.2.2.2.2.2.2.2).bind fun t756 => (if t755.toList = t756.toList then (laws_FnPaidPut.j0 k t755 (t755.toList == ([] : List UInt8)) bt739.1 bt739.2.1 bt739.2.2.1 bt739.2.2.2.1 bt739.2.2.2.2.1 bt739.2.2.2.2.2.1 bt739.2.2.2.2.2.2.1 bt739.2.2.2.2.2.2.2.1 bt739.2.2.2.2.2.2.2.2) else (laws_FnPaidPut.j0 k t755 true bt739.1 bt739.2.1 bt739.2.2.1 bt739.2.2.2.1 bt739.2.2.2.2.1 bt739.2.2.2.2.2.1 bt739.2.2.2.2.2.2.1 bt739.2.2.2.2.2.2.2.1 bt739.2.2.2.2.2.2.2.2)))))) = some r := h
 clear h
 by_cases c2 : (l0.length : Int) > 1048576
 ·rw [if_pos c2] at H
  have c2b0 := decide_eq_true c2
  have c2b1 : decide (1048576 < l0.length) = true := decide_eq_true (by omega)
  clear c2
  obtain rfl := Option.some.inj H
  go_enter Tryz.func3, Tryz.ntmps3
  go_wp2
  go_ret
  exact ⟨xE, bl HB⟩
 rw [if_neg c2] at H
 have c2b0 := decide_eq_false c2
 have c2b1 : decide (1048576 < l0.length) = false := decide_eq_false (by omega)
 clear c2
 replace H := Option.bind_eq_some_iff.mp H
 obtain ⟨⟨t739, t740, t741, t742, t743, t744, t745, t748, t751⟩, A30, H⟩ := H
 have A3 := Aside0.mk A30
 clear A30
 replace H := oa H
 obtain ⟨t755, A4, H⟩ := H
 have HC5 := Aside0.mk H
 clear H
 go_enter Tryz.func3, Tryz.ntmps3
 go_upto_region 5 with ((with_reducible refine gg ?_); first | (refine gL 11 Tryz.func5 #[.slice A0 l0.length c0] ?_; (with_reducible refine (spec_DrawPaidPut.calls k _ _ l0 t739 t740 t741 t742 t743 t744 t745 t748 t751 _ ?side1 ?side2 A3.out).mono ?_); (case side1 => exact cr HR0.out); (case side2 => exact HC0.out); rintro e w6 ⟨v746, v749, v752, rfl, ho0, ho1, ho2, hb⟩; refine ⟨_, rfl, ?_⟩; have HO747 := am (Kd.R_lower ho0 (below_size (bl HB))); have HO750 := am (Kd.R_lower ho1 (below_size (bl HB))); have HO753 := am (Kd.R_lower ho2 (below_size (bl HB))); replace HB := kH HB hb; (try clear hb); (try clear ho0); (try clear ho1); (try clear ho2)) | (refine bE 3 #[.int .i64 0, .string (⟨#[]⟩ : ByteArray), .string (⟨#[]⟩ : ByteArray), .int .i64 0, .int .i64 0, .int .i64 0, .slice none 0 0, .slice none 0 0, .slice none 0 0] 30 ?_; intro gb754 hg w7 hbox hb; replace HO747 := rk HO747 hb; replace HO750 := rk HO750 hb; replace HO753 := rk HO753 hb; have BK754 := am (hbox); have GW754 := zB hg HB; have GE754 := zB hg HB; replace HB := kH HB hb; clear hb hbox hg; have hz8 := bc9 BK754; obtain ⟨Ao9, co9, eo9⟩ := Kd.R_slice HO747.out; subst eo9; obtain ⟨Ao10, co10, eo10⟩ := Kd.R_slice HO750.out; subst eo10; obtain ⟨Ao11, co11, eo11⟩ := Kd.R_slice HO753.out; subst eo11) | (refine store_event (t := 30) (p := 3) (v := ?vo_) (w1 := ?wo_) ?hg ?ho ?hn ?hr ?_; (case ho => rfl); (case hg => rfl); (case hn => rfl); (case hr => go_simp; rfl); intro wq_ hW_; (first | (have BQ_ := kF (.cells #[.int .i64 t739, .string t740, .string t741, .int .i64 t742, .int .i64 t743, .int .i64 t744, .slice Ao9 t745.length co9, .slice Ao10 t748.length co10, .slice Ao11 t751.length co11] 30 (0, 0)) BK754 hW_; have hzq_ := bc9 BQ_) | (have BQ_ := am hW_; have hzq_ := am hW_)); replace hW_ := am hW_) | (refine gL 13 Tryz.func6 #[.agg #[.int .i64 t739, .string t740, .string t741, .int .i64 t742, .int .i64 t743, .int .i64 t744, .slice Ao9 t745.length co9, .slice Ao10 t748.length co10, .slice Ao11 t751.length co11]] ?_; (try (clear hzq_ BQ_; obtain ⟨hW_⟩ := hW_; subst hW_)); (with_reducible refine (impl_PaidPut.calls k t739 t740 t741 t742 t743 t744 _ _ t745 _ _ t748 _ _ t751 t755 _ ?side1 ?side2 ?side3 ?side4 ?side5 ?side6 A4.out (Aside0.mk (Sh.hasT_of PQT_ (xB HB)))).mono ?_); (case side1 => exact (Kd.R_reads' (rf HO747 BK754)).2.2); (case side2 => exact sl HO747); (case side3 => exact (Kd.R_reads' (rf HO750 BK754)).2.2); (case side4 => exact sl HO750); (case side5 => exact (Kd.R_reads' (rf HO753 BK754)).2.2); (case side6 => exact sl HO753); rintro e w12 ⟨rfl, hb⟩; refine ⟨_, rfl, ?_⟩; replace HO747 := am (Kd.R_below (rf HO747 BK754) hb); replace HO750 := am (Kd.R_below (rf HO750 BK754) hb); replace HO753 := am (Kd.R_below (rf HO753 BK754) hb); replace BK754 := kP (.cells #[.int .i64 t739, .string t740, .string t741, .int .i64 t742, .int .i64 t743, .int .i64 t744, .slice Ao9 t745.length co9, .slice Ao10 t748.length co10, .slice Ao11 t751.length co11] 30 (0, 0)) BK754 hb; replace HB := kH HB hb; (try clear hb)))
 (try simp only [Act.put, sa, s0, s1])
 (try (clear hzq_ BQ_; obtain ⟨hW_⟩ := hW_; subst hW_))
 go_cut [21] (fun v21 wc => ∃ (kq : Nat) (x21_4 : Bool), v21 = .bool x21_4 ∧ Aside0 (laws_FnPaidPut.j0 kq t755 x21_4 t739 t740 t741 t742 t743 t744 t745 t748 t751 = some r) ∧ Aside0 (kq ≤ k) ∧ Aside0 (Kd.R k93 93 wc w.heap.size (fun k_ => some k_ ≠ ((.slice Ao10 t748.length co10) : Value).ownBlock) (.slice Ao9 t745.length co9) t745) ∧ Aside0 (Kd.R k93 93 wc w.heap.size (fun k_ => some k_ ≠ ((.slice Ao9 t745.length co9) : Value).ownBlock) (.slice Ao10 t748.length co10) t748) ∧ Aside0 (Kd.R k48 48 wc w.heap.size (fun _ => True) (.slice Ao11 t751.length co11) t751) ∧ Aside0 (wc.heap[gb754]? = some (.cells #[.int .i64 t739, .string t740, .string t741, .int .i64 t742, .int .i64 t743, .int .i64 t744, (.slice Ao9 t745.length co9), (.slice Ao10 t748.length co10), (.slice Ao11 t751.length co11)] 30 (0, 0))) ∧ Aside0 (Below w.heap.size w wc))
 case first =>
  have H := HC5.out
  clear HC5
  replace H := oa H
  obtain ⟨t756, A13, H⟩ := H
  by_cases c14 : t755.toList = t756.toList
  rotate_left
  ·rw [if_neg c14] at H
   have c14b0 := beq_eq_false_iff_ne.mpr c14
   have c14b1 := bne_iff_ne.mpr c14
   (first | rw [c14b0] | rw [c14b1] | (simp only [i64_w, i32_w]; rw [c14b0]) | skip)
   have H' := Aside0.mk H
   clear H
   (first | have hz17 := bc9 (kF _ BK754 hW_.out) | have hz17 := bc9 BK754)
   go_wp2_with ((with_reducible refine gg ?_); refine gL 16 Tryz.func7 #[.agg #[.int .i64 t739, .string t740, .string t741, .int .i64 t742, .int .i64 t743, .int .i64 t744, .slice Ao9 t745.length co9, .slice Ao10 t748.length co10, .slice Ao11 t751.length co11]] ?_; (try (clear hzq_ BQ_; obtain ⟨hW_⟩ := hW_; subst hW_)); (with_reducible refine (spec_PaidPut.calls k t739 t740 t741 t742 t743 t744 _ _ t745 _ _ t748 _ _ t751 t756 _ ?side1 ?side2 ?side3 ?side4 ?side5 ?side6 A13.out).mono ?_); (case side1 => exact cr (Kd.R_reads' HO747.out).2.2); (case side2 => exact sl HO747); (case side3 => exact cr (Kd.R_reads' HO750.out).2.2); (case side4 => exact sl HO750); (case side5 => exact cr (Kd.R_reads' HO753.out).2.2); (case side6 => exact sl HO753); rintro e w18 ⟨rfl, hb⟩; refine ⟨_, rfl, ?_⟩; replace HO747 := rk HO747 hb; replace HO750 := rk HO750 hb; replace HO753 := rk HO753 hb; replace BK754 := kP _ BK754 hb; replace HB := kH HB hb; (try clear hb))
   (try (clear hzq_ BQ_; obtain ⟨hW_⟩ := hW_; subst hW_))
   go_meet
   case rel => exact ⟨_, (true), xR, H', ⟨xO⟩, ⟨ra HO747⟩, ⟨ra HO750⟩, ⟨ra HO753⟩, ⟨kb BK754⟩, ⟨xB HB⟩⟩
  rw [if_pos c14] at H
  have c14b0 := beq_iff_eq.mpr c14
  have c14b1 := bne_eq_false_iff_eq.mpr c14
  clear c14
  (first | rw [c14b0] | rw [c14b1] | (simp only [i64_w, i32_w]; rw [c14b0]) | skip)
  have H' := Aside0.mk H
  clear H
  (first | have hz15 := bc9 (kF _ BK754 hW_.out) | have hz15 := bc9 BK754)
  go_wp2_with ((with_reducible refine gg ?_); refine gL 16 Tryz.func7 #[.agg #[.int .i64 t739, .string t740, .string t741, .int .i64 t742, .int .i64 t743, .int .i64 t744, .slice Ao9 t745.length co9, .slice Ao10 t748.length co10, .slice Ao11 t751.length co11]] ?_; (try (clear hzq_ BQ_; obtain ⟨hW_⟩ := hW_; subst hW_)); (with_reducible refine (spec_PaidPut.calls k t739 t740 t741 t742 t743 t744 _ _ t745 _ _ t748 _ _ t751 t756 _ ?side1 ?side2 ?side3 ?side4 ?side5 ?side6 A13.out).mono ?_); (case side1 => exact cr (Kd.R_reads' HO747.out).2.2); (case side2 => exact sl HO747); (case side3 => exact cr (Kd.R_reads' HO750.out).2.2); (case side4 => exact sl HO750); (case side5 => exact cr (Kd.R_reads' HO753.out).2.2); (case side6 => exact sl HO753); rintro e w16 ⟨rfl, hb⟩; refine ⟨_, rfl, ?_⟩; replace HO747 := rk HO747 hb; replace HO750 := rk HO750 hb; replace HO753 := rk HO753 hb; replace BK754 := kP _ BK754 hb; replace HB := kH HB hb; (try clear hb))
  (try (clear hzq_ BQ_; obtain ⟨hW_⟩ := hW_; subst hW_))
  go_meet
  case rel => exact ⟨_, ((t755.toList == ([] : List UInt8))), xR, H', ⟨xO⟩, ⟨ra HO747⟩, ⟨ra HO750⟩, ⟨ra HO753⟩, ⟨kb BK754⟩, ⟨xB HB⟩⟩
 case rest =>
  clear HC5
  try clear c1
  try clear c2
  try clear c2b0
  try clear c2b1
  try clear p2
  try clear c3
  try clear c5
  try clear c6
  try clear c7
  try clear c14
  try clear c14b0
  try clear c14b1
  try clear hz15
  try clear hz17
  try clear hz8
  obtain ⟨kq, x21_4, rfl, HA, HJ4, HO_755006, HO_755007, HO_755008, BK754, HB⟩ := hcut
  cases kq with
  | zero => exact absurd HA.out (by simp [laws_FnPaidPut.j0])
  | succ kj4 =>
   have H := HA.out
   clear HA
   simp only [laws_FnPaidPut.j0] at H
   by_cases c19 : x21_4 = true
   ·subst c19
    rw [if_pos rfl] at H
    replace H := oa H
    obtain ⟨t757, A20, H⟩ := H
    obtain rfl := Option.some.inj H
    (first | have hz21 := bc9 (kF _ BK754 hW_.out) | have hz21 := bc9 BK754)
    go_wp2_with ((with_reducible refine gg ?_); refine gL 24 Tryz.func7 #[.agg #[.int .i64 t739, .string t740, .string t741, .int .i64 t742, .int .i64 t743, .int .i64 t744, .slice Ao9 t745.length co9, .slice Ao10 t748.length co10, .slice Ao11 t751.length co11]] ?_; (try (clear hzq_ BQ_; obtain ⟨hW_⟩ := hW_; subst hW_)); (with_reducible refine (spec_PaidPut.calls kj4 t739 t740 t741 t742 t743 t744 _ _ t745 _ _ t748 _ _ t751 t757 _ ?side1 ?side2 ?side3 ?side4 ?side5 ?side6 A20.out).mono ?_); (case side1 => exact cr (Kd.R_reads' HO_755006.out).2.2); (case side2 => exact sl HO_755006); (case side3 => exact cr (Kd.R_reads' HO_755007.out).2.2); (case side4 => exact sl HO_755007); (case side5 => exact cr (Kd.R_reads' HO_755008.out).2.2); (case side6 => exact sl HO_755008); rintro e w22 ⟨rfl, hb⟩; refine ⟨_, rfl, ?_⟩; replace HO_755006 := rk HO_755006 hb; replace HO_755007 := rk HO_755007 hb; replace HO_755008 := rk HO_755008 hb; replace BK754 := kP _ BK754 hb; replace HB := kH HB hb; (try clear hb))
    (try (clear hzq_ BQ_; obtain ⟨hW_⟩ := hW_; subst hW_))
    go_ret
    exact ⟨xE, xB HB⟩
   replace c19 := Bool.eq_false_iff.mpr c19
   subst c19
   rw [if_neg (show ¬ (false = true) by decide)] at H
   replace H := Option.bind_eq_some_iff.mp H
   obtain ⟨⟨t758, t759, t760, t761, t762, t763, t764, t767, t770, t773⟩, A230, H⟩ := H
   have A23 := Aside0.mk A230
   clear A230
   go_upto_region 8 with ((with_reducible refine gg ?_); first | (refine gL 28 Tryz.func8 #[.string t755] ?_; (try (clear hzq_ BQ_; obtain ⟨hW_⟩ := hW_; subst hW_)); (with_reducible refine (impl_PaidGet.calls kj4 t755 t758 t759 t760 t761 t762 t763 t764 t767 t770 t773 _ A23.out (Aside0.mk (Sh.hasM_of PQM_ (xB HB))) (Aside0.mk (Sh.hasT_of PQT_ (xB HB)))).mono ?_); rintro e w29 ⟨v765, v768, v771, rfl, ho0, ho1, ho2, hb⟩; refine ⟨_, rfl, ?_⟩; have HO766 := am (Kd.R_lower (Kd.R_new' (Kd.R_new' ho0 (Kd.R_lt (ra HO_755006))) (Kd.R_lt (ra HO_755007))) (below_size (xB HB))); have HO769 := am (Kd.R_lower (Kd.R_new' (Kd.R_new' ho1 (Kd.R_lt (ra HO_755006))) (Kd.R_lt (ra HO_755007))) (below_size (xB HB))); replace HO_755006 := am (Kd.R_mono (Kd.R_told (Kd.R_told (Kd.R_old (ra HO_755006) hb) (Kd.R_base ho0)) (Kd.R_base ho1)) (fun _ h_ => h_.1)); replace HO_755007 := am (Kd.R_mono (Kd.R_told (Kd.R_told (Kd.R_old (ra HO_755007) hb) (Kd.R_base ho0)) (Kd.R_base ho1)) (fun _ h_ => h_.1)); have HO772 := am (Kd.R_lower (Kd.R_new' ho2 (Kd.R_lt (ra HO_755008))) (below_size (xB HB))); replace HO_755008 := am (Kd.R_elder' (ra HO_755008) (Kd.R_base ho2) hb); replace BK754 := kP _ BK754 hb; replace HB := kH HB hb; (try clear hb); (try clear ho0); (try clear ho1); (try clear ho2)) | (refine bE 5 #[.int .i64 0, .string (⟨#[]⟩ : ByteArray), .string (⟨#[]⟩ : ByteArray), .int .i64 0, .int .i64 0, .int .i64 0, .slice none 0 0, .slice none 0 0, .slice none 0 0] 30 ?_; (try (clear hzq_ BQ_; obtain ⟨hW_⟩ := hW_; subst hW_)); intro gb774 hg w30 hbox hb; replace HO_755006 := rk HO_755006 hb; replace HO_755007 := rk HO_755007 hb; replace HO_755008 := rk HO_755008 hb; replace HO766 := rk HO766 hb; replace HO769 := rk HO769 hb; replace HO772 := rk HO772 hb; have BK774 := am (hbox); have GW774 := zB hg HB; have GE774 := zB hg HB; replace HB := kH HB hb; have NB754_774 := nl hg (kb BK754); have NB774_754 := ng hg (kb BK754); replace BK754 := kP _ BK754 hb; clear hb hbox hg; have hnb31 := NB774_754.out; have hnc31 := NB754_774.out; have hz32 := bc9 BK774; obtain ⟨Ao33, co33, eo33⟩ := Kd.R_slice HO766.out; subst eo33; obtain ⟨Ao34, co34, eo34⟩ := Kd.R_slice HO769.out; subst eo34; obtain ⟨Ao35, co35, eo35⟩ := Kd.R_slice HO772.out; subst eo35) | (refine store_event (t := 30) (p := 5) (v := ?vo_) (w1 := ?wo_) ?hg ?ho ?hn ?hr ?_; (case ho => rfl); (case hg => rfl); (case hn => rfl); (case hr => go_simp; rfl); intro wq_ hW_; have BQ_ := am hW_; have hzq_ := am hW_; replace hW_ := am hW_))
   by_cases c24 : t773 = true
   rotate_left
   ·replace c24 := Bool.eq_false_iff.mpr c24
    subst c24
    try simp only [Bool.not_true, Bool.not_false]
    rw [if_neg (show ¬ (false = true) by decide)] at H
    obtain rfl := Option.some.inj H
    try go_wp2
    have n0_ : Aside0 (Kd.R k93 93 (((((((((w30.setCell ⟨gb774, 0, none⟩ (.int .i64 t758)).setCell ⟨gb774, 1, none⟩ (.string t759)).setCell ⟨gb774, 2, none⟩ (.string t760)).setCell ⟨gb774, 3, none⟩ (.int .i64 t761)).setCell ⟨gb774, 4, none⟩ (.int .i64 t762)).setCell ⟨gb774, 5, none⟩ (.int .i64 t763)).setCell ⟨gb774, 6, none⟩ (.slice Ao33 t764.length co33)).setCell ⟨gb774, 7, none⟩ (.slice Ao34 t767.length co34)).setCell ⟨gb774, 8, none⟩ (.slice Ao35 t770.length co35)) w.heap.size (fun k_ => some k_ ≠ (.slice Ao10 t748.length co10 : Value).ownBlock ∧ some k_ ≠ (.slice Ao33 t764.length co33 : Value).ownBlock ∧ some k_ ≠ (.slice Ao34 t767.length co34 : Value).ownBlock) (.slice Ao9 t745.length co9) t745) := ⟨rF HO_755006 BK774 (fun _ hk => ⟨hk.1.1, ⟨hk.1.2, hk.2⟩⟩)⟩
    have n1_ : Aside0 (Kd.R k93 93 (((((((((w30.setCell ⟨gb774, 0, none⟩ (.int .i64 t758)).setCell ⟨gb774, 1, none⟩ (.string t759)).setCell ⟨gb774, 2, none⟩ (.string t760)).setCell ⟨gb774, 3, none⟩ (.int .i64 t761)).setCell ⟨gb774, 4, none⟩ (.int .i64 t762)).setCell ⟨gb774, 5, none⟩ (.int .i64 t763)).setCell ⟨gb774, 6, none⟩ (.slice Ao33 t764.length co33)).setCell ⟨gb774, 7, none⟩ (.slice Ao34 t767.length co34)).setCell ⟨gb774, 8, none⟩ (.slice Ao35 t770.length co35)) w.heap.size (fun k_ => some k_ ≠ (.slice Ao9 t745.length co9 : Value).ownBlock ∧ some k_ ≠ (.slice Ao33 t764.length co33 : Value).ownBlock ∧ some k_ ≠ (.slice Ao34 t767.length co34 : Value).ownBlock) (.slice Ao10 t748.length co10) t748) := ⟨rF HO_755007 BK774 (fun _ hk => ⟨hk.1.1, ⟨hk.1.2, hk.2⟩⟩)⟩
    have n2_ : Aside0 (Kd.R k48 48 (((((((((w30.setCell ⟨gb774, 0, none⟩ (.int .i64 t758)).setCell ⟨gb774, 1, none⟩ (.string t759)).setCell ⟨gb774, 2, none⟩ (.string t760)).setCell ⟨gb774, 3, none⟩ (.int .i64 t761)).setCell ⟨gb774, 4, none⟩ (.int .i64 t762)).setCell ⟨gb774, 5, none⟩ (.int .i64 t763)).setCell ⟨gb774, 6, none⟩ (.slice Ao33 t764.length co33)).setCell ⟨gb774, 7, none⟩ (.slice Ao34 t767.length co34)).setCell ⟨gb774, 8, none⟩ (.slice Ao35 t770.length co35)) w.heap.size (fun k_ => some k_ ≠ (.slice Ao35 t770.length co35 : Value).ownBlock) (.slice Ao11 t751.length co11) t751) := ⟨rF HO_755008 BK774 (fun _ hk => hk.2)⟩
    have n3_ : Aside0 (Kd.R k93 93 (((((((((w30.setCell ⟨gb774, 0, none⟩ (.int .i64 t758)).setCell ⟨gb774, 1, none⟩ (.string t759)).setCell ⟨gb774, 2, none⟩ (.string t760)).setCell ⟨gb774, 3, none⟩ (.int .i64 t761)).setCell ⟨gb774, 4, none⟩ (.int .i64 t762)).setCell ⟨gb774, 5, none⟩ (.int .i64 t763)).setCell ⟨gb774, 6, none⟩ (.slice Ao33 t764.length co33)).setCell ⟨gb774, 7, none⟩ (.slice Ao34 t767.length co34)).setCell ⟨gb774, 8, none⟩ (.slice Ao35 t770.length co35)) w.heap.size (fun k_ => some k_ ≠ (.slice Ao9 t745.length co9 : Value).ownBlock ∧ some k_ ≠ (.slice Ao10 t748.length co10 : Value).ownBlock ∧ some k_ ≠ (.slice Ao34 t767.length co34 : Value).ownBlock) (.slice Ao33 t764.length co33) t764) := ⟨rF HO766 BK774 (fun _ hk => ⟨hk.1.2, ⟨hk.2, hk.1.1⟩⟩)⟩
    have n4_ : Aside0 (Kd.R k93 93 (((((((((w30.setCell ⟨gb774, 0, none⟩ (.int .i64 t758)).setCell ⟨gb774, 1, none⟩ (.string t759)).setCell ⟨gb774, 2, none⟩ (.string t760)).setCell ⟨gb774, 3, none⟩ (.int .i64 t761)).setCell ⟨gb774, 4, none⟩ (.int .i64 t762)).setCell ⟨gb774, 5, none⟩ (.int .i64 t763)).setCell ⟨gb774, 6, none⟩ (.slice Ao33 t764.length co33)).setCell ⟨gb774, 7, none⟩ (.slice Ao34 t767.length co34)).setCell ⟨gb774, 8, none⟩ (.slice Ao35 t770.length co35)) w.heap.size (fun k_ => some k_ ≠ (.slice Ao9 t745.length co9 : Value).ownBlock ∧ some k_ ≠ (.slice Ao10 t748.length co10 : Value).ownBlock ∧ some k_ ≠ (.slice Ao33 t764.length co33 : Value).ownBlock) (.slice Ao34 t767.length co34) t767) := ⟨rF HO769 BK774 (fun _ hk => ⟨hk.1.2, ⟨hk.2, hk.1.1⟩⟩)⟩
    have n5_ : Aside0 (Kd.R k48 48 (((((((((w30.setCell ⟨gb774, 0, none⟩ (.int .i64 t758)).setCell ⟨gb774, 1, none⟩ (.string t759)).setCell ⟨gb774, 2, none⟩ (.string t760)).setCell ⟨gb774, 3, none⟩ (.int .i64 t761)).setCell ⟨gb774, 4, none⟩ (.int .i64 t762)).setCell ⟨gb774, 5, none⟩ (.int .i64 t763)).setCell ⟨gb774, 6, none⟩ (.slice Ao33 t764.length co33)).setCell ⟨gb774, 7, none⟩ (.slice Ao34 t767.length co34)).setCell ⟨gb774, 8, none⟩ (.slice Ao35 t770.length co35)) w.heap.size (fun k_ => some k_ ≠ (.slice Ao11 t751.length co11 : Value).ownBlock) (.slice Ao35 t770.length co35) t770) := ⟨rF HO772 BK774 (fun _ hk => hk.2)⟩
    have n6_ : Aside0 ((((((((((w30.setCell ⟨gb774, 0, none⟩ (.int .i64 t758)).setCell ⟨gb774, 1, none⟩ (.string t759)).setCell ⟨gb774, 2, none⟩ (.string t760)).setCell ⟨gb774, 3, none⟩ (.int .i64 t761)).setCell ⟨gb774, 4, none⟩ (.int .i64 t762)).setCell ⟨gb774, 5, none⟩ (.int .i64 t763)).setCell ⟨gb774, 6, none⟩ (.slice Ao33 t764.length co33)).setCell ⟨gb774, 7, none⟩ (.slice Ao34 t767.length co34)).setCell ⟨gb774, 8, none⟩ (.slice Ao35 t770.length co35)).heap[gb754]? = some (.cells #[.int .i64 t739, .string t740, .string t741, .int .i64 t742, .int .i64 t743, .int .i64 t744, .slice Ao9 t745.length co9, .slice Ao10 t748.length co10, .slice Ao11 t751.length co11] 30 (0, 0))) := ⟨fb BK754⟩
    have n7_ : Aside0 ((((((((((w30.setCell ⟨gb774, 0, none⟩ (.int .i64 t758)).setCell ⟨gb774, 1, none⟩ (.string t759)).setCell ⟨gb774, 2, none⟩ (.string t760)).setCell ⟨gb774, 3, none⟩ (.int .i64 t761)).setCell ⟨gb774, 4, none⟩ (.int .i64 t762)).setCell ⟨gb774, 5, none⟩ (.int .i64 t763)).setCell ⟨gb774, 6, none⟩ (.slice Ao33 t764.length co33)).setCell ⟨gb774, 7, none⟩ (.slice Ao34 t767.length co34)).setCell ⟨gb774, 8, none⟩ (.slice Ao35 t770.length co35)).heap[gb774]? = some (.cells #[.int .i64 t758, .string t759, .string t760, .int .i64 t761, .int .i64 t762, .int .i64 t763, .slice Ao33 t764.length co33, .slice Ao34 t767.length co34, .slice Ao35 t770.length co35] 30 (0, 0))) := ⟨fb BK774⟩
    have n8_ : Aside0 (Below w.heap.size w (((((((((w30.setCell ⟨gb774, 0, none⟩ (.int .i64 t758)).setCell ⟨gb774, 1, none⟩ (.string t759)).setCell ⟨gb774, 2, none⟩ (.string t760)).setCell ⟨gb774, 3, none⟩ (.int .i64 t761)).setCell ⟨gb774, 4, none⟩ (.int .i64 t762)).setCell ⟨gb774, 5, none⟩ (.int .i64 t763)).setCell ⟨gb774, 6, none⟩ (.slice Ao33 t764.length co33)).setCell ⟨gb774, 7, none⟩ (.slice Ao34 t767.length co34)).setCell ⟨gb774, 8, none⟩ (.slice Ao35 t770.length co35))) := ⟨xB HB⟩
    (try clear HO_755006)
    (try clear HO_755007)
    (try clear HO_755008)
    (try clear HO766)
    (try clear HO769)
    (try clear HO772)
    (try clear BK754)
    (try clear BK774)
    (try clear HB)
    generalize (((((((((w30.setCell ⟨gb774, 0, none⟩ (.int .i64 t758)).setCell ⟨gb774, 1, none⟩ (.string t759)).setCell ⟨gb774, 2, none⟩ (.string t760)).setCell ⟨gb774, 3, none⟩ (.int .i64 t761)).setCell ⟨gb774, 4, none⟩ (.int .i64 t762)).setCell ⟨gb774, 5, none⟩ (.int .i64 t763)).setCell ⟨gb774, 6, none⟩ (.slice Ao33 t764.length co33)).setCell ⟨gb774, 7, none⟩ (.slice Ao34 t767.length co34)).setCell ⟨gb774, 8, none⟩ (.slice Ao35 t770.length co35)) = w58 at n0_ n1_ n2_ n3_ n4_ n5_ n6_ n7_ n8_ ⊢
    have HO_755006 := n0_
    have HO_755007 := n1_
    have HO_755008 := n2_
    have HO766 := n3_
    have HO769 := n4_
    have HO772 := n5_
    have BK754 := n6_
    have BK774 := n7_
    have HB := n8_
    clear n0_ n1_ n2_ n3_ n4_ n5_ n6_ n7_ n8_
    replace HO_755006 := am (Kd.R_drew HO_755006.out)
    replace HO_755007 := am (Kd.R_drew HO_755007.out)
    replace HO_755008 := am (Kd.R_drew HO_755008.out)
    replace HO766 := am (Kd.R_drew HO766.out)
    replace HO769 := am (Kd.R_drew HO769.out)
    replace HO772 := am (Kd.R_drew HO772.out)
    replace BK754 := am (blk_drew BK754.out)
    replace BK774 := am (blk_drew BK774.out)
    replace HB := am (below_drew1 HB.out)
    (try (clear hzq_ BQ_; obtain ⟨hW_⟩ := hW_; subst hW_))
    refine start_ (n := 14) (S := fun w' => True) (ds := []) (bm 14 0) (by kernel_rfl) rfl rfl trivial (fun hHeld => ?_); refine with_tabW laws_FnPaidPut.tab8 laws_FnPaidPut.bits8 (fun HT_ HW_ => ?_)
    generalize w58.drew = w59 at HO_755006 HO_755007 HO_755008 HO766 HO769 HO772 BK754 BK774 HB hHeld ⊢
    refine pA 0 31 (bm 14 1) HT_ ?_
    refine pA 1 32 (bm 14 3) HT_ ?_
    refine pU 2 33 (bm 14 7) HT_ ?_
    refine pU 3 34 (bm 14 15) HT_ ?_
    refine pU 4 35 (bm 14 31) HT_ ?_
    refine pA 5 36 (bm 14 63) HT_ ?_
    refine pA 6 37 (bm 14 127) HT_ ?_
    refine pU 7 38 (bm 14 255) HT_ ?_
    refine pU 8 39 (bm 14 511) HT_ ?_
    refine pU 9 40 (bm 14 1023) HT_ ?_
    refine pU 10 41 (bm 14 2047) HT_ ?_
    refine pU 11 42 (bm 14 4095) HT_ ?_
    refine pA 12 43 (bm 14 8191) HT_ ?_
    refine pA 13 2 (bm 14 16383) HT_ ?_
    refine done_ (done_of HT_.out (by kernel_rfl)) ?_
    try go_wp2
    (try (clear hzq_ BQ_; obtain ⟨hW_⟩ := hW_; subst hW_))
    go_ret
    exact ⟨xE, xB HB⟩
   subst c24
   try simp only [Bool.not_true, Bool.not_false]
   rw [if_pos rfl] at H
   replace H := oa H
   obtain ⟨t775, A25, H⟩ := H
   try go_wp2
   have n0_ : Aside0 (Kd.R k93 93 (((((((((w30.setCell ⟨gb774, 0, none⟩ (.int .i64 t758)).setCell ⟨gb774, 1, none⟩ (.string t759)).setCell ⟨gb774, 2, none⟩ (.string t760)).setCell ⟨gb774, 3, none⟩ (.int .i64 t761)).setCell ⟨gb774, 4, none⟩ (.int .i64 t762)).setCell ⟨gb774, 5, none⟩ (.int .i64 t763)).setCell ⟨gb774, 6, none⟩ (.slice Ao33 t764.length co33)).setCell ⟨gb774, 7, none⟩ (.slice Ao34 t767.length co34)).setCell ⟨gb774, 8, none⟩ (.slice Ao35 t770.length co35)) w.heap.size (fun k_ => some k_ ≠ (.slice Ao10 t748.length co10 : Value).ownBlock ∧ some k_ ≠ (.slice Ao33 t764.length co33 : Value).ownBlock ∧ some k_ ≠ (.slice Ao34 t767.length co34 : Value).ownBlock) (.slice Ao9 t745.length co9) t745) := ⟨rF HO_755006 BK774 (fun _ hk => ⟨hk.1.1, ⟨hk.1.2, hk.2⟩⟩)⟩
   have n1_ : Aside0 (Kd.R k93 93 (((((((((w30.setCell ⟨gb774, 0, none⟩ (.int .i64 t758)).setCell ⟨gb774, 1, none⟩ (.string t759)).setCell ⟨gb774, 2, none⟩ (.string t760)).setCell ⟨gb774, 3, none⟩ (.int .i64 t761)).setCell ⟨gb774, 4, none⟩ (.int .i64 t762)).setCell ⟨gb774, 5, none⟩ (.int .i64 t763)).setCell ⟨gb774, 6, none⟩ (.slice Ao33 t764.length co33)).setCell ⟨gb774, 7, none⟩ (.slice Ao34 t767.length co34)).setCell ⟨gb774, 8, none⟩ (.slice Ao35 t770.length co35)) w.heap.size (fun k_ => some k_ ≠ (.slice Ao9 t745.length co9 : Value).ownBlock ∧ some k_ ≠ (.slice Ao33 t764.length co33 : Value).ownBlock ∧ some k_ ≠ (.slice Ao34 t767.length co34 : Value).ownBlock) (.slice Ao10 t748.length co10) t748) := ⟨rF HO_755007 BK774 (fun _ hk => ⟨hk.1.1, ⟨hk.1.2, hk.2⟩⟩)⟩
   have n2_ : Aside0 (Kd.R k48 48 (((((((((w30.setCell ⟨gb774, 0, none⟩ (.int .i64 t758)).setCell ⟨gb774, 1, none⟩ (.string t759)).setCell ⟨gb774, 2, none⟩ (.string t760)).setCell ⟨gb774, 3, none⟩ (.int .i64 t761)).setCell ⟨gb774, 4, none⟩ (.int .i64 t762)).setCell ⟨gb774, 5, none⟩ (.int .i64 t763)).setCell ⟨gb774, 6, none⟩ (.slice Ao33 t764.length co33)).setCell ⟨gb774, 7, none⟩ (.slice Ao34 t767.length co34)).setCell ⟨gb774, 8, none⟩ (.slice Ao35 t770.length co35)) w.heap.size (fun k_ => some k_ ≠ (.slice Ao35 t770.length co35 : Value).ownBlock) (.slice Ao11 t751.length co11) t751) := ⟨rF HO_755008 BK774 (fun _ hk => hk.2)⟩
   have n3_ : Aside0 (Kd.R k93 93 (((((((((w30.setCell ⟨gb774, 0, none⟩ (.int .i64 t758)).setCell ⟨gb774, 1, none⟩ (.string t759)).setCell ⟨gb774, 2, none⟩ (.string t760)).setCell ⟨gb774, 3, none⟩ (.int .i64 t761)).setCell ⟨gb774, 4, none⟩ (.int .i64 t762)).setCell ⟨gb774, 5, none⟩ (.int .i64 t763)).setCell ⟨gb774, 6, none⟩ (.slice Ao33 t764.length co33)).setCell ⟨gb774, 7, none⟩ (.slice Ao34 t767.length co34)).setCell ⟨gb774, 8, none⟩ (.slice Ao35 t770.length co35)) w.heap.size (fun k_ => some k_ ≠ (.slice Ao9 t745.length co9 : Value).ownBlock ∧ some k_ ≠ (.slice Ao10 t748.length co10 : Value).ownBlock ∧ some k_ ≠ (.slice Ao34 t767.length co34 : Value).ownBlock) (.slice Ao33 t764.length co33) t764) := ⟨rF HO766 BK774 (fun _ hk => ⟨hk.1.2, ⟨hk.2, hk.1.1⟩⟩)⟩
   have n4_ : Aside0 (Kd.R k93 93 (((((((((w30.setCell ⟨gb774, 0, none⟩ (.int .i64 t758)).setCell ⟨gb774, 1, none⟩ (.string t759)).setCell ⟨gb774, 2, none⟩ (.string t760)).setCell ⟨gb774, 3, none⟩ (.int .i64 t761)).setCell ⟨gb774, 4, none⟩ (.int .i64 t762)).setCell ⟨gb774, 5, none⟩ (.int .i64 t763)).setCell ⟨gb774, 6, none⟩ (.slice Ao33 t764.length co33)).setCell ⟨gb774, 7, none⟩ (.slice Ao34 t767.length co34)).setCell ⟨gb774, 8, none⟩ (.slice Ao35 t770.length co35)) w.heap.size (fun k_ => some k_ ≠ (.slice Ao9 t745.length co9 : Value).ownBlock ∧ some k_ ≠ (.slice Ao10 t748.length co10 : Value).ownBlock ∧ some k_ ≠ (.slice Ao33 t764.length co33 : Value).ownBlock) (.slice Ao34 t767.length co34) t767) := ⟨rF HO769 BK774 (fun _ hk => ⟨hk.1.2, ⟨hk.2, hk.1.1⟩⟩)⟩
   have n5_ : Aside0 (Kd.R k48 48 (((((((((w30.setCell ⟨gb774, 0, none⟩ (.int .i64 t758)).setCell ⟨gb774, 1, none⟩ (.string t759)).setCell ⟨gb774, 2, none⟩ (.string t760)).setCell ⟨gb774, 3, none⟩ (.int .i64 t761)).setCell ⟨gb774, 4, none⟩ (.int .i64 t762)).setCell ⟨gb774, 5, none⟩ (.int .i64 t763)).setCell ⟨gb774, 6, none⟩ (.slice Ao33 t764.length co33)).setCell ⟨gb774, 7, none⟩ (.slice Ao34 t767.length co34)).setCell ⟨gb774, 8, none⟩ (.slice Ao35 t770.length co35)) w.heap.size (fun k_ => some k_ ≠ (.slice Ao11 t751.length co11 : Value).ownBlock) (.slice Ao35 t770.length co35) t770) := ⟨rF HO772 BK774 (fun _ hk => hk.2)⟩
   have n6_ : Aside0 ((((((((((w30.setCell ⟨gb774, 0, none⟩ (.int .i64 t758)).setCell ⟨gb774, 1, none⟩ (.string t759)).setCell ⟨gb774, 2, none⟩ (.string t760)).setCell ⟨gb774, 3, none⟩ (.int .i64 t761)).setCell ⟨gb774, 4, none⟩ (.int .i64 t762)).setCell ⟨gb774, 5, none⟩ (.int .i64 t763)).setCell ⟨gb774, 6, none⟩ (.slice Ao33 t764.length co33)).setCell ⟨gb774, 7, none⟩ (.slice Ao34 t767.length co34)).setCell ⟨gb774, 8, none⟩ (.slice Ao35 t770.length co35)).heap[gb754]? = some (.cells #[.int .i64 t739, .string t740, .string t741, .int .i64 t742, .int .i64 t743, .int .i64 t744, .slice Ao9 t745.length co9, .slice Ao10 t748.length co10, .slice Ao11 t751.length co11] 30 (0, 0))) := ⟨fb BK754⟩
   have n7_ : Aside0 ((((((((((w30.setCell ⟨gb774, 0, none⟩ (.int .i64 t758)).setCell ⟨gb774, 1, none⟩ (.string t759)).setCell ⟨gb774, 2, none⟩ (.string t760)).setCell ⟨gb774, 3, none⟩ (.int .i64 t761)).setCell ⟨gb774, 4, none⟩ (.int .i64 t762)).setCell ⟨gb774, 5, none⟩ (.int .i64 t763)).setCell ⟨gb774, 6, none⟩ (.slice Ao33 t764.length co33)).setCell ⟨gb774, 7, none⟩ (.slice Ao34 t767.length co34)).setCell ⟨gb774, 8, none⟩ (.slice Ao35 t770.length co35)).heap[gb774]? = some (.cells #[.int .i64 t758, .string t759, .string t760, .int .i64 t761, .int .i64 t762, .int .i64 t763, .slice Ao33 t764.length co33, .slice Ao34 t767.length co34, .slice Ao35 t770.length co35] 30 (0, 0))) := ⟨fb BK774⟩
   have n8_ : Aside0 (Below w.heap.size w (((((((((w30.setCell ⟨gb774, 0, none⟩ (.int .i64 t758)).setCell ⟨gb774, 1, none⟩ (.string t759)).setCell ⟨gb774, 2, none⟩ (.string t760)).setCell ⟨gb774, 3, none⟩ (.int .i64 t761)).setCell ⟨gb774, 4, none⟩ (.int .i64 t762)).setCell ⟨gb774, 5, none⟩ (.int .i64 t763)).setCell ⟨gb774, 6, none⟩ (.slice Ao33 t764.length co33)).setCell ⟨gb774, 7, none⟩ (.slice Ao34 t767.length co34)).setCell ⟨gb774, 8, none⟩ (.slice Ao35 t770.length co35))) := ⟨xB HB⟩
   (try clear HO_755006)
   (try clear HO_755007)
   (try clear HO_755008)
   (try clear HO766)
   (try clear HO769)
   (try clear HO772)
   (try clear BK754)
   (try clear BK774)
   (try clear HB)
   generalize (((((((((w30.setCell ⟨gb774, 0, none⟩ (.int .i64 t758)).setCell ⟨gb774, 1, none⟩ (.string t759)).setCell ⟨gb774, 2, none⟩ (.string t760)).setCell ⟨gb774, 3, none⟩ (.int .i64 t761)).setCell ⟨gb774, 4, none⟩ (.int .i64 t762)).setCell ⟨gb774, 5, none⟩ (.int .i64 t763)).setCell ⟨gb774, 6, none⟩ (.slice Ao33 t764.length co33)).setCell ⟨gb774, 7, none⟩ (.slice Ao34 t767.length co34)).setCell ⟨gb774, 8, none⟩ (.slice Ao35 t770.length co35)) = w36 at n0_ n1_ n2_ n3_ n4_ n5_ n6_ n7_ n8_ ⊢
   have HO_755006 := n0_
   have HO_755007 := n1_
   have HO_755008 := n2_
   have HO766 := n3_
   have HO769 := n4_
   have HO772 := n5_
   have BK754 := n6_
   have BK774 := n7_
   have HB := n8_
   clear n0_ n1_ n2_ n3_ n4_ n5_ n6_ n7_ n8_
   replace HO_755006 := am (Kd.R_drew HO_755006.out)
   replace HO_755007 := am (Kd.R_drew HO_755007.out)
   replace HO_755008 := am (Kd.R_drew HO_755008.out)
   replace HO766 := am (Kd.R_drew HO766.out)
   replace HO769 := am (Kd.R_drew HO769.out)
   replace HO772 := am (Kd.R_drew HO772.out)
   replace BK754 := am (blk_drew BK754.out)
   replace BK774 := am (blk_drew BK774.out)
   replace HB := am (below_drew1 HB.out)
   (try (clear hzq_ BQ_; obtain ⟨hW_⟩ := hW_; subst hW_))
   refine start_ (n := 14) (S := fun w' => w'.cell? ⟨gb774, 0, none⟩ = some (.int .i64 t758) ∧ w'.cell? ⟨gb774, 1, none⟩ = some (.string t759) ∧ w'.cell? ⟨gb774, 2, none⟩ = some (.string t760) ∧ w'.cell? ⟨gb774, 3, none⟩ = some (.int .i64 t761) ∧ w'.cell? ⟨gb774, 4, none⟩ = some (.int .i64 t762) ∧ w'.cell? ⟨gb774, 5, none⟩ = some (.int .i64 t763) ∧ w'.cell? ⟨gb774, 6, none⟩ = some (.slice Ao33 t764.length co33) ∧ w'.cell? ⟨gb774, 7, none⟩ = some (.slice Ao34 t767.length co34) ∧ w'.cell? ⟨gb774, 8, none⟩ = some (.slice Ao35 t770.length co35) ∧ cs9 gb754 (.int .i64 t739) (.string t740) (.string t741) (.int .i64 t742) (.int .i64 t743) (.int .i64 t744) (.slice Ao9 t745.length co9) (.slice Ao10 t748.length co10) (.slice Ao11 t751.length co11) w') (ds := []) (bm 14 0) (by kernel_rfl) rfl rfl ⟨(blk_cell BK774.out 0).trans rfl, (blk_cell BK774.out 1).trans rfl, (blk_cell BK774.out 2).trans rfl, (blk_cell BK774.out 3).trans rfl, (blk_cell BK774.out 4).trans rfl, (blk_cell BK774.out 5).trans rfl, (blk_cell BK774.out 6).trans rfl, (blk_cell BK774.out 7).trans rfl, (blk_cell BK774.out 8).trans rfl, (blk_cell BK754.out 0).trans rfl, (blk_cell BK754.out 1).trans rfl, (blk_cell BK754.out 2).trans rfl, (blk_cell BK754.out 3).trans rfl, (blk_cell BK754.out 4).trans rfl, (blk_cell BK754.out 5).trans rfl, (blk_cell BK754.out 6).trans rfl, (blk_cell BK754.out 7).trans rfl, (blk_cell BK754.out 8).trans rfl⟩ (fun hHeld => ?_); refine with_tabW laws_FnPaidPut.tab8 laws_FnPaidPut.bits8 (fun HT_ HW_ => ?_)
   generalize w36.drew = w37 at HO_755006 HO_755007 HO_755008 HO766 HO769 HO772 BK754 BK774 HB hHeld ⊢
   refine pA 0 31 (bm 14 1) HT_ ?_
   refine pA 1 32 (bm 14 3) HT_ ?_
   refine tA 2 33 (bm 14 7) HT_ HW_ hHeld ?_
   refine tA 3 34 (bm 14 15) HT_ HW_ hHeld ?_
   refine oA 4 (some 35) (bm 14 31) HT_ fun K hK => ?_
   refine gA Tryz.func9 #[.agg #[.int .i64 t758, .string t759, .string t760, .int .i64 t761, .int .i64 t762, .int .i64 t763, .slice Ao33 t764.length co33, .slice Ao34 t767.length co34, .slice Ao35 t770.length co35], .agg #[.int .i64 t739, .string t740, .string t741, .int .i64 t742, .int .i64 t743, .int .i64 t744, .slice Ao9 t745.length co9, .slice Ao10 t748.length co10, .slice Ao11 t751.length co11]] ?_
   by_cases c26 : t775 = true
   rotate_left
   ·replace c26 := Bool.eq_false_iff.mpr c26
    subst c26
    rw [if_neg (show ¬ (false = true) by decide)] at H
    obtain rfl := Option.some.inj H
    with_reducible refine (laws_coPaid.calls kj4 t758 t759 t760 t761 t762 t763 _ _ t764 _ _ t767 _ _ t770 t739 t740 t741 t742 t743 t744 _ _ t745 _ _ t748 _ _ t751 false _ ?side1 ?side2 ?side3 ?side4 ?side5 ?side6 ?side7 ?side8 ?side9 ?side10 ?side11 ?side12 A25.out).mono ?_
    (case side1 => exact cr (Kd.R_reads' HO766.out).2.2)
    (case side2 => exact sl HO766)
    (case side3 => exact cr (Kd.R_reads' HO769.out).2.2)
    (case side4 => exact sl HO769)
    (case side5 => exact cr (Kd.R_reads' HO772.out).2.2)
    (case side6 => exact sl HO772)
    (case side7 => exact cr (Kd.R_reads' HO_755006.out).2.2)
    (case side8 => exact sl HO_755006)
    (case side9 => exact cr (Kd.R_reads' HO_755007.out).2.2)
    (case side10 => exact sl HO_755007)
    (case side11 => exact cr (Kd.R_reads' HO_755008.out).2.2)
    (case side12 => exact sl HO_755008)
    rintro e w50 ⟨rfl, hb⟩
    refine ⟨_, rfl, ?_⟩
    replace HO_755006 := rk HO_755006 hb
    replace HO_755007 := rk HO_755007 hb
    replace HO_755008 := rk HO_755008 hb
    replace HO766 := rk HO766 hb
    replace HO769 := rk HO769 hb
    replace HO772 := rk HO772 hb
    replace BK754 := kP _ BK754 hb
    replace BK774 := kP _ BK774 hb
    replace HB := kH HB hb
    (try clear hb)
    (try clear hb2)
    (try clear hk)
    (try clear hi)
    refine hK.out _ _ ⟨(blk_cell BK774.out 0).trans rfl, (blk_cell BK774.out 1).trans rfl, (blk_cell BK774.out 2).trans rfl, (blk_cell BK774.out 3).trans rfl, (blk_cell BK774.out 4).trans rfl, (blk_cell BK774.out 5).trans rfl, (blk_cell BK774.out 6).trans rfl, (blk_cell BK774.out 7).trans rfl, (blk_cell BK774.out 8).trans rfl, (blk_cell BK754.out 0).trans rfl, (blk_cell BK754.out 1).trans rfl, (blk_cell BK754.out 2).trans rfl, (blk_cell BK754.out 3).trans rfl, (blk_cell BK754.out 4).trans rfl, (blk_cell BK754.out 5).trans rfl, (blk_cell BK754.out 6).trans rfl, (blk_cell BK754.out 7).trans rfl, (blk_cell BK754.out 8).trans rfl⟩ (fun hHeld => ?_)
    clear hK K
    refine nA (some 35) ?_
    refine pA 5 36 (bm 14 63) HT_ ?_
    refine pA 6 37 (bm 14 127) HT_ ?_
    refine pU 7 38 (bm 14 255) HT_ ?_
    refine pU 8 39 (bm 14 511) HT_ ?_
    refine pU 9 40 (bm 14 1023) HT_ ?_
    refine pU 10 41 (bm 14 2047) HT_ ?_
    refine pU 11 42 (bm 14 4095) HT_ ?_
    refine pA 12 43 (bm 14 8191) HT_ ?_
    refine pA 13 2 (bm 14 16383) HT_ ?_
    refine done_ (done_of HT_.out (by kernel_rfl)) ?_
    try go_wp2
    (try (clear hzq_ BQ_; obtain ⟨hW_⟩ := hW_; subst hW_))
    go_ret
    exact ⟨xE, xB HB⟩
   subst c26
   rw [if_pos rfl] at H
   replace H := oa H
   obtain ⟨t776, A27, H⟩ := H
   replace H := oa H
   obtain ⟨t777, A28, H⟩ := H
   obtain rfl := Option.some.inj H
   with_reducible refine (laws_coPaid.calls kj4 t758 t759 t760 t761 t762 t763 _ _ t764 _ _ t767 _ _ t770 t739 t740 t741 t742 t743 t744 _ _ t745 _ _ t748 _ _ t751 true _ ?side1 ?side2 ?side3 ?side4 ?side5 ?side6 ?side7 ?side8 ?side9 ?side10 ?side11 ?side12 A25.out).mono ?_
   (case side1 => exact cr (Kd.R_reads' HO766.out).2.2)
   (case side2 => exact sl HO766)
   (case side3 => exact cr (Kd.R_reads' HO769.out).2.2)
   (case side4 => exact sl HO769)
   (case side5 => exact cr (Kd.R_reads' HO772.out).2.2)
   (case side6 => exact sl HO772)
   (case side7 => exact cr (Kd.R_reads' HO_755006.out).2.2)
   (case side8 => exact sl HO_755006)
   (case side9 => exact cr (Kd.R_reads' HO_755007.out).2.2)
   (case side10 => exact sl HO_755007)
   (case side11 => exact cr (Kd.R_reads' HO_755008.out).2.2)
   (case side12 => exact sl HO_755008)
   rintro e w38 ⟨rfl, hb⟩
   refine ⟨_, rfl, ?_⟩
   replace HO_755006 := rk HO_755006 hb
   replace HO_755007 := rk HO_755007 hb
   replace HO_755008 := rk HO_755008 hb
   replace HO766 := rk HO766 hb
   replace HO769 := rk HO769 hb
   replace HO772 := rk HO772 hb
   replace BK754 := kP _ BK754 hb
   replace BK774 := kP _ BK774 hb
   replace HB := kH HB hb
   (try clear hb)
   (try clear hb2)
   (try clear hk)
   (try clear hi)
   refine hK.out _ _ ⟨(blk_cell BK774.out 0).trans rfl, (blk_cell BK774.out 1).trans rfl, (blk_cell BK774.out 2).trans rfl, (blk_cell BK774.out 3).trans rfl, (blk_cell BK774.out 4).trans rfl, (blk_cell BK774.out 5).trans rfl, (blk_cell BK774.out 6).trans rfl, (blk_cell BK774.out 7).trans rfl, (blk_cell BK774.out 8).trans rfl, (blk_cell BK754.out 0).trans rfl, (blk_cell BK754.out 1).trans rfl, (blk_cell BK754.out 2).trans rfl, (blk_cell BK754.out 3).trans rfl, (blk_cell BK754.out 4).trans rfl, (blk_cell BK754.out 5).trans rfl, (blk_cell BK754.out 6).trans rfl, (blk_cell BK754.out 7).trans rfl, (blk_cell BK754.out 8).trans rfl⟩ (fun hHeld => ?_)
   clear hK K
   refine nA (some 35) ?_
   refine pA 5 36 (bm 14 63) HT_ ?_
   refine pA 6 37 (bm 14 127) HT_ ?_
   refine tA 7 38 (bm 14 255) HT_ HW_ hHeld ?_
   refine tA 9 40 (bm 14 767) HT_ HW_ hHeld ?_
   refine oA 8 (some 39) (bm 14 1023) HT_ fun K hK => ?_
   refine gA Tryz.func10 #[.agg #[.int .i64 t758, .string t759, .string t760, .int .i64 t761, .int .i64 t762, .int .i64 t763, .slice Ao33 t764.length co33, .slice Ao34 t767.length co34, .slice Ao35 t770.length co35]] ?_
   with_reducible refine (impl_PaidDeep.calls kj4 t758 t759 t760 t761 t762 t763 _ _ t764 _ _ t767 _ _ t770 t776 _ ?side1 ?side2 ?side3 ?side4 ?side5 ?side6 A27.out).mono ?_
   (case side1 => exact cr (Kd.R_reads' HO766.out).2.2)
   (case side2 => exact sl HO766)
   (case side3 => exact cr (Kd.R_reads' HO769.out).2.2)
   (case side4 => exact sl HO769)
   (case side5 => exact cr (Kd.R_reads' HO772.out).2.2)
   (case side6 => exact sl HO772)
   rintro e w39 ⟨rfl, hb⟩
   refine ⟨_, rfl, ?_⟩
   replace HO_755006 := rk HO_755006 hb
   replace HO_755007 := rk HO_755007 hb
   replace HO_755008 := rk HO_755008 hb
   replace HO766 := rk HO766 hb
   replace HO769 := rk HO769 hb
   replace HO772 := rk HO772 hb
   replace BK754 := kP _ BK754 hb
   replace BK774 := kP _ BK774 hb
   replace HB := kH HB hb
   (try clear hb)
   (try clear hb2)
   (try clear hk)
   (try clear hi)
   refine hK.out _ _ ⟨(blk_cell BK774.out 0).trans rfl, (blk_cell BK774.out 1).trans rfl, (blk_cell BK774.out 2).trans rfl, (blk_cell BK774.out 3).trans rfl, (blk_cell BK774.out 4).trans rfl, (blk_cell BK774.out 5).trans rfl, (blk_cell BK774.out 6).trans rfl, (blk_cell BK774.out 7).trans rfl, (blk_cell BK774.out 8).trans rfl, (blk_cell BK754.out 0).trans rfl, (blk_cell BK754.out 1).trans rfl, (blk_cell BK754.out 2).trans rfl, (blk_cell BK754.out 3).trans rfl, (blk_cell BK754.out 4).trans rfl, (blk_cell BK754.out 5).trans rfl, (blk_cell BK754.out 6).trans rfl, (blk_cell BK754.out 7).trans rfl, (blk_cell BK754.out 8).trans rfl⟩ (fun hHeld => ?_)
   clear hK K
   refine nA (some 39) ?_
   refine oA 10 (some 41) (bm 14 2047) HT_ fun K hK => ?_
   refine gA Tryz.func10 #[.agg #[.int .i64 t739, .string t740, .string t741, .int .i64 t742, .int .i64 t743, .int .i64 t744, .slice Ao9 t745.length co9, .slice Ao10 t748.length co10, .slice Ao11 t751.length co11]] ?_
   with_reducible refine (impl_PaidDeep.calls kj4 t739 t740 t741 t742 t743 t744 _ _ t745 _ _ t748 _ _ t751 t777 _ ?side1 ?side2 ?side3 ?side4 ?side5 ?side6 A28.out).mono ?_
   (case side1 => exact cr (Kd.R_reads' HO_755006.out).2.2)
   (case side2 => exact sl HO_755006)
   (case side3 => exact cr (Kd.R_reads' HO_755007.out).2.2)
   (case side4 => exact sl HO_755007)
   (case side5 => exact cr (Kd.R_reads' HO_755008.out).2.2)
   (case side6 => exact sl HO_755008)
   rintro e w40 ⟨rfl, hb⟩
   refine ⟨_, rfl, ?_⟩
   replace HO_755006 := rk HO_755006 hb
   replace HO_755007 := rk HO_755007 hb
   replace HO_755008 := rk HO_755008 hb
   replace HO766 := rk HO766 hb
   replace HO769 := rk HO769 hb
   replace HO772 := rk HO772 hb
   replace BK754 := kP _ BK754 hb
   replace BK774 := kP _ BK774 hb
   replace HB := kH HB hb
   (try clear hb)
   (try clear hb2)
   (try clear hk)
   (try clear hi)
   refine hK.out _ _ ⟨(blk_cell BK774.out 0).trans rfl, (blk_cell BK774.out 1).trans rfl, (blk_cell BK774.out 2).trans rfl, (blk_cell BK774.out 3).trans rfl, (blk_cell BK774.out 4).trans rfl, (blk_cell BK774.out 5).trans rfl, (blk_cell BK774.out 6).trans rfl, (blk_cell BK774.out 7).trans rfl, (blk_cell BK774.out 8).trans rfl, (blk_cell BK754.out 0).trans rfl, (blk_cell BK754.out 1).trans rfl, (blk_cell BK754.out 2).trans rfl, (blk_cell BK754.out 3).trans rfl, (blk_cell BK754.out 4).trans rfl, (blk_cell BK754.out 5).trans rfl, (blk_cell BK754.out 6).trans rfl, (blk_cell BK754.out 7).trans rfl, (blk_cell BK754.out 8).trans rfl⟩ (fun hHeld => ?_)
   clear hK K
   refine nA (some 41) ?_
   refine pA 11 42 (bm 14 4095) HT_ ?_
   refine pA 12 43 (bm 14 8191) HT_ ?_
   refine pA 13 2 (bm 14 16383) HT_ ?_
   refine done_ (done_of HT_.out (by kernel_rfl)) ?_
   try go_wp2
   (try (clear hzq_ BQ_; obtain ⟨hW_⟩ := hW_; subst hW_))
   go_ret
   exact ⟨xE, xB HB⟩
/-- THE ONE PURE STATEMENT of laws_FnPaidPut: yours. -/
def laws_FnPaidPut.Pure : Prop := ∀ (l0 : List Int), l0.length ≤ maxLen → l0.length * 1 ≤ 140737488351232 → (∀ x ∈ l0, (Lit.int .u8 x).wf = true) → ∃ k, laws_FnPaidPut.f k l0 = some true
theorem laws_FnPaidPut.walk (P : laws_FnPaidPut.Pure) (a0 : Option Addr) (len0 cap0 : Nat) (z0 : List Int) (w : World) (w0 : (a0 = none ∧ len0 = 0 ∧ cap0 = 0 ∧ z0 = []) ∨ ∃ x, a0 = some x ∧ len0 ≤ cap0 ∧ cap0 ≤ maxLen ∧ z0.length = cap0 ∧ (∀ i, i < z0.length → w.cell? (x.add i) = some (.int .u8 (z0.getD i 0))) ∧ ∀ n ∈ z0, (Lit.int .u8 n).wf = true) (y0 : len0 * 1 ≤ 140737488351232) (PQM_ : Aside0 (Sh.HasM w)) (PQT_ : Aside0 (Sh.HasT w)) :
  Calls Tryz.prog 3 #[.slice a0 len0 cap0] w fun e w' => e = .returned (.bool true) ∧ Below w.heap.size w w' := by
 obtain ⟨l0, rfl, hr0, hm0, hw0, hc0⟩ := ReadsInt.ofRowC w0
 obtain ⟨k, h⟩ := P l0 hm0 y0 hw0
 refine (laws_FnPaidPut.calls k _ _ l0 true w (Kd.C_of_reads (d := (0 : Int)) (h1 := fun _ => rfl) hr0) hc0 h PQM_ PQT_).mono ?_
 rintro e w' ⟨rfl, hd⟩
 exact ⟨rfl, hd⟩

end Go.Proofs.YtgjljbaadglpnaaGreatDoor.PFnPaidPut
