/- Functions of the program and what each answers: the kit's print, shortened (wip/press2.py). -/
import Derived.Test.YtgjljbaadglpnaaGreatDoorPFnPaidGetx0
import Derived.Test.YtgjljbaadglpnaaGreatDoorPFnPaidGetx14
import Derived.Test.YtgjljbaadglpnaaGreatDoorPFnPaidGetx16
import Derived.Test.YtgjljbaadglpnaaGreatDoorPFnPaidGetx18
import Derived.Test.YtgjljbaadglpnaaGreatDoorPFnPaidGetx25
import Derived.Test.YtgjljbaadglpnaaGreatDoorPFnPaidGetx30
namespace Go.Proofs.YtgjljbaadglpnaaGreatDoor.PFnPaidGet
open Go.Proofs.YtgjljbaadglpnaaGreatDoor.Sq Go.RowKit Go.Proofs.YtgjljbaadglpnaaGreatDoorW.PrintWords Go.Proofs.YtgjljbaadglpnaaGreatDoorW.PrintLast Go.Proofs.YtgjljbaadglpnaaGreatDoorW.PrintMore
open Kd
set_option linter.unusedVariables false
set_option linter.unusedSimpArgs false
set_option maxHeartbeats 64000000
set_option maxRecDepth 100000
def spec_l20Bent.f (k : Nat) (s0_0 : List Int) (s0_1 : Int) (a1 : ByteArray) : Option (ByteArray × Int) := (spec_l20Rd_pick.f k s0_0 s0_1 (wrap64 ((a1.size : Int) + 1))).bind fun bt687 => ((spec_l20Rd_pick.f k s0_0 bt687.2 5).bind fun bt689 => (if bt689.1 = 0 then (if bt687.1 < (a1.size : Int) then (if 0 ≤ bt687.1 then (if bt687.1 ≤ (a1.size : Int) then ((spec_l20Rd_of.f k s0_0 bt689.2 (([(⟨#[48]⟩ : ByteArray), (⟨#[97]⟩ : ByteArray), (⟨#[32]⟩ : ByteArray), (⟨#[0]⟩ : ByteArray), (⟨#[255]⟩ : ByteArray), (⟨#[128]⟩ : ByteArray), (⟨#[102]⟩ : ByteArray), (⟨#[10]⟩ : ByteArray)] : List ByteArray))).bind fun bt694 => (if (a1.extract 0 (bt687.1 : Int).toNat).size + bt694.1.size ≤ 9223372036854775807 then (if 0 ≤ (wrap64 (bt687.1 + 1)) then (if (wrap64 (bt687.1 + 1)) ≤ (a1.size : Int) then (if ((a1.extract 0 (bt687.1 : Int).toNat) ++ bt694.1).size + (a1.extract ((wrap64 (bt687.1 + 1)) : Int).toNat a1.size).size ≤ 9223372036854775807 then (some (((a1.extract 0 (bt687.1 : Int).toNat) ++ bt694.1) ++ (a1.extract ((wrap64 (bt687.1 + 1)) : Int).toNat a1.size), bt694.2)) else (none)) else (none)) else (none)) else (none))) else (none)) else (none)) else (some (a1, bt689.2))) else (if bt689.1 = 1 then (if 0 ≤ bt687.1 then (if bt687.1 ≤ (a1.size : Int) then (some (a1.extract 0 (bt687.1 : Int).toNat, bt689.2)) else (none)) else (none)) else (if bt689.1 = 2 then ((spec_l20Rd_of.f k s0_0 bt689.2 (([(⟨#[48]⟩ : ByteArray), (⟨#[32]⟩ : ByteArray), (⟨#[0]⟩ : ByteArray), (⟨#[255]⟩ : ByteArray)] : List ByteArray))).bind fun bt699 => (if a1.size + bt699.1.size ≤ 9223372036854775807 then (some (a1 ++ bt699.1, bt699.2)) else (none))) else (some (a1, bt689.2))))))
def spec_l20Bent.T5 : Bool × List (List Nat × List Nat) := (true, [([], []), ([], []), ([0, 1], [0, 1]), ([], []), ([], []), ([3, 4], [3, 4]), ([2, 5], [2, 5]), ([], []), ([], []), ([8], [8]), ([7, 9], [7, 9]), ([6, 10], [6, 10]), ([11, 5, 0, 1, 2, 3, 4, 5, 6, 7, 8, 9, 10, 11], [11])])
def spec_l20Bent.B5 : List Nat := [0, 0, 3, 0, 0, 24, 63, 0, 0, 256, 896, 2047, 4095]
theorem spec_l20Bent.tab5 : rtab .any (opsOf Tryz.f34 5) = spec_l20Bent.T5 := by kernel_rfl
theorem spec_l20Bent.bits5 : waitsOk spec_l20Bent.T5.2 spec_l20Bent.B5 = true := by kernel_rfl
theorem spec_l20Bent.calls (k : Nat) (g : Nat) (s0_0 : List Int) (s0_1 : Int) (a1 : ByteArray) (r1 : ByteArray) (r2 : Int) (w0 w : World) (hI : IsS78 w0 w g s0_0 s0_1) (hB : Below w0.heap.size w0 w) (h : spec_l20Bent.f k s0_0 s0_1 a1 = some (r1, r2)) :
  Calls Tryz.prog 34 #[.pointer (some ⟨g, 0, none⟩), .string a1] w fun e w' => e = .returned (.string r1) ∧ IsS78 w0 w' g s0_0 r2 ∧ Below w0.heap.size w0 w' ∧ KeepBut w w' g none := by
 have HI0 := am hI
 have HK := am (KeepBut.refl w g none)
 have HL := am hB.size
 clear hI
 have HW0 := am hB.size
 have HB := am hB
 clear hB
 have H : ((spec_l20Rd_pick.f k s0_0 s0_1 (wrap64 ((a1.size : Int) + 1))).bind fun bt687 => ((spec_l20Rd_pick.f k s0_0 bt687.2 5).bind fun bt689 => (if bt689.1 = 0 then (if bt687.1 < (a1.size : Int) then (if 0 ≤ bt687.1 then (if bt687.1 ≤ (a1.size : Int) then ((spec_l20Rd_of.f k s0_0 bt689.2 (([(⟨#[48]⟩ : ByteArray), (⟨#[97]⟩ : ByteArray), (⟨#[32]⟩ : ByteArray), (⟨#[0]⟩ : ByteArray), (⟨#[255]⟩ : ByteArray), (⟨#[128]⟩ : ByteArray), (⟨#[102]⟩ : ByteArray), (⟨#[10]⟩ : ByteArray)] : List ByteArray))).bind fun bt694 => (if (a1.extract 0 (bt687.1 : Int).toNat).size + bt694.1.size ≤ 9223372036854775807 then (if 0 ≤ (wrap64 (bt687.1 + 1)) then (if (wrap64 (bt687.1 + 1)) ≤ (a1.size : Int) then (if ((a1.extract 0 (bt687.1 : Int).toNat) ++ bt694.1).size + (a1.extract ((wrap64 (bt687.1 + 1)) : Int).toNat a1.size).size ≤ 9223372036854775807 then (some (((a1.extract 0 (bt687.1 : Int).toNat) ++ bt694.1) ++ (a1.extract ((wrap64 (bt687.1 + 1)) : Int).toNat a1.size), bt694.2)) else (none)) else (none)) else (none)) else (none))) else (none)) else (none)) else (some (a1, bt689.2))) else (if bt689.1 = 1 then (if 0 ≤ bt687.1 then (if bt687.1 ≤ (a1.size : Int) then (some (a1.extract 0 (bt687.1 : Int).toNat, bt689.2)) else (none)) else (none)) else (if bt689.1 = 2 then ((spec_l20Rd_of.f k s0_0 bt689.2 (([(⟨#[48]⟩ : ByteArray), (⟨#[32]⟩ : ByteArray), (⟨#[0]⟩ : ByteArray), (⟨#[255]⟩ : ByteArray)] : List ByteArray))).bind fun bt699 => (if a1.size + bt699.1.size ≤ 9223372036854775807 then (some (a1 ++ bt699.1, bt699.2)) else (none))) else (some (a1, bt689.2))))))) = some (r1, r2) := h
 clear h
 replace H := Option.bind_eq_some_iff.mp H
 obtain ⟨⟨t687, t688⟩, A30, H⟩ := H
 have A3 := am A30
 clear A30
 replace H := Option.bind_eq_some_iff.mp H
 obtain ⟨⟨t689, t690⟩, A40, H⟩ := H
 have A4 := am A40
 clear A40
 by_cases c5 : t689 = 0
 rotate_left
 ·rw [if_neg c5] at H
  have c5b0 := beq_eq_false_iff_ne.mpr c5
  have c5b1 := bne_iff_ne.mpr c5
  go_enter Tryz.func34, Tryz.ntmps34
  go_upto_if 31 with ((with_reducible refine gg ?_); first | (refine gL 10 Tryz.func15 #[.pointer (some ⟨g, 0, none⟩), .int .i64 (wrap64 ((a1.size : Int) + 1))] ?_; (with_reducible refine (spec_l20Rd_pick.calls k g s0_0 s0_1 (wrap64 ((a1.size : Int) + 1)) t687 t688 w0 _ ?side1 ?side2 A3.out).mono ?_); (case side1 => exact iX HI0); (case side2 => exact xBi HB); rintro e w27 ⟨rfl, hi, hb, hk⟩; refine ⟨_, rfl, ?_⟩; replace HK := kT HK hk; replace HB := am (hb); replace HI0 := am (hi); (try clear hb)) | (refine gL 12 Tryz.func15 #[.pointer (some ⟨g, 0, none⟩), .int .i64 5] ?_; (with_reducible refine (spec_l20Rd_pick.calls k g s0_0 t688 5 t689 t690 w0 _ ?side1 ?side2 A4.out).mono ?_); (case side1 => exact iX HI0); (case side2 => exact xBi HB); rintro e w28 ⟨rfl, hi, hb, hk⟩; refine ⟨_, rfl, ?_⟩; replace HK := kT HK hk; replace HB := am (hb); replace HI0 := am (hi); (try clear hb)))
  by_cases c24 : t689 = 1
  ·rw [if_pos c24] at H
   have c24b0 := beq_iff_eq.mpr c24
   have c24b1 := bne_eq_false_iff_eq.mpr c24
   try simp only [c24b0, c24b1, Bool.not_true, Bool.not_false]
   clear c24
   replace ⟨c25, H⟩ := ip H
   have c25b0 := eq_true c25
   have c25b1 := dt c25
   clear c25
   replace ⟨c26, H⟩ := ip H
   have c26b0 := eq_true c26
   have c26b1 := dt c26
   clear c26
   simp only [Option.some.injEq, Prod.mk.injEq] at H
   obtain ⟨rfl, rfl⟩ := H
   go_wp2
   go_ret
   exact ⟨xE, iX HI0, xBi HB, xK HK⟩
  rw [if_neg c24] at H
  have c24b0 := beq_eq_false_iff_ne.mpr c24
  have c24b1 := bne_iff_ne.mpr c24
  try simp only [c24b0, c24b1, Bool.not_true, Bool.not_false]
  by_cases c29 : t689 = 2
  rotate_left
  ·rw [if_neg c29] at H
   have c29b0 := beq_eq_false_iff_ne.mpr c29
   have c29b1 := bne_iff_ne.mpr c29
   simp only [Option.some.injEq, Prod.mk.injEq] at H
   obtain ⟨rfl, rfl⟩ := H
   go_wp2
   go_ret
   exact ⟨xE, iX HI0, xBi HB, xK HK⟩
  rw [if_pos c29] at H
  have c29b0 := beq_iff_eq.mpr c29
  have c29b1 := bne_eq_false_iff_eq.mpr c29
  clear c29
  obtain ⟨y696, Ny696⟩ := yA (([(⟨#[48]⟩ : ByteArray), (⟨#[32]⟩ : ByteArray), (⟨#[0]⟩ : ByteArray), (⟨#[255]⟩ : ByteArray)] : List ByteArray) : List ByteArray)
  rw [← Ny696.out] at H
  replace H := Option.bind_eq_some_iff.mp H
  obtain ⟨⟨t699, t700⟩, A300, H⟩ := H
  have A30 := am A300
  clear A300
  replace ⟨c31, H⟩ := ip H
  have c31b0 := eq_true c31
  have c31b1 := dt c31
  have c31b2 := nf c31
  simp only [Option.some.injEq, Prod.mk.injEq] at H
  obtain ⟨rfl, rfl⟩ := H
  go_wp2_with (first | ((with_reducible refine gate_dst (N := 40) rfl ?_); refine R_lit Kd.string _ 9 ?hg (N := 40) ?hd (xs := ([(⟨#[48]⟩ : ByteArray), (⟨#[32]⟩ : ByteArray), (⟨#[0]⟩ : ByteArray), (⟨#[255]⟩ : ByteArray)] : List ByteArray)) (inner := [.string (⟨#[48]⟩ : ByteArray), .string (⟨#[32]⟩ : ByteArray), .string (⟨#[0]⟩ : ByteArray), .string (⟨#[255]⟩ : ByteArray)]) (ok := fun _ => True) (okp := fun _ => True) ?hr ?hp (fun _ hk => hk) trivial (Below.refl _ _) (Nat.le_refl _) (by simp) ?_; (case hd => rfl); (case hg => rfl); (case hr => first | (go_simp; done) | (go_simp; rfl)); (case hp => exact xP); intro v697 w34 ho35 hb hg_ hnew_; clear hg_ hnew_; (first | rw [← Ny696.out] at ho35 | (simp only [Int.reduceToNat] at ho35; rw [← Ny696.out] at ho35)); have HO698 := am (R_lower ho35 (xZ HK)); replace HK := kK HK hb; replace HB := kHi HB hb; replace HI0 := iK HI0 hb; clear hb ho35; obtain ⟨Ao36, co36, rfl⟩ := R_slice HO698.out) | ((with_reducible refine gg ?_); refine gL 41 Tryz.func46 #[.pointer (some ⟨g, 0, none⟩), .slice Ao36 y696.length co36] ?_; (with_reducible refine (spec_l20Rd_of.calls k g s0_0 t690 _ _ y696 t699 t700 w0 _ ?side1 ?side2 ?side3 ?side4 ?side5 A30.out).mono ?_); (case side1 => exact iX HI0); (case side2 => exact xBi HB); (case side3 => exact cr (R_reads' HO698.out).2.2); (case side4 => exact sl HO698); (case side5 => exact far_slice (IsS78.own_ne HI0.out HO698.out (by decide))); rintro e w37 ⟨rfl, hi, hb, hk⟩; refine ⟨_, rfl, ?_⟩; replace HO698 := iR HI0 HO698 hk; replace HK := kT HK hk; replace HB := am (hb); replace HI0 := am (hi); (try clear hb)))
  go_ret
  exact ⟨xE, iX HI0, xBi HB, xK HK⟩
 rw [if_pos c5] at H
 have c5b0 := beq_iff_eq.mpr c5
 have c5b1 := bne_eq_false_iff_eq.mpr c5
 clear c5
 by_cases c6 : t687 < (a1.size : Int)
 rotate_left
 ·rw [if_neg c6] at H
  have c6b0 := df c6
  clear c6
  simp only [Option.some.injEq, Prod.mk.injEq] at H
  obtain ⟨rfl, rfl⟩ := H
  go_enter Tryz.func34, Tryz.ntmps34
  go_wp2_with ((with_reducible refine gg ?_); first | (refine gL 10 Tryz.func15 #[.pointer (some ⟨g, 0, none⟩), .int .i64 (wrap64 ((a1.size : Int) + 1))] ?_; (with_reducible refine (spec_l20Rd_pick.calls k g s0_0 s0_1 (wrap64 ((a1.size : Int) + 1)) t687 t688 w0 _ ?side1 ?side2 A3.out).mono ?_); (case side1 => exact iX HI0); (case side2 => exact xBi HB); rintro e w22 ⟨rfl, hi, hb, hk⟩; refine ⟨_, rfl, ?_⟩; replace HK := kT HK hk; replace HB := am (hb); replace HI0 := am (hi); (try clear hb)) | (refine gL 12 Tryz.func15 #[.pointer (some ⟨g, 0, none⟩), .int .i64 5] ?_; (with_reducible refine (spec_l20Rd_pick.calls k g s0_0 t688 5 t689 t690 w0 _ ?side1 ?side2 A4.out).mono ?_); (case side1 => exact iX HI0); (case side2 => exact xBi HB); rintro e w23 ⟨rfl, hi, hb, hk⟩; refine ⟨_, rfl, ?_⟩; replace HK := kT HK hk; replace HB := am (hb); replace HI0 := am (hi); (try clear hb)))
  go_ret
  exact ⟨xE, iX HI0, xBi HB, xK HK⟩
 rw [if_pos c6] at H
 have c6b0 := dt c6
 clear c6
 replace ⟨c7, H⟩ := ip H
 have c7b0 := eq_true c7
 have c7b1 := dt c7
 clear c7
 replace ⟨c8, H⟩ := ip H
 have c8b0 := eq_true c8
 have c8b1 := dt c8
 clear c8
 obtain ⟨y691, Ny691⟩ := yA (([(⟨#[48]⟩ : ByteArray), (⟨#[97]⟩ : ByteArray), (⟨#[32]⟩ : ByteArray), (⟨#[0]⟩ : ByteArray), (⟨#[255]⟩ : ByteArray), (⟨#[128]⟩ : ByteArray), (⟨#[102]⟩ : ByteArray), (⟨#[10]⟩ : ByteArray)] : List ByteArray) : List ByteArray)
 rw [← Ny691.out] at H
 replace H := Option.bind_eq_some_iff.mp H
 obtain ⟨⟨t694, t695⟩, A90, H⟩ := H
 have A9 := am A90
 clear A90
 replace ⟨c10, H⟩ := ip H
 have c10b0 := eq_true c10
 have c10b1 := dt c10
 have c10b2 := nf c10
 have c10b3 : (9223372036854775807 < t687.toNat + t694.size) = False := eq_false (by have h_ := c10; try dsimp only at h_; have h2_ : t687 ≤ (a1.size : Int) := of_eq_true (by assumption); rw [ByteArray.size_extract] at h_; omega)
 obtain ⟨ji11, hji11⟩ := je (wrap64 (t687 + 1))
 first | rw [hji11] at H | simp only [hji11] at H
 (try rw [hji11] at A3)
 (try rw [hji11] at A4)
 (try rw [hji11] at A9)
 have hji11w : (IntKind.i64.wrap (t687 + 1)) = ji11 := (i64_w _).trans hji11
 replace ⟨c12, H⟩ := ip H
 have c12b0 := eq_true c12
 have c12b1 := dt c12
 clear c12
 replace ⟨c13, H⟩ := ip H
 have c13b0 := eq_true c13
 have c13b1 := dt c13
 clear c13
 replace ⟨c14, H⟩ := ip H
 have c14b0 := eq_true c14
 have c14b1 := dt c14
 have c14b2 := nf c14
 try (have c14b3 := c14b2; simp only [ByteArray.size_append] at c14b3)
 have c14b3 : (9223372036854775807 < t687.toNat + t694.size + (a1.size - ji11.toNat)) = False := eq_false (by have h_ := c14; try dsimp only at h_; have h2_ : t687 ≤ (a1.size : Int) := of_eq_true (by assumption); rw [ByteArray.size_append, ByteArray.size_extract, ByteArray.size_extract] at h_; omega)
 simp only [Option.some.injEq, Prod.mk.injEq] at H
 obtain ⟨rfl, rfl⟩ := H
 go_enter Tryz.func34, Tryz.ntmps34
 try go_wp2_with ((with_reducible refine gg ?_); first | (refine gL 10 Tryz.func15 #[.pointer (some ⟨g, 0, none⟩), .int .i64 (wrap64 ((a1.size : Int) + 1))] ?_; (with_reducible refine (spec_l20Rd_pick.calls k g s0_0 s0_1 (wrap64 ((a1.size : Int) + 1)) t687 t688 w0 _ ?side1 ?side2 A3.out).mono ?_); (case side1 => exact iX HI0); (case side2 => exact xBi HB); rintro e w15 ⟨rfl, hi, hb, hk⟩; refine ⟨_, rfl, ?_⟩; replace HK := kT HK hk; replace HB := am (hb); replace HI0 := am (hi); (try clear hb)) | (refine gL 12 Tryz.func15 #[.pointer (some ⟨g, 0, none⟩), .int .i64 5] ?_; (with_reducible refine (spec_l20Rd_pick.calls k g s0_0 t688 5 t689 t690 w0 _ ?side1 ?side2 A4.out).mono ?_); (case side1 => exact iX HI0); (case side2 => exact xBi HB); rintro e w16 ⟨rfl, hi, hb, hk⟩; refine ⟨_, rfl, ?_⟩; replace HK := kT HK hk; replace HB := am (hb); replace HI0 := am (hi); (try clear hb)))
 replace HI0 := am (IsS78.drew HI0.out)
 replace HK := am (keep_drew HK.out)
 replace HB := am (below_drew1 HB.out)
 refine start_ (n := 13) (S := fun w' => True) (ds := []) (bm 13 0) (by kernel_rfl) rfl rfl trivial (fun hHeld => ?_); refine with_tabW spec_l20Bent.tab5 spec_l20Bent.bits5 (fun HT_ HW_ => ?_)
 generalize w16.drew = w17 at HI0 HK HB hHeld ⊢
 refine pA 0 19 (bm 13 1) HT_ ?_
 refine pA 1 20 (bm 13 3) HT_ ?_
 refine pA 2 21 (bm 13 7) HT_ ?_
 refine pA 3 22 (bm 13 15) HT_ ?_
 refine pA 7 26 (bm 13 143) HT_ ?_
 refine pA 8 27 (bm 13 399) HT_ ?_
 refine pA 9 28 (bm 13 911) HT_ ?_
 refine pA 10 29 (bm 13 1935) HT_ ?_
 refine oA 4 (some 23) (bm 13 1951) HT_ fun K hK => ?_
 refine R_lit_step Kd.string _ 9 ?hg (N := 23) ?hd (xs := ([(⟨#[48]⟩ : ByteArray), (⟨#[97]⟩ : ByteArray), (⟨#[32]⟩ : ByteArray), (⟨#[0]⟩ : ByteArray), (⟨#[255]⟩ : ByteArray), (⟨#[128]⟩ : ByteArray), (⟨#[102]⟩ : ByteArray), (⟨#[10]⟩ : ByteArray)] : List ByteArray)) (inner := [.string (⟨#[48]⟩ : ByteArray), .string (⟨#[97]⟩ : ByteArray), .string (⟨#[32]⟩ : ByteArray), .string (⟨#[0]⟩ : ByteArray), .string (⟨#[255]⟩ : ByteArray), .string (⟨#[128]⟩ : ByteArray), .string (⟨#[102]⟩ : ByteArray), .string (⟨#[10]⟩ : ByteArray)]) (ok := fun _ => True) (okp := fun _ => True) ?hr ?hp (fun _ hk => hk) trivial (Below.refl _ _) (Nat.le_refl _) (by simp) ?_; (case hd => rfl); (case hg => rfl); (case hr => first | (go_simp; done) | (go_simp; rfl)); (case hp => exact (Reps.one (show Kd.M Kd.string _ _ _ (⟨#[48]⟩ : ByteArray) [.string (⟨#[48]⟩ : ByteArray)] from rfl) (Reps.one (show Kd.M Kd.string _ _ _ (⟨#[97]⟩ : ByteArray) [.string (⟨#[97]⟩ : ByteArray)] from rfl) (Reps.one (show Kd.M Kd.string _ _ _ (⟨#[32]⟩ : ByteArray) [.string (⟨#[32]⟩ : ByteArray)] from rfl) (Reps.one (show Kd.M Kd.string _ _ _ (⟨#[0]⟩ : ByteArray) [.string (⟨#[0]⟩ : ByteArray)] from rfl) (Reps.one (show Kd.M Kd.string _ _ _ (⟨#[255]⟩ : ByteArray) [.string (⟨#[255]⟩ : ByteArray)] from rfl) (Reps.one (show Kd.M Kd.string _ _ _ (⟨#[128]⟩ : ByteArray) [.string (⟨#[128]⟩ : ByteArray)] from rfl) (Reps.one (show Kd.M Kd.string _ _ _ (⟨#[102]⟩ : ByteArray) [.string (⟨#[102]⟩ : ByteArray)] from rfl) (Reps.one (show Kd.M Kd.string _ _ _ (⟨#[10]⟩ : ByteArray) [.string (⟨#[10]⟩ : ByteArray)] from rfl) (Reps.none _ _))))))))))
 intro v692 w18 ho19 hb hg_ hnew_
 clear hg_ hnew_
 (first | rw [← Ny691.out] at ho19 | (simp only [Int.reduceToNat] at ho19; rw [← Ny691.out] at ho19))
 have HO693 := am (R_lower ho19 (xZ HK))
 replace HK := kK HK hb
 replace HB := kHi HB hb
 replace HI0 := iK HI0 hb
 clear hb ho19
 obtain ⟨Ao20, co20, eo20⟩ := R_slice HO693.out
 (first | subst eo20 | (obtain ⟨f4_, f5_⟩ := eS eo20; subst f4_ f5_))
 refine hK.out _ _ trivial (fun hHeld => ?_)
 clear hK K
 refine nA (some 23) ?_
 refine oA 5 (some 24) (bm 13 1983) HT_ fun K hK => ?_
 refine gA Tryz.func46 #[.pointer (some ⟨g, 0, none⟩), .slice Ao20 y691.length co20] ?_
 with_reducible refine (spec_l20Rd_of.calls k g s0_0 t690 _ _ y691 t694 t695 w0 _ ?side1 ?side2 ?side3 ?side4 ?side5 A9.out).mono ?_
 (case side1 => exact iX HI0)
 (case side2 => exact xBi HB)
 (case side3 => exact cr (R_reads' HO693.out).2.2)
 (case side4 => exact sl HO693)
 (case side5 => exact far_slice (IsS78.own_ne HI0.out HO693.out (by decide)))
 rintro e w21 ⟨rfl, hi, hb, hk⟩
 refine ⟨_, rfl, ?_⟩
 replace HO693 := iR HI0 HO693 hk
 replace HK := kT HK hk
 replace HB := am (hb)
 replace HI0 := am (hi)
 (try clear hb)
 (try clear hb2)
 (try clear hk)
 (try clear hi)
 refine hK.out _ _ trivial (fun hHeld => ?_)
 clear hK K
 refine nA (some 24) ?_
 refine pA 6 25 (bm 13 2047) HT_ ?_
 refine pA 11 30 (bm 13 4095) HT_ ?_
 refine pA 12 4 (bm 13 8191) HT_ ?_
 refine done_ (done_of HT_.out (by kernel_rfl)) ?_
 try go_wp2
 go_ret
 exact ⟨by first | rfl | (simp [errW_none, errW_some] <;> rfl) | (simp only [← hji11]; first | rfl | (simp [errW_none, errW_some] <;> rfl)) | (simp [*, errW_none, errW_some] <;> rfl), iX HI0, xBi HB, xK HK⟩
def spec_DrawPaidGet.f (k : Nat) (l0 : List Int) : Option (ByteArray) := (spec_l20Open.f l0).bind fun bt701 => ((spec_l20Paid.f k bt701.1 bt701.2).bind fun bt704 => ((spec_PaidPut.f k bt704.1 bt704.2.1 bt704.2.2.1 bt704.2.2.2.1 bt704.2.2.2.2.1 bt704.2.2.2.2.2.1 bt704.2.2.2.2.2.2.1 bt704.2.2.2.2.2.2.2.1 bt704.2.2.2.2.2.2.2.2.1).bind fun t723 => ((spec_l20Rd_pick.f k bt701.1 bt704.2.2.2.2.2.2.2.2.2.2.2 2).bind fun bt724 => (if bt724.1 = 0 then (some t723) else ((spec_l20Bent.f k bt701.1 bt724.2 t723).bind fun bt726 => (some bt726.1))))))
theorem spec_DrawPaidGet.calls (k : Nat) (A0 : Option Addr) (c0 : Nat) (l0 : List Int) (r : ByteArray) (w : World) (hr0 : Kd.C (Kd.int .u8) w A0 l0.length l0) (hc0 : l0.length ≤ c0) (h : spec_DrawPaidGet.f k l0 = some r) :
  Calls Tryz.prog 11 #[.slice A0 l0.length c0] w fun e w' => e = .returned (.string r) ∧ Below w.heap.size w w' := by
 have hu30 := Tryz.underlying30
 have HR0 := am hr0
 have HC0 := am hc0
 clear hr0 hc0
 have HB := am (Below.refl w.heap.size w)
 have H : ((spec_l20Open.f l0).bind fun bt701 => ((spec_l20Paid.f k bt701.1 bt701.2).bind fun bt704 => ((spec_PaidPut.f k bt704.1 bt704.2.1 bt704.2.2.1 bt704.2.2.2.1 bt704.2.2.2.2.1 bt704.2.2.2.2.2.1 bt704.2.2.2.2.2.2.1 bt704.2.2.2.2.2.2.2.1 bt704.2.2.2.2.2.2.2.2.1).bind fun t723 => ((spec_l20Rd_pick.f k bt701.1 bt704.2.2.2.2.2.2.2.2.2.2.2 2).bind fun bt724 => (if bt724.1 = 0 then (some t723) else ((spec_l20Bent.f k bt701.1 bt724.2 t723).bind fun bt726 => (some bt726.1))))))) = some r := h
 clear h
 replace H := Option.bind_eq_some_iff.mp H
 obtain ⟨⟨t701, t702⟩, A20, H⟩ := H
 have A2 := am A20
 clear A20
 replace H := Option.bind_eq_some_iff.mp H
 obtain ⟨⟨t704, t705, t706, t707, t708, t709, t710, t713, t716, t719, t720, t721⟩, A30, H⟩ := H
 have A3 := am A30
 clear A30
 replace ⟨t723, A4, H⟩ := oa H
 replace H := Option.bind_eq_some_iff.mp H
 obtain ⟨⟨t724, t725⟩, A50, H⟩ := H
 have A5 := am A50
 clear A50
 go_enter Tryz.func11, Tryz.ntmps11
 go_upto_if 20 with ((with_reducible refine gg ?_); first | (refine gL 9 Tryz.func13 #[.slice A0 l0.length c0] ?_; (with_reducible refine (spec_l20Open.calls _ _ l0 t701 t702 w _ ?side1 ?side2 ?side3 A2.out).mono ?_); (case side1 => exact xB HB); (case side2 => exact HR0.out); (case side3 => exact HC0.out); rintro e w7 ⟨g703, rfl, hi, hb, hb2⟩; refine ⟨_, rfl, ?_⟩; replace HB := am (hb); have HI703 := am (hi); (try clear hb)) | (refine gL 12 Tryz.func14 #[.pointer (some ⟨g703, 0, none⟩)] ?_; (with_reducible refine (spec_l20Paid.calls k g703 t701 t702 t704 t705 t706 t707 t708 t709 t710 t713 t716 t719 t720 t721 w _ ?side1 ?side2 A3.out).mono ?_); (case side1 => exact iX HI703); (case side2 => exact xBi HB); rintro e w8 ⟨v711, v714, v717, rfl, ho0, ho1, ho2, hi, hb, hk⟩; refine ⟨_, rfl, ?_⟩; have HO712 := am (R_lower ho0 (below_size (xBi HB))); have HO715 := am (R_lower ho1 (below_size (xBi HB))); have HO718 := am (R_lower ho2 (below_size (xBi HB))); replace HB := am (hb); replace HI703 := am (hi); (try clear hb); (try clear ho0); (try clear ho1); (try clear ho2)) | (refine bE 4 #[.int .i64 0, .string (⟨#[]⟩ : ByteArray), .string (⟨#[]⟩ : ByteArray), .int .i64 0, .int .i64 0, .int .i64 0, .slice none 0 0, .slice none 0 0, .slice none 0 0] 30 ?_; intro gb722 hg w9 hbox hb; replace HO712 := rk HO712 hb; replace HO715 := rk HO715 hb; replace HO718 := rk HO718 hb; have BK722 := am (hbox); have GW722 := am ((by rw [hg]; exact (below_size (xBi HB)) : w.heap.size ≤ gb722)); have GE722 := am ((by rw [hg]; exact (below_size (xBi HB)) : w.heap.size ≤ gb722)); replace HB := kHi HB hb; have NB703_722 := iN hg HI703; have NB722_703 := iM hg HI703; replace HI703 := iK HI703 hb; clear hb hbox hg; have hnb10 := NB722_703.out; have hnc10 := NB703_722.out; have hz11 := bc9 BK722; obtain ⟨Ao12, co12, rfl⟩ := R_slice HO712.out; obtain ⟨Ao13, co13, rfl⟩ := R_slice HO715.out; obtain ⟨Ao14, co14, rfl⟩ := R_slice HO718.out) | (refine store_event (t := 30) (p := 4) (v := ?vo_) (w1 := ?wo_) ?hg ?ho ?hn ?hr ?_; (case ho => rfl); (case hg => rfl); (case hn => rfl); (case hr => go_simp; rfl); intro wq_ hW_; (first | (have BQ_ := kF (.cells #[.int .i64 t704, .string t705, .string t706, .int .i64 t707, .int .i64 t708, .int .i64 t709, .slice Ao12 t710.length co12, .slice Ao13 t713.length co13, .slice Ao14 t716.length co14] 30 (0, 0)) BK722 hW_; have hzq_ := bc9 BQ_) | (have BQ_ := am hW_; have hzq_ := am hW_)); replace hW_ := am hW_) | (refine gL 17 Tryz.func7 #[.agg #[.int .i64 t704, .string t705, .string t706, .int .i64 t707, .int .i64 t708, .int .i64 t709, .slice Ao12 t710.length co12, .slice Ao13 t713.length co13, .slice Ao14 t716.length co14]] ?_; (try (clear hzq_ BQ_; obtain ⟨hW_⟩ := hW_; subst hW_)); (with_reducible refine (spec_PaidPut.calls k t704 t705 t706 t707 t708 t709 _ _ t710 _ _ t713 _ _ t716 t723 _ ?side1 ?side2 ?side3 ?side4 ?side5 ?side6 A4.out).mono ?_); (case side1 => exact (R_reads' (rf HO712 BK722)).2.2); (case side2 => exact sl HO712); (case side3 => exact (R_reads' (rf HO715 BK722)).2.2); (case side4 => exact sl HO715); (case side5 => exact (R_reads' (rf HO718 BK722)).2.2); (case side6 => exact sl HO718); rintro e w15 ⟨rfl, hb⟩; refine ⟨_, rfl, ?_⟩; replace HO712 := am (R_below (rf HO712 BK722) hb); replace HO715 := am (R_below (rf HO715 BK722) hb); replace HO718 := am (R_below (rf HO718 BK722) hb); replace BK722 := kP (.cells #[.int .i64 t704, .string t705, .string t706, .int .i64 t707, .int .i64 t708, .int .i64 t709, .slice Ao12 t710.length co12, .slice Ao13 t713.length co13, .slice Ao14 t716.length co14] 30 (0, 0)) BK722 hb; replace HB := kHi HB hb; replace HI703 := am (IsS78.below (show IsS78 w (((((((((w9.setCell ⟨gb722, 0, none⟩ (.int .i64 t704)).setCell ⟨gb722, 1, none⟩ (.string t705)).setCell ⟨gb722, 2, none⟩ (.string t706)).setCell ⟨gb722, 3, none⟩ (.int .i64 t707)).setCell ⟨gb722, 4, none⟩ (.int .i64 t708)).setCell ⟨gb722, 5, none⟩ (.int .i64 t709)).setCell ⟨gb722, 6, none⟩ (.slice Ao12 t710.length co12)).setCell ⟨gb722, 7, none⟩ (.slice Ao13 t713.length co13)).setCell ⟨gb722, 8, none⟩ (.slice Ao14 t716.length co14)) g703 t701 t721 from iX HI703) hb); (try clear hb)) | (refine gL 19 Tryz.func15 #[.pointer (some ⟨g703, 0, none⟩), .int .i64 2] ?_; (try (clear hzq_ BQ_; obtain ⟨hW_⟩ := hW_; subst hW_)); (with_reducible refine (spec_l20Rd_pick.calls k g703 t701 t721 2 t724 t725 w _ ?side1 ?side2 A5.out).mono ?_); (case side1 => exact iX HI703); (case side2 => exact xBi HB); rintro e w16 ⟨rfl, hi, hb, hk⟩; refine ⟨_, rfl, ?_⟩; replace HO712 := iR HI703 HO712 hk; replace HO715 := iR HI703 HO715 hk; replace HO718 := iR HI703 HO718 hk; replace BK722 := am (KeepBut.blk hk (g' := gb722) (o := .cells #[.int .i64 t704, .string t705, .string t706, .int .i64 t707, .int .i64 t708, .int .i64 t709, .slice Ao12 t710.length co12, .slice Ao13 t713.length co13, .slice Ao14 t716.length co14] 30 (0, 0)) (kb BK722) NB722_703.out (by simp)); replace HB := am (hb); replace HI703 := am (hi); (try clear hb)))
 by_cases c6 : t724 = 0
 ·rw [if_pos c6] at H
  have c6b0 := beq_iff_eq.mpr c6
  have c6b1 := bne_eq_false_iff_eq.mpr c6
  try simp only [c6b0, c6b1, Bool.not_true, Bool.not_false]
  clear c6
  obtain rfl := oI H
  go_wp2
  (try (clear hzq_ BQ_; obtain ⟨hW_⟩ := hW_; subst hW_))
  go_ret
  exact ⟨xE, xBi HB⟩
 rw [if_neg c6] at H
 have c6b0 := beq_eq_false_iff_ne.mpr c6
 have c6b1 := bne_iff_ne.mpr c6
 try simp only [c6b0, c6b1, Bool.not_true, Bool.not_false]
 replace H := Option.bind_eq_some_iff.mp H
 obtain ⟨⟨t726, t727⟩, A170, H⟩ := H
 have A17 := am A170
 clear A170
 obtain rfl := oI H
 go_wp2_with ((with_reducible refine gg ?_); refine gL 24 Tryz.func34 #[.pointer (some ⟨g703, 0, none⟩), .string t723] ?_; (try (clear hzq_ BQ_; obtain ⟨hW_⟩ := hW_; subst hW_)); (with_reducible refine (spec_l20Bent.calls k g703 t701 t725 t723 t726 t727 w _ ?side1 ?side2 A17.out).mono ?_); (case side1 => exact iX HI703); (case side2 => exact xBi HB); rintro e w28 ⟨rfl, hi, hb, hk⟩; refine ⟨_, rfl, ?_⟩; replace HO712 := iR HI703 HO712 hk; replace HO715 := iR HI703 HO715 hk; replace HO718 := iR HI703 HO718 hk; replace BK722 := am (KeepBut.blk hk (g' := gb722) (o := .cells #[.int .i64 t704, .string t705, .string t706, .int .i64 t707, .int .i64 t708, .int .i64 t709, .slice Ao12 t710.length co12, .slice Ao13 t713.length co13, .slice Ao14 t716.length co14] 30 (0, 0)) (kb BK722) NB722_703.out (by simp)); replace HB := am (hb); replace HI703 := am (hi); (try clear hb))
 (try (clear hzq_ BQ_; obtain ⟨hW_⟩ := hW_; subst hW_))
 go_ret
 exact ⟨xE, xBi HB⟩
mutual
def spec_l1Cut.l0 : Nat → ByteArray → Int → Int → List ByteArray → Int → Int → Option (List ByteArray)
 | 0, _, _, _, _, _, _ => none
 | k + 1, x0, x1, x2, x7, x8, x9 => if x9 < (x0.size : Int) then (spec_l1Cut.j1 k x0 x1 x2 x7 x8 x9 (decide ((x7.length : Int) < x2))) else (spec_l1Cut.j1 k x0 x1 x2 x7 x8 x9 false)
def spec_l1Cut.j1 : Nat → ByteArray → Int → Int → List ByteArray → Int → Int → Bool → Option (List ByteArray)
 | 0, _, _, _, _, _, _, _ => none
 | k + 1, x0, x1, x2, x7, x8, x9, x20 => if x20 = true then (if 0 ≤ x9 then (if x9 < (x0.size : Int) then (if (bt x0 x9) = x1 then (if 0 ≤ x8 then (if x8 ≤ x9 then (if x9 ≤ (x0.size : Int) then (if x7.length < 8796093022208 then (spec_l1Cut.l0 k x0 x1 x2 (x7 ++ [x0.extract (x8 : Int).toNat (x9 : Int).toNat]) (wrap64 (x9 + 1)) (wrap64 (x9 + 1))) else (none)) else (none)) else (none)) else (none)) else (spec_l1Cut.l0 k x0 x1 x2 x7 x8 (wrap64 (x9 + 1)))) else (none)) else (none)) else (if 0 ≤ x8 then (if x8 ≤ (x0.size : Int) then (if x7.length < 8796093022208 then (some (x7 ++ [x0.extract (x8 : Int).toNat x0.size])) else (none)) else (none)) else (none))
end
def spec_l1Cut.f (k : Nat) (a0 : ByteArray) (a1 : Int) (a2 : Int) : Option (List ByteArray) := spec_l1Cut.l0 k a0 a1 a2 (([] : List ByteArray)) 0 0
theorem spec_l1Cut.calls (k : Nat) (a0 : ByteArray) (a1 : Int) (a2 : Int) (r : List ByteArray) (w : World) (h : spec_l1Cut.f k a0 a1 a2 = some r) :
  Calls Tryz.prog 35 #[.string a0, .int .u8 a1, .int .i64 a2] w fun e w' => ∃ v0_ : Value, e = .returned (v0_) ∧ Kd.R Kd.string 9 w' w.heap.size (fun _ => True) v0_ r ∧ Below w.heap.size w w' := by
 have HB := am (Below.refl w.heap.size w)
 have H : (spec_l1Cut.l0 k a0 a1 a2 (([] : List ByteArray)) 0 0) = some r := h
 clear h
 obtain ⟨y728, Ny728⟩ := yA (([] : List ByteArray) : List ByteArray)
 rw [← Ny728.out] at H
 have H' := am H
 clear H
 go_enter Tryz.func35, Tryz.ntmps35
 go_wp2_with ((with_reducible refine gate_dst (N := 10) rfl ?_); (try (refine gate_guard (by rfl) ?_; dsimp only)); refine R_lit Kd.string _ 9 ?hg (N := 10) ?hd (xs := ([] : List ByteArray)) (inner := []) (ok := fun _ => True) (okp := fun _ => True) ?hr ?hp (fun _ hk => hk) trivial (Below.refl _ _) (Nat.le_refl _) (by simp) ?_; (case hd => rfl); (case hg => rfl); (case hr => first | (go_simp; done) | (go_simp; rfl)); (case hp => exact xP); intro v729 w4 ho5 hb hg_ hnew_; clear hg_ hnew_; (first | rw [← Ny728.out] at ho5 | (simp only [Int.reduceToNat] at ho5; rw [← Ny728.out] at ho5)); have HO730 := am (R_lower ho5 (below_size (bl HB))); replace HB := kH HB hb; clear hb ho5)
 go_loopg [7, 8, 9] k (fun kq v7 v8 v9 w' => ∃ (x7_1 : List ByteArray) (x8_1 : Int) (x9_1 : Int), v8 = .int .i64 x8_1 ∧ v9 = .int .i64 x9_1 ∧ Aside0 (spec_l1Cut.l0 kq a0 a1 a2 x7_1 x8_1 x9_1 = some r) ∧ Aside0 (kq ≤ k) ∧ Aside0 (Kd.R Kd.string 9 w' w.heap.size (fun _ => True) v7 x7_1) ∧ Aside0 (Below w.heap.size w w'))
 case atStart => exact ⟨(y728), (0), (0), xR, xR, H', ⟨Nat.le_refl _⟩, ⟨ra HO730⟩, ⟨bl HB⟩⟩
 case round =>
  clear H'
  try clear p2
  try clear c3
  obtain ⟨x7_1, x8_1, x9_1, rfl, rfl, HA, HK1, HO_7, HB⟩ := hrel
  cases gk with
  | zero => exact absurd HA.out (by simp [spec_l1Cut.l0])
  | succ k1 =>
   have H := HA.out
   clear HA
   simp only [spec_l1Cut.l0] at H
   have HC6 := am H
   clear H
   go_upto_region 4 with (fail)
   go_cut [20] (fun v20 wc => ∃ (kq : Nat) (x20_5 : Bool), v20 = .bool x20_5 ∧ Aside0 (spec_l1Cut.j1 kq a0 a1 a2 x7_1 x8_1 x9_1 x20_5 = some r) ∧ Aside0 (kq ≤ k1) ∧ Aside0 (Kd.R Kd.string 9 wc w.heap.size (fun _ => True) u7 x7_1) ∧ Aside0 (Below w.heap.size w wc))
   case first =>
    have H := HC6.out
    clear HC6
    by_cases c7 : x9_1 < (a0.size : Int)
    rotate_left
    ·rw [if_neg c7] at H
     have c7b0 := df c7
     clear c7
     (first | rw [c7b0] | rw [c7b1] | (simp only [i64_w, i32_w]; rw [c7b0]) | skip)
     have H' := am H
     clear H
     go_wp2
     go_meet
     case rel => exact ⟨_, (false), xR, H', ⟨xL HK1⟩, ⟨ra HO_7⟩, ⟨bl HB⟩⟩
    rw [if_pos c7] at H
    have c7b0 := dt c7
    clear c7
    (first | rw [c7b0] | rw [c7b1] | (simp only [i64_w, i32_w]; rw [c7b0]) | skip)
    have H' := am H
    clear H
    obtain ⟨Ao8, co8, rfl⟩ := R_slice HO_7.out
    go_wp2
    go_meet
    case rel => exact ⟨_, (decide ((x7_1.length : Int) < a2)), xR, H', ⟨xL HK1⟩, ⟨ra HO_7⟩, ⟨bl HB⟩⟩
   case rest =>
    clear HC6
    obtain ⟨kq, x20_5, rfl, HA, HJ5, HO_7, HB⟩ := hcut
    cases kq with
    | zero => exact absurd HA.out (by simp [spec_l1Cut.j1])
    | succ kj5 =>
     have H := HA.out
     clear HA
     simp only [spec_l1Cut.j1] at H
     by_cases c9 : x20_5 = true
     rotate_left
     ·replace c9 := bF c9
      subst c9
      rw [if_neg nF] at H
      replace ⟨c19, H⟩ := ip H
      have c19b0 := eq_true c19
      have c19b1 := dt c19
      clear c19
      replace ⟨c20, H⟩ := ip H
      have c20b0 := eq_true c20
      have c20b1 := dt c20
      clear c20
      replace ⟨LMc21, H⟩ := ipa H
      obtain ⟨y734, hy734⟩ : ∃ y_ : List ByteArray, y_ = (x7_1 ++ [a0.extract (x8_1 : Int).toNat a0.size]) := ⟨_, rfl⟩
      replace H : (some y734) = some r := by first | (rw [hy734]; with_reducible exact H) | (have H2_ := (Option.bind_some _ _).symm.trans H; rw [hy734]; with_reducible exact H2_) | (have H2_ := (Option.bind_some _ _).symm.trans H; with_reducible exact H2_) | with_reducible exact H | (rw [hy734]; exact H) | exact H
      have Ny734 := am hy734
      clear hy734
      obtain rfl := oI H
      go_wp2_with ((with_reducible refine gate_builtin (b := .append) (xs := #[.tmp 37, .tmp 41]) rfl ?_); (try (refine gate_guard (by rfl) ?_; dsimp only)); at_builtin; refine R_append Kd.string (w0 := w) w.heap.size rfl (.tmp 37) (.tmp 41) 53 9 (.string ⟨#[]⟩) 16 rfl Tryz.underlying53 info9 rfl (by decide) (by omega) u7 x7_1 (a0.extract (x8_1 : Int).toNat a0.size) [.string (a0.extract (x8_1 : Int).toNat a0.size)] (fun _ => True) (fun _ => False) rfl rfl ?aP (fun _ hk => hk.elim) ?aF ?aO ?aB ?aS ?aL ?_; (case aP => exact rfl); (case aB => exact (bl HB)); (case aF => exact (fun _ _ => trivial)); (case aO => exact (ra HO_7)); (case aS => exact (below_size (bl HB))); (case aL => have := LMc21.out; omega); intro v735 w22 ho hb hg hat; rw [← Ny734.out] at ho; have n0_ := am (hb); have n1_ := am (ho); clear HB; clear HO_7; have HB := n0_; have HO736 := n1_; clear n0_ n1_; clear ho hb hg hat)
      go_ret
      exact ⟨_, xE, ra HO736, bl HB⟩
     subst c9
     rw [if_pos rfl] at H
     replace ⟨c10b0, H⟩ := ipd H
     replace ⟨c11b0, H⟩ := ipd H
     by_cases c13 : (bt a0 x9_1) = a1
     rotate_left
     ·rw [if_neg c13] at H
      have c13b0 := beq_eq_false_iff_ne.mpr c13
      have c13b1 := bne_iff_ne.mpr c13
      have H' := am H
      clear H
      have p12 : 0 ≤ (x9_1 : Int) := oX
      have q12 : x9_1 < (a0.size : Int) := oX
      have hx12 := bt_at a0 x9_1
      replace ⟨p12, q12⟩ := eT p12 q12
      go_wp2
      go_roundg kj5
      case measure => have := HK1.out; have := HJ5.out; omega
      case rel => exact ⟨(x7_1), (x8_1), (wrap64 (x9_1 + 1)), xR, xR, H', ⟨by have := HK1.out; have := HJ5.out; omega⟩, ⟨ra HO_7⟩, ⟨bl HB⟩⟩
     rw [if_pos c13] at H
     have c13b0 := beq_iff_eq.mpr c13
     have c13b1 := bne_eq_false_iff_eq.mpr c13
     clear c13
     replace ⟨c14, H⟩ := ip H
     have c14b0 := eq_true c14
     have c14b1 := dt c14
     clear c14
     replace ⟨c15, H⟩ := ip H
     have c15b0 := eq_true c15
     have c15b1 := dt c15
     clear c15
     replace ⟨c16, H⟩ := ip H
     have c16b0 := eq_true c16
     have c16b1 := dt c16
     clear c16
     replace ⟨LMc17, H⟩ := ipa H
     obtain ⟨y731, Ny731⟩ := yA (x7_1 ++ [a0.extract (x8_1 : Int).toNat (x9_1 : Int).toNat] : List ByteArray)
     rw [← Ny731.out] at H
     have H' := am H
     clear H
     have p12 : 0 ≤ (x9_1 : Int) := oX
     have q12 : x9_1 < (a0.size : Int) := oX
     have hx12 := bt_at a0 x9_1
     replace ⟨p12, q12⟩ := eT p12 q12
     go_wp2_with ((with_reducible refine gate_builtin (b := .append) (xs := #[.tmp 28, .tmp 33]) rfl ?_); (try (refine gate_guard (by rfl) ?_; dsimp only)); at_builtin; refine R_append Kd.string (w0 := w) w.heap.size rfl (.tmp 28) (.tmp 33) 53 9 (.string ⟨#[]⟩) 16 rfl Tryz.underlying53 info9 rfl (by decide) (by omega) u7 x7_1 (a0.extract (x8_1 : Int).toNat (x9_1 : Int).toNat) [.string (a0.extract (x8_1 : Int).toNat (x9_1 : Int).toNat)] (fun _ => True) (fun _ => False) rfl rfl ?aP (fun _ hk => hk.elim) ?aF ?aO ?aB ?aS ?aL ?_; (case aP => exact rfl); (case aB => exact (bl HB)); (case aF => exact (fun _ _ => trivial)); (case aO => exact (ra HO_7)); (case aS => exact (below_size (bl HB))); (case aL => have := LMc17.out; omega); intro v732 w18 ho hb hg hat; rw [← Ny731.out] at ho; have n0_ := am (hb); have n1_ := am (ho); clear HB; clear HO_7; have HB := n0_; have HO733 := n1_; clear n0_ n1_; clear ho hb hg hat)
     go_roundg kj5
     case measure => have := HK1.out; have := HJ5.out; omega
     case rel => exact ⟨(y731), (wrap64 (x9_1 + 1)), (wrap64 (x9_1 + 1)), xR, xR, H', ⟨by have := HK1.out; have := HJ5.out; omega⟩, ⟨ra HO733⟩, ⟨bl HB⟩⟩
def spec_l9Words.f (k : Nat) (a0 : ByteArray) (a1 : ByteArray) : Option (List ByteArray × Bool) := (spec_l1Cut.f k a0 32 (a0.size : Int)).bind fun t => if 1 ≤ t.length then some (t.drop 1, (rdOf ByteArray.empty t 0).toList == a1.toList) else none
theorem spec_l9Words.calls (k : Nat) (a0 : ByteArray) (a1 : ByteArray) (r1 : List ByteArray) (r2 : Bool) (w : World) (h : spec_l9Words.f k a0 a1 = some (r1, r2)) :
  Calls Tryz.prog 36 #[.string a0, .string a1] w fun e w' => ∃ v0_ : Value, e = .returned (.tuple #[v0_, .bool r2]) ∧ Kd.Q Kd.string 9 w' w.heap.size (fun _ => True) v0_ r1 ∧ Below w.heap.size w w' := by
 unfold spec_l9Words.f at h
 obtain ⟨t, A, h⟩ := Option.bind_eq_some_iff.mp h
 by_cases h1 : 1 ≤ t.length
 rotate_left
 ·rw [if_neg h1] at h
  exact absurd h (by simp)
 rw [if_pos h1] at h
 simp only [Option.some.injEq, Prod.mk.injEq] at h
 obtain ⟨e1, rfl⟩ := h
 have AA := am A
 clear A
 go_enter Tryz.func36, Tryz.ntmps36
 go_wp2_with (go_at_call 35; refine (spec_l1Cut.calls k a0 32 (a0.size : Int) t _ AA.out).mono ?_; rintro e w4 ⟨v, rfl, ho, hb⟩; obtain ⟨Ao, co, eo⟩ := R_slice ho; subst eo; have HO := am ho; have HB := am hb; clear ho hb)
 obtain ⟨ad, ea, hx⟩ := at_string (R_reads' HO.out).2.2 0 (by omega) (by omega)
 subst ea
 obtain ⟨i0, hi0, _, hsz, _⟩ := info_parts info9
 have hcut := cut_from (P := Tryz.prog) 53 9 .i64 Tryz.underlying53 hi0 1 hsz (some ad) t.length co 1 (by omega) (by omega)
 have HQ := Q_drop (k := 1) (Q_of_R HO.out) h1
 rw [e1] at HQ
 obtain ⟨vv, hvv⟩ : ∃ vv : Value, vv = .slice (if co = 1 then some ad else (some ad).map (·.add (1 * 1))) (t.length - 1) (co - 1) := ⟨_, rfl⟩
 replace hcut : ∀ W : World, (Instr.slice 53 (.slice (some ad) t.length co) (some (.int .i64 1)) none none).run Tryz.prog W = .ok vv W := by rw [hvv]; exact hcut
 have HQ' := am (show Kd.Q Kd.string 9 w4 w.heap.size (fun _ => True) vv r1 from by rw [hvv]; exact HQ)
 clear HQ hvv e1
 (try rw [show ((0 : Int)).toNat = 0 from rfl] at hx)
 (try rw [Addr.add_zero'] at hx)
 have h0 : decide (0 < (t.length : Int)) = true := decide_eq_true (by omega)
 go_region
 go_wp2
 go_ret2
 exact ⟨_, rfl, Q_below HQ'.out (pw_below_drewN (Below.refl _ _) _), pw_below_drewN HB.out _⟩
def spec_l1Num.l0 : Nat → ByteArray → Int → Int → Option (Int)
 | 0, _, _, _ => none
 | k + 1, x0, x3, x4 => if x4 < (x0.size : Int) then (if 0 ≤ x4 then ((spec_l1Figure.f (bt x0 x4)).bind fun t737 => (if t737 = true then (if x4 ≥ 9 then (some (-1)) else (spec_l1Num.l0 k x0 (wrap64 ((wrap64 (x3 * 10)) + (((bt x0 x4) - 48) % 256))) (wrap64 (x4 + 1)))) else (some (-1)))) else (none)) else (if (x0.size : Int) = 0 then (some (-1)) else (if (x0.size : Int) > 1 then (if 0 < (x0.size : Int) then (if (bt x0 0) = 48 then (some (-1)) else (some x3)) else (none)) else (some x3)))
def spec_l1Num.f (k : Nat) (a0 : ByteArray) : Option (Int) := spec_l1Num.l0 k a0 0 0
theorem spec_l1Num.calls (k : Nat) (a0 : ByteArray) (r : Int) (w : World) (h : spec_l1Num.f k a0 = some r) :
  Calls Tryz.prog 38 #[.string a0] w fun e w' => e = .returned (.int .i64 r) ∧ Drawn0 w w' := by
 have H : (spec_l1Num.l0 k a0 0 0) = some r := h
 clear h
 have H' := am H
 clear H
 go_enter Tryz.func38, Tryz.ntmps38
 go_wp2
 go_loopg [3, 4] k (fun kq v3 v4 w' => ∃ (x3_1 : Int) (x4_1 : Int), v3 = .int .i64 x3_1 ∧ v4 = .int .i64 x4_1 ∧ Aside0 (spec_l1Num.l0 kq a0 x3_1 x4_1 = some r) ∧ Aside0 (kq ≤ k) ∧ Drawn0 w w')
 case atStart => exact ⟨(0), (0), xR, xR, H', ⟨Nat.le_refl _⟩, xW⟩
 case round =>
  clear H'
  obtain ⟨x3_1, x4_1, rfl, rfl, HA, HK1, ⟨m1, rfl⟩⟩ := hrel
  cases gk with
  | zero => exact absurd HA.out (by simp [spec_l1Num.l0])
  | succ k1 =>
   have H := HA.out
   clear HA
   simp only [spec_l1Num.l0] at H
   by_cases c2 : x4_1 < (a0.size : Int)
   rotate_left
   ·rw [if_neg c2] at H
    have c2b0 := df c2
    clear c2
    by_cases c9 : (a0.size : Int) = 0
    ·rw [if_pos c9] at H
     have c9b0 := beq_iff_eq.mpr c9
     have c9b1 := bne_eq_false_iff_eq.mpr c9
     clear c9
     obtain rfl := oI H
     go_wp2
     go_ret
     exact ⟨xR, xW⟩
    rw [if_neg c9] at H
    have c9b0 := beq_eq_false_iff_ne.mpr c9
    have c9b1 := bne_iff_ne.mpr c9
    by_cases c10 : (a0.size : Int) > 1
    rotate_left
    ·rw [if_neg c10] at H
     have c10b0 := df c10
     have c10b1 : decide (1 < a0.size) = false := decide_eq_false (by omega)
     clear c10
     obtain rfl := oI H
     go_wp2
     go_ret
     exact ⟨xR, xW⟩
    rw [if_pos c10] at H
    have c10b0 := dt c10
    have c10b1 : decide (1 < a0.size) = true := dt (by omega)
    clear c10
    replace ⟨c11, H⟩ := ip H
    have c11b0 := dt c11
    have c11b1 : decide (0 < a0.size) = true := dt (by omega)
    clear c11
    have p12 : 0 ≤ (0 : Int) := (by omega)
    have q12 : 0 < a0.size := (by have : (0 : Int) < (a0.size : Int) := oX; omega)
    have hx12 : ∀ h : 0 < a0.size, ((a0[0]'h).toNat : Int) = bt a0 0 := bt_at a0 0
    clear p12
    have qi12 : (0 < (a0.size : Int)) = True := eq_true (oX)
    replace q12 := eq_true q12
    by_cases c13 : (bt a0 0) = 48
    rotate_left
    ·rw [if_neg c13] at H
     have c13b0 := beq_eq_false_iff_ne.mpr c13
     have c13b1 := bne_iff_ne.mpr c13
     obtain rfl := oI H
     go_wp2
     go_ret
     exact ⟨xR, xW⟩
    rw [if_pos c13] at H
    have c13b0 := beq_iff_eq.mpr c13
    have c13b1 := bne_eq_false_iff_eq.mpr c13
    clear c13
    obtain rfl := oI H
    go_wp2
    go_ret
    exact ⟨xR, xW⟩
   rw [if_pos c2] at H
   have c2b0 := dt c2
   clear c2
   replace ⟨c3b0, H⟩ := ipd H
   replace ⟨t737, A5, H⟩ := oa H
   by_cases c6 : t737 = true
   rotate_left
   ·replace c6 := bF c6
    subst c6
    rw [if_neg nF] at H
    obtain rfl := oI H
    have p4 : 0 ≤ (x4_1 : Int) := oX
    have q4 : x4_1 < (a0.size : Int) := oX
    have hx4 := bt_at a0 x4_1
    replace ⟨p4, q4⟩ := eT p4 q4
    go_wp2_with ((with_reducible refine gg ?_); refine gL 14 Tryz.func68 #[.int .u8 (bt a0 x4_1)] ?_; (with_reducible refine (spec_l1Figure.calls (bt a0 x4_1) false _ A5.out).mono ?_); rintro e w' ⟨rfl, ⟨nd, rfl⟩⟩; refine ⟨_, rfl, ?_⟩)
    go_ret
    exact ⟨xR, xW⟩
   subst c6
   rw [if_pos rfl] at H
   have p4 : 0 ≤ (x4_1 : Int) := oX
   have q4 : x4_1 < (a0.size : Int) := oX
   have hx4 := bt_at a0 x4_1
   replace ⟨p4, q4⟩ := eT p4 q4
   go_upto_if 19 with ((with_reducible refine gg ?_); refine gL 14 Tryz.func68 #[.int .u8 (bt a0 x4_1)] ?_; (with_reducible refine (spec_l1Figure.calls (bt a0 x4_1) true _ A5.out).mono ?_); rintro e w' ⟨rfl, ⟨nd, rfl⟩⟩; refine ⟨_, rfl, ?_⟩)
   by_cases c7 : x4_1 ≥ 9
   ·rw [if_pos c7] at H
    have c7b0 := dt c7
    try simp only [c7b0, Bool.not_true, Bool.not_false]
    clear c7
    obtain rfl := oI H
    go_wp2
    go_ret
    exact ⟨xR, xW⟩
   rw [if_neg c7] at H
   have c7b0 := df c7
   try simp only [c7b0, Bool.not_true, Bool.not_false]
   clear c7
   have H' := am H
   clear H
   have p8 : 0 ≤ (x4_1 : Int) := oX
   have q8 : x4_1 < (a0.size : Int) := oX
   have hx8 := bt_at a0 x4_1
   replace ⟨p8, q8⟩ := eT p8 q8
   go_wp2
   go_roundg k1
   case measure => have := HK1.out; omega
   case rel => exact ⟨(wrap64 ((wrap64 (x3_1 * 10)) + (((bt a0 x4_1) - 48) % 256))), (wrap64 (x4_1 + 1)), xR, xR, H', ⟨xL HK1⟩, xW⟩
open Kd
set_option linter.unusedVariables false
set_option linter.unusedSimpArgs false
set_option maxHeartbeats 64000000
set_option maxRecDepth 100000
def spec_HeadGet.f (k : Nat) (a0 : ByteArray) : Option (ByteArray × ByteArray × Int × Int × Int × Bool) := (spec_l1Cut.f k a0 32 5).bind fun t739 => (if (t739.length : Int) = 5 then (if 0 < (t739.length : Int) then (if 1 < (t739.length : Int) then (if 2 < (t739.length : Int) then ((spec_l1Num.f k (rdOf ByteArray.empty t739 2)).bind fun t745 => (if 3 < (t739.length : Int) then ((spec_l1Num.f k (rdOf ByteArray.empty t739 3)).bind fun t747 => (if 4 < (t739.length : Int) then ((spec_l1Num.f k (rdOf ByteArray.empty t739 4)).bind fun t749 => ((spec_l3Ok.f k (rdOf ByteArray.empty t739 0) (rdOf ByteArray.empty t739 1) t745 t747 t749).bind fun t751 => (if t751 = true then ((spec_l3Put.f k (rdOf ByteArray.empty t739 0) (rdOf ByteArray.empty t739 1) t745 t747 t749).bind fun t752 => (if t752.toList = a0.toList then (some (rdOf ByteArray.empty t739 0, rdOf ByteArray.empty t739 1, t745, t747, t749, true)) else (some ((⟨#[]⟩ : ByteArray), (⟨#[]⟩ : ByteArray), 0, 0, 0, false)))) else (some ((⟨#[]⟩ : ByteArray), (⟨#[]⟩ : ByteArray), 0, 0, 0, false))))) else (none))) else (none))) else (none)) else (none)) else (none)) else (some ((⟨#[]⟩ : ByteArray), (⟨#[]⟩ : ByteArray), 0, 0, 0, false)))
def spec_HeadGet.T4 : Bool × List (List Nat × List Nat) := (true, [([], []), ([0], [0]), ([1], [1]), ([], []), ([3], [3]), ([4], [4]), ([], []), ([6], [6]), ([7], [7]), ([8], [8]), ([], []), ([10], [10]), ([11], [11]), ([12, 9], [12]), ([], []), ([14], [14]), ([15], [15]), ([16, 13], [16]), ([2, 5, 9, 13, 17], [2, 5, 9, 13, 17]), ([], []), ([19, 18, 17, 0, 1, 2, 3, 4, 5, 6, 7, 8, 9, 10, 11, 12, 13, 14, 15, 16, 17, 18, 19], [18, 19])])
def spec_HeadGet.B4 : List Nat := [0, 1, 3, 0, 8, 24, 0, 64, 192, 448, 0, 1024, 3072, 8128, 0, 16384, 49152, 131008, 262143, 0, 1048575]
theorem spec_HeadGet.tab4 : rtab .any (opsOf Tryz.f37 4) = spec_HeadGet.T4 := by kernel_rfl
theorem spec_HeadGet.bits4 : waitsOk spec_HeadGet.T4.2 spec_HeadGet.B4 = true := by kernel_rfl
theorem spec_HeadGet.calls (k : Nat) (a0 : ByteArray) (r1 : ByteArray) (r2 : ByteArray) (r3 : Int) (r4 : Int) (r5 : Int) (r6 : Bool) (w : World) (h : spec_HeadGet.f k a0 = some (r1, r2, r3, r4, r5, r6)) :
  Calls Tryz.prog 37 #[.string a0] w fun e w' => e = .returned (.tuple #[.agg #[.string r1, .string r2, .int .i64 r3, .int .i64 r4, .int .i64 r5], .bool r6]) ∧ Below w.heap.size w w' := by
 have hu24 := Tryz.underlying24
 have HB := am (Below.refl w.heap.size w)
 have H : ((spec_l1Cut.f k a0 32 5).bind fun t739 => (if (t739.length : Int) = 5 then (if 0 < (t739.length : Int) then (if 1 < (t739.length : Int) then (if 2 < (t739.length : Int) then ((spec_l1Num.f k (rdOf ByteArray.empty t739 2)).bind fun t745 => (if 3 < (t739.length : Int) then ((spec_l1Num.f k (rdOf ByteArray.empty t739 3)).bind fun t747 => (if 4 < (t739.length : Int) then ((spec_l1Num.f k (rdOf ByteArray.empty t739 4)).bind fun t749 => ((spec_l3Ok.f k (rdOf ByteArray.empty t739 0) (rdOf ByteArray.empty t739 1) t745 t747 t749).bind fun t751 => (if t751 = true then ((spec_l3Put.f k (rdOf ByteArray.empty t739 0) (rdOf ByteArray.empty t739 1) t745 t747 t749).bind fun t752 => (if t752.toList = a0.toList then (some (rdOf ByteArray.empty t739 0, rdOf ByteArray.empty t739 1, t745, t747, t749, true)) else (some ((⟨#[]⟩ : ByteArray), (⟨#[]⟩ : ByteArray), 0, 0, 0, false)))) else (some ((⟨#[]⟩ : ByteArray), (⟨#[]⟩ : ByteArray), 0, 0, 0, false))))) else (none))) else (none))) else (none)) else (none)) else (none)) else (some ((⟨#[]⟩ : ByteArray), (⟨#[]⟩ : ByteArray), 0, 0, 0, false)))) = some (r1, r2, r3, r4, r5, r6) := h
 clear h
 replace ⟨t739, A2, H⟩ := oa H
 go_enter Tryz.func37, Tryz.ntmps37
 go_upto_if 10 with ((with_reducible refine gg ?_); first | (refine bE 2 #[.string (⟨#[]⟩ : ByteArray), .string (⟨#[]⟩ : ByteArray), .int .i64 0, .int .i64 0, .int .i64 0] 24 ?_; intro gb738 hg w16 hbox hb; have BK738 := am (hbox); have GW738 := zB hg HB; have GE738 := zB hg HB; replace HB := kH HB hb; clear hb hbox hg) | (refine gL 7 Tryz.func35 #[.string a0, .int .u8 32, .int .i64 5] ?_; (with_reducible refine (spec_l1Cut.calls k a0 32 5 t739 _ A2.out).mono ?_); rintro e w17 ⟨v740, rfl, ho0, hb⟩; refine ⟨_, rfl, ?_⟩; have HO741 := am (R_lower ho0 (below_size (xB HB))); replace BK738 := kP _ BK738 hb; replace HB := kH HB hb; (try clear hb); (try clear ho0); obtain ⟨Ao18, co18, rfl⟩ := R_slice HO741.out))
 by_cases c3 : (t739.length : Int) = 5
 rotate_left
 ·rw [if_neg c3] at H
  have c3b0 := beq_eq_false_iff_ne.mpr c3
  have c3b1 := bne_iff_ne.mpr c3
  try simp only [c3b0, c3b1, Bool.not_true, Bool.not_false]
  simp only [Option.some.injEq, Prod.mk.injEq] at H
  obtain ⟨rfl, rfl, rfl, rfl, rfl, rfl⟩ := H
  have hz69 := bc5 BK738
  go_wp2
  refine bodyPost_ret (results_ct rfl _ _ gb738 24 #[.string (⟨#[]⟩ : ByteArray), .string (⟨#[]⟩ : ByteArray), .int .i64 0, .int .i64 0, .int .i64 0] (0, 0) _ rfl (fb BK738) Tryz.underlying24 rfl (by kernel_rfl)) rfl ?_
  exact ⟨xE, xB HB⟩
 rw [if_pos c3] at H
 have c3b0 := beq_iff_eq.mpr c3
 have c3b1 := bne_eq_false_iff_eq.mpr c3
 try simp only [c3b0, c3b1, Bool.not_true, Bool.not_false]
 clear c3
 replace ⟨c4, H⟩ := ip H
 have c4b0 := dt c4
 have c4b1 : decide (0 < t739.length) = true := dt (by omega)
 clear c4
 replace ⟨c5, H⟩ := ip H
 have c5b0 := dt c5
 have c5b1 : decide (1 < t739.length) = true := dt (by omega)
 clear c5
 replace ⟨c6, H⟩ := ip H
 have c6b0 := dt c6
 have c6b1 : decide (2 < t739.length) = true := dt (by omega)
 clear c6
 replace ⟨t745, A7, H⟩ := oa H
 replace ⟨c8, H⟩ := ip H
 have c8b0 := dt c8
 have c8b1 : decide (3 < t739.length) = true := dt (by omega)
 clear c8
 replace ⟨t747, A9, H⟩ := oa H
 replace ⟨c10, H⟩ := ip H
 have c10b0 := dt c10
 have c10b1 : decide (4 < t739.length) = true := dt (by omega)
 clear c10
 replace ⟨t749, A11, H⟩ := oa H
 replace ⟨t751, A12, H⟩ := oa H
 try go_wp2
 replace HO741 := am (R_drew HO741.out)
 replace BK738 := am (blk_drew BK738.out)
 replace HB := am (below_drew1 HB.out)
 have p742 : 0 ≤ (0 : Int) := (by omega)
 have q742 : 0 < (t739.length : Int) := oX
 obtain ⟨ad742, e742, hx742_0⟩ := at_string (R_reads' HO741.out).2.2 0 p742 q742
 cases e742
 have qi742 : (0 < t739.length) = True := eq_true (by omega)
 (try rw [show ((0 : Int)).toNat = 0 from rfl] at hx742_0)
 (try rw [Addr.add_zero'] at hx742_0)
 replace ⟨p742, q742⟩ := eT p742 q742
 have p743 : 0 ≤ (1 : Int) := (by omega)
 have q743 : 1 < (t739.length : Int) := oX
 obtain ⟨ad743, e743, hx743_0⟩ := at_string (R_reads' HO741.out).2.2 1 p743 q743
 obtain rfl : ad742 = ad743 := (by injection e743)
 (try simp only [show (1 : Int).toNat = 1 from rfl, Nat.reduceMul, Nat.reduceEqDiff, Go.Addr.add, ↓reduceIte] at hx743_0)
 have qi743 : (1 < t739.length) = True := eq_true (by omega)
 (try rw [show ((1 : Int)).toNat = 1 from rfl] at hx743_0)
 replace ⟨p743, q743⟩ := eT p743 q743
 have p744 : 0 ≤ (2 : Int) := (by omega)
 have q744 : 2 < (t739.length : Int) := oX
 obtain ⟨ad744, e744, hx744_0⟩ := at_string (R_reads' HO741.out).2.2 2 p744 q744
 obtain rfl : ad742 = ad744 := (by injection e744)
 (try simp only [show (2 : Int).toNat = 2 from rfl, Nat.reduceMul, Nat.reduceEqDiff, Go.Addr.add, ↓reduceIte] at hx744_0)
 have qi744 : (2 < t739.length) = True := eq_true (by omega)
 (try rw [show ((2 : Int)).toNat = 2 from rfl] at hx744_0)
 replace ⟨p744, q744⟩ := eT p744 q744
 have p746 : 0 ≤ (3 : Int) := (by omega)
 have q746 : 3 < (t739.length : Int) := oX
 obtain ⟨ad746, e746, hx746_0⟩ := at_string (R_reads' HO741.out).2.2 3 p746 q746
 obtain rfl : ad742 = ad746 := (by injection e746)
 (try simp only [show (3 : Int).toNat = 3 from rfl, Nat.reduceMul, Nat.reduceEqDiff, Go.Addr.add, ↓reduceIte] at hx746_0)
 have qi746 : (3 < t739.length) = True := eq_true (by omega)
 (try rw [show ((3 : Int)).toNat = 3 from rfl] at hx746_0)
 replace ⟨p746, q746⟩ := eT p746 q746
 have p748 : 0 ≤ (4 : Int) := (by omega)
 have q748 : 4 < (t739.length : Int) := oX
 obtain ⟨ad748, e748, hx748_0⟩ := at_string (R_reads' HO741.out).2.2 4 p748 q748
 obtain rfl : ad742 = ad748 := (by injection e748)
 (try simp only [show (4 : Int).toNat = 4 from rfl, Nat.reduceMul, Nat.reduceEqDiff, Go.Addr.add, ↓reduceIte] at hx748_0)
 have qi748 : (4 < t739.length) = True := eq_true (by omega)
 (try rw [show ((4 : Int)).toNat = 4 from rfl] at hx748_0)
 replace ⟨p748, q748⟩ := eT p748 q748
 refine start_ (n := 21) (S := fun w' => w'.cell? ad742 = some (.string (rdOf ByteArray.empty t739 0)) ∧ w'.cell? ⟨ad742.block, ad742.off + 1, none⟩ = some (.string (rdOf ByteArray.empty t739 1)) ∧ w'.cell? ⟨ad742.block, ad742.off + 2, none⟩ = some (.string (rdOf ByteArray.empty t739 2)) ∧ w'.cell? ⟨ad742.block, ad742.off + 3, none⟩ = some (.string (rdOf ByteArray.empty t739 3)) ∧ w'.cell? ⟨ad742.block, ad742.off + 4, none⟩ = some (.string (rdOf ByteArray.empty t739 4))) (ds := []) (bm 21 0) (by kernel_rfl) rfl rfl ⟨hx742_0, hx743_0, hx744_0, hx746_0, hx748_0⟩ (fun hHeld => ?_); refine with_tabW spec_HeadGet.tab4 spec_HeadGet.bits4 (fun HT_ HW_ => ?_)
 generalize w17.drew = w19 at HO741 BK738 HB hx742_0 hx743_0 hx744_0 hx746_0 hx748_0 hHeld ⊢
 refine pA 0 12 (bm 21 1) HT_ ?_
 refine pA 1 13 (bm 21 3) HT_ ?_
 refine pA 3 15 (bm 21 11) HT_ ?_
 refine pA 4 16 (bm 21 27) HT_ ?_
 refine pA 6 18 (bm 21 91) HT_ ?_
 refine pA 7 19 (bm 21 219) HT_ ?_
 refine pA 10 22 (bm 21 1243) HT_ ?_
 refine pA 11 23 (bm 21 3291) HT_ ?_
 refine pA 14 26 (bm 21 19675) HT_ ?_
 refine pA 15 27 (bm 21 52443) HT_ ?_
 refine tA 2 14 (bm 21 52447) HT_ HW_ hHeld ?_
 refine tA 5 17 (bm 21 52479) HT_ HW_ hHeld ?_
 refine tA 8 20 (bm 21 52735) HT_ HW_ hHeld ?_
 refine tA 12 24 (bm 21 56831) HT_ HW_ hHeld ?_
 refine tA 16 28 (bm 21 122367) HT_ HW_ hHeld ?_
 refine join_ (σ := Nat) 1 (bm 21 1048575) (fun s_ => [(21, .int .i64 t745), (25, .int .i64 t747), (29, .int .i64 t749), (5, .pointer (some ⟨s_, 0, none⟩)), (30, .agg #[.string (rdOf ByteArray.empty t739 0), .string (rdOf ByteArray.empty t739 1), .int .i64 t745, .int .i64 t747, .int .i64 t749])]) (fun s_ w' => (w'.cell? ad742 = some (.string (rdOf ByteArray.empty t739 0)) ∧ w'.cell? ⟨ad742.block, ad742.off + 1, none⟩ = some (.string (rdOf ByteArray.empty t739 1)) ∧ w'.cell? ⟨ad742.block, ad742.off + 2, none⟩ = some (.string (rdOf ByteArray.empty t739 2)) ∧ w'.cell? ⟨ad742.block, ad742.off + 3, none⟩ = some (.string (rdOf ByteArray.empty t739 3)) ∧ w'.cell? ⟨ad742.block, ad742.off + 4, none⟩ = some (.string (rdOf ByteArray.empty t739 4))) ∧ (Kd.R Kd.string 9 w' w.heap.size (fun _ => True) (.slice (some ad742) t739.length co18) t739) ∧ (w'.heap[gb738]? = some (.cells #[.string (⟨#[]⟩ : ByteArray), .string (⟨#[]⟩ : ByteArray), .int .i64 0, .int .i64 0, .int .i64 0] 24 (0, 0))) ∧ (w'.heap[s_]? = some (.cells #[.string (⟨#[]⟩ : ByteArray), .string (⟨#[]⟩ : ByteArray), .int .i64 0, .int .i64 0, .int .i64 0] 24 (0, 0))) ∧ (w.heap.size ≤ s_) ∧ (w.heap.size ≤ s_) ∧ (gb738 ≠ s_) ∧ (s_ ≠ gb738) ∧ (Below w.heap.size w w')) ?_ ?_
 rotate_left
 ·intro hCont
  refine two_ (i := 9) (j := 19) (Ni := some 21) (Nj := some 5) (bm 21 122879) (bm 21 646655) rfl rfl rfl rfl (two_of HT_.out (by kernel_rfl)) (by decide) (by decide) (fun K hK => ?_) (fun K hK => ?_)
  ·skip
   refine gA Tryz.func38 #[.string (rdOf ByteArray.empty t739 2)] ?_
   with_reducible refine (spec_l1Num.calls k (rdOf ByteArray.empty t739 2) t745 _ A7.out).mono ?_
   rintro e w' ⟨rfl, ⟨nd, rfl⟩⟩
   refine ⟨_, rfl, ?_⟩
   refine hK.out _ _ ⟨hHeld.1, hHeld.2.1, hHeld.2.2.1, hHeld.2.2.2.1, hHeld.2.2.2.2⟩ (fun hHeld => ?_)
   clear hK K
   refine nA (some 21) ?_
   refine two_ (i := 13) (j := 19) (Ni := some 25) (Nj := some 5) (bm 21 131071) (bm 21 647167) rfl rfl rfl rfl (two_of HT_.out (by kernel_rfl)) (by decide) (by decide) (fun K hK => ?_) (fun K hK => ?_)
   ·skip
    refine gA Tryz.func38 #[.string (rdOf ByteArray.empty t739 3)] ?_
    with_reducible refine (spec_l1Num.calls k (rdOf ByteArray.empty t739 3) t747 _ A9.out).mono ?_
    rintro e w' ⟨rfl, ⟨nd, rfl⟩⟩
    refine ⟨_, rfl, ?_⟩
    refine hK.out _ _ ⟨hHeld.1, hHeld.2.1, hHeld.2.2.1, hHeld.2.2.2.1, hHeld.2.2.2.2⟩ (fun hHeld => ?_)
    clear hK K
    refine nA (some 25) ?_
    refine two_ (i := 17) (j := 19) (Ni := some 29) (Nj := some 5) (bm 21 262143) (bm 21 655359) rfl rfl rfl rfl (two_of HT_.out (by kernel_rfl)) (by decide) (by decide) (fun K hK => ?_) (fun K hK => ?_)
    ·skip
     refine gA Tryz.func38 #[.string (rdOf ByteArray.empty t739 4)] ?_
     with_reducible refine (spec_l1Num.calls k (rdOf ByteArray.empty t739 4) t749 _ A11.out).mono ?_
     rintro e w' ⟨rfl, ⟨nd, rfl⟩⟩
     refine ⟨_, rfl, ?_⟩
     refine hK.out _ _ ⟨hHeld.1, hHeld.2.1, hHeld.2.2.1, hHeld.2.2.2.1, hHeld.2.2.2.2⟩ (fun hHeld => ?_)
     clear hK K
     refine nA (some 29) ?_
     refine pA 18 30 (bm 21 524287) HT_ ?_
     refine oA 19 (some 5) (bm 21 1048575) HT_ fun K hK => ?_
     refine bS 5 #[.string (⟨#[]⟩ : ByteArray), .string (⟨#[]⟩ : ByteArray), .int .i64 0, .int .i64 0, .int .i64 0] 24 ?_
     intro gb750 hg w20 hbox hb
     have HS0_ := cB hb hHeld.1
     have HS1_ := cB hb hHeld.2.1
     have HS2_ := cB hb hHeld.2.2.1
     have HS3_ := cB hb hHeld.2.2.2.1
     have HS4_ := cB hb hHeld.2.2.2.2
     replace HO741 := rk HO741 hb
     have BK750 := am (hbox)
     have GW750 := zB hg HB
     have GE750 := zB hg HB
     replace HB := kH HB hb
     have NB738_750 := nl hg (kb BK738)
     have NB750_738 := ng hg (kb BK738)
     replace BK738 := kP _ BK738 hb
     clear hb hbox hg
     refine hK.out _ _ ⟨HS0_, HS1_, HS2_, HS3_, HS4_⟩ (fun hHeld => ?_)
     clear hK K
     refine nA (some 5) ?_
     exact norm_ (by simp only [putAll, Act.put, sa, s0, s1]) (hCont (gb750) _ ⟨hHeld, (ra HO741), (kb BK738), (kb BK750), GW750.out, GE750.out, NB738_750.out, NB750_738.out, (xB HB)⟩)
    ·skip
     refine bS 5 #[.string (⟨#[]⟩ : ByteArray), .string (⟨#[]⟩ : ByteArray), .int .i64 0, .int .i64 0, .int .i64 0] 24 ?_
     intro gb750 hg w20 hbox hb
     have HS0_ := cB hb hHeld.1
     have HS1_ := cB hb hHeld.2.1
     have HS2_ := cB hb hHeld.2.2.1
     have HS3_ := cB hb hHeld.2.2.2.1
     have HS4_ := cB hb hHeld.2.2.2.2
     replace HO741 := rk HO741 hb
     have BK750 := am (hbox)
     have GW750 := zB hg HB
     have GE750 := zB hg HB
     replace HB := kH HB hb
     have NB738_750 := nl hg (kb BK738)
     have NB750_738 := ng hg (kb BK738)
     replace BK738 := kP _ BK738 hb
     clear hb hbox hg
     refine hK.out _ _ ⟨HS0_, HS1_, HS2_, HS3_, HS4_⟩ (fun hHeld => ?_)
     clear hK K
     refine nA (some 5) ?_
     refine oA 17 (some 29) (bm 21 786431) HT_ fun K hK => ?_
     refine gA Tryz.func38 #[.string (rdOf ByteArray.empty t739 4)] ?_
     with_reducible refine (spec_l1Num.calls k (rdOf ByteArray.empty t739 4) t749 _ A11.out).mono ?_
     rintro e w' ⟨rfl, ⟨nd, rfl⟩⟩
     refine ⟨_, rfl, ?_⟩
     refine hK.out _ _ ⟨hHeld.1, hHeld.2.1, hHeld.2.2.1, hHeld.2.2.2.1, hHeld.2.2.2.2⟩ (fun hHeld => ?_)
     clear hK K
     refine nA (some 29) ?_
     refine pA 18 30 (bm 21 1048575) HT_ ?_
     exact norm_ (by simp only [putAll, Act.put, sa, s0, s1]) (hCont (gb750) _ ⟨hHeld, (ra HO741), (kb BK738), (kb BK750), GW750.out, GE750.out, NB738_750.out, NB750_738.out, (xB HB)⟩)
   ·skip
    refine bS 5 #[.string (⟨#[]⟩ : ByteArray), .string (⟨#[]⟩ : ByteArray), .int .i64 0, .int .i64 0, .int .i64 0] 24 ?_
    intro gb750 hg w20 hbox hb
    have HS0_ := cB hb hHeld.1
    have HS1_ := cB hb hHeld.2.1
    have HS2_ := cB hb hHeld.2.2.1
    have HS3_ := cB hb hHeld.2.2.2.1
    have HS4_ := cB hb hHeld.2.2.2.2
    replace HO741 := rk HO741 hb
    have BK750 := am (hbox)
    have GW750 := zB hg HB
    have GE750 := zB hg HB
    replace HB := kH HB hb
    have NB738_750 := nl hg (kb BK738)
    have NB750_738 := ng hg (kb BK738)
    replace BK738 := kP _ BK738 hb
    clear hb hbox hg
    refine hK.out _ _ ⟨HS0_, HS1_, HS2_, HS3_, HS4_⟩ (fun hHeld => ?_)
    clear hK K
    refine nA (some 5) ?_
    refine oA 13 (some 25) (bm 21 655359) HT_ fun K hK => ?_
    refine gA Tryz.func38 #[.string (rdOf ByteArray.empty t739 3)] ?_
    with_reducible refine (spec_l1Num.calls k (rdOf ByteArray.empty t739 3) t747 _ A9.out).mono ?_
    rintro e w' ⟨rfl, ⟨nd, rfl⟩⟩
    refine ⟨_, rfl, ?_⟩
    refine hK.out _ _ ⟨hHeld.1, hHeld.2.1, hHeld.2.2.1, hHeld.2.2.2.1, hHeld.2.2.2.2⟩ (fun hHeld => ?_)
    clear hK K
    refine nA (some 25) ?_
    refine oA 17 (some 29) (bm 21 786431) HT_ fun K hK => ?_
    refine gA Tryz.func38 #[.string (rdOf ByteArray.empty t739 4)] ?_
    with_reducible refine (spec_l1Num.calls k (rdOf ByteArray.empty t739 4) t749 _ A11.out).mono ?_
    rintro e w' ⟨rfl, ⟨nd, rfl⟩⟩
    refine ⟨_, rfl, ?_⟩
    refine hK.out _ _ ⟨hHeld.1, hHeld.2.1, hHeld.2.2.1, hHeld.2.2.2.1, hHeld.2.2.2.2⟩ (fun hHeld => ?_)
    clear hK K
    refine nA (some 29) ?_
    refine pA 18 30 (bm 21 1048575) HT_ ?_
    exact norm_ (by simp only [putAll, Act.put, sa, s0, s1]) (hCont (gb750) _ ⟨hHeld, (ra HO741), (kb BK738), (kb BK750), GW750.out, GE750.out, NB738_750.out, NB750_738.out, (xB HB)⟩)
  ·skip
   refine bS 5 #[.string (⟨#[]⟩ : ByteArray), .string (⟨#[]⟩ : ByteArray), .int .i64 0, .int .i64 0, .int .i64 0] 24 ?_
   intro gb750 hg w20 hbox hb
   have HS0_ := cB hb hHeld.1
   have HS1_ := cB hb hHeld.2.1
   have HS2_ := cB hb hHeld.2.2.1
   have HS3_ := cB hb hHeld.2.2.2.1
   have HS4_ := cB hb hHeld.2.2.2.2
   replace HO741 := rk HO741 hb
   have BK750 := am (hbox)
   have GW750 := zB hg HB
   have GE750 := zB hg HB
   replace HB := kH HB hb
   have NB738_750 := nl hg (kb BK738)
   have NB750_738 := ng hg (kb BK738)
   replace BK738 := kP _ BK738 hb
   clear hb hbox hg
   refine hK.out _ _ ⟨HS0_, HS1_, HS2_, HS3_, HS4_⟩ (fun hHeld => ?_)
   clear hK K
   refine nA (some 5) ?_
   refine oA 9 (some 21) (bm 21 647167) HT_ fun K hK => ?_
   refine gA Tryz.func38 #[.string (rdOf ByteArray.empty t739 2)] ?_
   with_reducible refine (spec_l1Num.calls k (rdOf ByteArray.empty t739 2) t745 _ A7.out).mono ?_
   rintro e w' ⟨rfl, ⟨nd, rfl⟩⟩
   refine ⟨_, rfl, ?_⟩
   refine hK.out _ _ ⟨hHeld.1, hHeld.2.1, hHeld.2.2.1, hHeld.2.2.2.1, hHeld.2.2.2.2⟩ (fun hHeld => ?_)
   clear hK K
   refine nA (some 21) ?_
   refine oA 13 (some 25) (bm 21 655359) HT_ fun K hK => ?_
   refine gA Tryz.func38 #[.string (rdOf ByteArray.empty t739 3)] ?_
   with_reducible refine (spec_l1Num.calls k (rdOf ByteArray.empty t739 3) t747 _ A9.out).mono ?_
   rintro e w' ⟨rfl, ⟨nd, rfl⟩⟩
   refine ⟨_, rfl, ?_⟩
   refine hK.out _ _ ⟨hHeld.1, hHeld.2.1, hHeld.2.2.1, hHeld.2.2.2.1, hHeld.2.2.2.2⟩ (fun hHeld => ?_)
   clear hK K
   refine nA (some 25) ?_
   refine oA 17 (some 29) (bm 21 786431) HT_ fun K hK => ?_
   refine gA Tryz.func38 #[.string (rdOf ByteArray.empty t739 4)] ?_
   with_reducible refine (spec_l1Num.calls k (rdOf ByteArray.empty t739 4) t749 _ A11.out).mono ?_
   rintro e w' ⟨rfl, ⟨nd, rfl⟩⟩
   refine ⟨_, rfl, ?_⟩
   refine hK.out _ _ ⟨hHeld.1, hHeld.2.1, hHeld.2.2.1, hHeld.2.2.2.1, hHeld.2.2.2.2⟩ (fun hHeld => ?_)
   clear hK K
   refine nA (some 29) ?_
   refine pA 18 30 (bm 21 1048575) HT_ ?_
   exact norm_ (by simp only [putAll, Act.put, sa, s0, s1]) (hCont (gb750) _ ⟨hHeld, (ra HO741), (kb BK738), (kb BK750), GW750.out, GE750.out, NB738_750.out, NB750_738.out, (xB HB)⟩)
 rintro gb750 w21 ⟨hS_, h0_, h1_, h2_, h3_, h4_, h5_, h6_, h7_⟩
 try dsimp only at h0_ h1_ h2_ h3_ h4_ h5_ h6_ h7_
 have n0_ := am h0_
 have n1_ := am h1_
 have n2_ := am h2_
 have n3_ := am h3_
 have n4_ := am h4_
 have n5_ := am h5_
 have n6_ := am h6_
 have n7_ := am h7_
 clear HO741
 clear BK738
 clear HB
 clear h0_ h1_ h2_ h3_ h4_ h5_ h6_ h7_
 have HO741 := n0_
 have BK738 := n1_
 have BK750 := n2_
 have GW750 := n3_
 have GE750 := n4_
 have NB738_750 := n5_
 have NB750_738 := n6_
 have HB := n7_
 clear n0_ n1_ n2_ n3_ n4_ n5_ n6_ n7_
 have hHeld : w21.cell? ad742 = some (.string (rdOf ByteArray.empty t739 0)) ∧ w21.cell? ⟨ad742.block, ad742.off + 1, none⟩ = some (.string (rdOf ByteArray.empty t739 1)) ∧ w21.cell? ⟨ad742.block, ad742.off + 2, none⟩ = some (.string (rdOf ByteArray.empty t739 2)) ∧ w21.cell? ⟨ad742.block, ad742.off + 3, none⟩ = some (.string (rdOf ByteArray.empty t739 3)) ∧ w21.cell? ⟨ad742.block, ad742.off + 4, none⟩ = some (.string (rdOf ByteArray.empty t739 4)) := hS_
 refine norm_ (a' := ?_) ?_ ?_
 rotate_left
 ·simp only [putAll, Act.put, sa, s0, s1]
  rfl
 refine oA 20 none (bm 21 2097151) HT_ fun K hK => ?_
 have hs22 : w21.cell? ⟨gb750, 0, none⟩ = some (.string (⟨#[]⟩ : ByteArray)) := (blk_cell BK750.out 0).trans rfl
 have hfs22 := blk_frozen BK750.out 0
 have hns22_0 := NB738_750.out
 have hms22_0 := NB750_738.out
 have hs23 : w21.cell? ⟨gb750, 1, none⟩ = some (.string (⟨#[]⟩ : ByteArray)) := (blk_cell BK750.out 1).trans rfl
 have hfs23 := blk_frozen BK750.out 1
 have hns23_0 := NB738_750.out
 have hms23_0 := NB750_738.out
 have hs24 : w21.cell? ⟨gb750, 2, none⟩ = some (.int .i64 0) := (blk_cell BK750.out 2).trans rfl
 have hfs24 := blk_frozen BK750.out 2
 have hns24_0 := NB738_750.out
 have hms24_0 := NB750_738.out
 have hs25 : w21.cell? ⟨gb750, 3, none⟩ = some (.int .i64 0) := (blk_cell BK750.out 3).trans rfl
 have hfs25 := blk_frozen BK750.out 3
 have hns25_0 := NB738_750.out
 have hms25_0 := NB750_738.out
 have hs26 : w21.cell? ⟨gb750, 4, none⟩ = some (.int .i64 0) := (blk_cell BK750.out 4).trans rfl
 have hfs26 := blk_frozen BK750.out 4
 have hns26_0 := NB738_750.out
 have hms26_0 := NB750_738.out
 refine skip_ (w1 := ?_) (by rfl) rfl ?_ ?_
 rotate_left
 ·go_simp
  rfl
 have hne_ := own_blk (R_ne HO741.out BK750.out (by decide))
 refine hK.out _ _ ⟨(cf hne_ hHeld.1), (cf hne_ hHeld.2.1), (cf hne_ hHeld.2.2.1), (cf hne_ hHeld.2.2.2.1), (cf hne_ hHeld.2.2.2.2)⟩ (fun hHeld => ?_)
 clear hK K
 refine done_ (done_of HT_.out (by kernel_rfl)) ?_
 have hnb27 := NB750_738.out
 have hnc27 := NB738_750.out
 have hz28 := bc5 BK750
 by_cases c13 : t751 = true
 rotate_left
 ·replace c13 := bF c13
  subst c13
  try simp only [Bool.not_true, Bool.not_false]
  rw [if_neg nF] at H
  simp only [Option.some.injEq, Prod.mk.injEq] at H
  obtain ⟨rfl, rfl, rfl, rfl, rfl, rfl⟩ := H
  try go_wp2_with ((with_reducible refine gg ?_); refine gL 32 Tryz.func57 #[.agg #[.string (rdOf ByteArray.empty t739 0), .string (rdOf ByteArray.empty t739 1), .int .i64 t745, .int .i64 t747, .int .i64 t749]] ?_; (with_reducible refine (spec_l3Ok.calls k (rdOf ByteArray.empty t739 0) (rdOf ByteArray.empty t739 1) t745 t747 t749 false _ A12.out).mono ?_); rintro e w64 ⟨rfl, hb⟩; refine ⟨_, rfl, ?_⟩; replace HO741 := am (R_below (rf HO741 BK750) hb); replace BK738 := kP _ BK738 hb; replace BK750 := kP (.cells #[.string (rdOf ByteArray.empty t739 0), .string (rdOf ByteArray.empty t739 1), .int .i64 t745, .int .i64 t747, .int .i64 t749] 24 (0, 0)) BK750 hb; replace HB := kH HB hb; (try clear hb); have hz65 := bc5 BK738)
  refine bodyPost_ret (results_ct rfl _ _ gb738 24 #[.string (⟨#[]⟩ : ByteArray), .string (⟨#[]⟩ : ByteArray), .int .i64 0, .int .i64 0, .int .i64 0] (0, 0) _ rfl (fb BK738) Tryz.underlying24 rfl (by kernel_rfl)) rfl ?_
  exact ⟨xE, xB HB⟩
 subst c13
 try simp only [Bool.not_true, Bool.not_false]
 rw [if_pos rfl] at H
 replace ⟨t752, A14, H⟩ := oa H
 go_upto_if 39 with (first | ((with_reducible refine gg ?_); refine gL 32 Tryz.func57 #[.agg #[.string (rdOf ByteArray.empty t739 0), .string (rdOf ByteArray.empty t739 1), .int .i64 t745, .int .i64 t747, .int .i64 t749]] ?_; (with_reducible refine (spec_l3Ok.calls k (rdOf ByteArray.empty t739 0) (rdOf ByteArray.empty t739 1) t745 t747 t749 true _ A12.out).mono ?_); rintro e w29 ⟨rfl, hb⟩; refine ⟨_, rfl, ?_⟩; replace HO741 := am (R_below (rf HO741 BK750) hb); replace BK738 := kP _ BK738 hb; replace BK750 := kP (.cells #[.string (rdOf ByteArray.empty t739 0), .string (rdOf ByteArray.empty t739 1), .int .i64 t745, .int .i64 t747, .int .i64 t749] 24 (0, 0)) BK750 hb; replace HB := kH HB hb; (try clear hb); have hz30 := bc5 BK750) | (go_at_call 60; (with_reducible refine (spec_l3Put.calls k (rdOf ByteArray.empty t739 0) (rdOf ByteArray.empty t739 1) t745 t747 t749 t752 _ A14.out).mono ?_); rintro e w31 ⟨rfl, hb⟩; replace HO741 := rk HO741 hb; replace BK738 := kP _ BK738 hb; replace BK750 := kP _ BK750 hb; replace HB := kH HB hb; (try clear hb)))
 by_cases c15 : t752.toList = a0.toList
 rotate_left
 ·rw [if_neg c15] at H
  have c15b0 := beq_eq_false_iff_ne.mpr c15
  have c15b1 := bne_iff_ne.mpr c15
  try simp only [c15b0, c15b1, Bool.not_true, Bool.not_false]
  simp only [Option.some.injEq, Prod.mk.injEq] at H
  obtain ⟨rfl, rfl, rfl, rfl, rfl, rfl⟩ := H
  have hz50 := bc5 BK738
  try go_wp2
  refine bodyPost_ret (results_ct rfl _ _ gb738 24 #[.string (⟨#[]⟩ : ByteArray), .string (⟨#[]⟩ : ByteArray), .int .i64 0, .int .i64 0, .int .i64 0] (0, 0) _ rfl (fb BK738) Tryz.underlying24 rfl (by kernel_rfl)) rfl ?_
  exact ⟨xE, xB HB⟩
 rw [if_pos c15] at H
 have c15b0 := beq_iff_eq.mpr c15
 have c15b1 := bne_eq_false_iff_eq.mpr c15
 try simp only [c15b0, c15b1, Bool.not_true, Bool.not_false]
 clear c15
 simp only [Option.some.injEq, Prod.mk.injEq] at H
 obtain ⟨rfl, rfl, rfl, rfl, rfl, rfl⟩ := H
 have hz32 := bc5 BK750
 have hz33 := bc5 BK738
 try go_wp2
 refine bodyPost_ret (results_ct rfl _ _ gb738 24 #[.string (rdOf ByteArray.empty t739 0), .string (rdOf ByteArray.empty t739 1), .int .i64 t745, .int .i64 t747, .int .i64 t749] (0, 0) _ rfl (fb BK738) Tryz.underlying24 rfl (by kernel_rfl)) rfl ?_
 exact ⟨xE, xB HB⟩
open Kd
set_option linter.unusedVariables false
set_option linter.unusedSimpArgs false
set_option maxHeartbeats 64000000
set_option maxRecDepth 100000
def spec_l9GetPeaks.l0 : Nat → List ByteArray → List S93 → Int → Option (List S93)
 | 0, _, _, _ => none
 | k + 1, x0, x3, x4 => if x4 < (x0.length : Int) then (if 0 ≤ x4 then ((spec_l1Cut.f k (rdOf ByteArray.empty x0 x4) 58 2).bind fun t757 => (if (t757.length : Int) = 3 then (if 0 < (t757.length : Int) then (if 1 < (t757.length : Int) then ((spec_l1Num.f k (rdOf ByteArray.empty t757 1)).bind fun t762 => (if 2 < (t757.length : Int) then ((spec_l1Num.f k (rdOf ByteArray.empty t757 2)).bind fun t764 => (if x3.length < 4398046511104 then (spec_l9GetPeaks.l0 k x0 (x3 ++ [(⟨rdOf ByteArray.empty t757 0, t762, t764⟩ : S93)]) (wrap64 (x4 + 1))) else (none))) else (none))) else (none)) else (none)) else (spec_l9GetPeaks.l0 k x0 x3 (wrap64 (x4 + 1))))) else (none)) else (some x3)
def spec_l9GetPeaks.f (k : Nat) (l0 : List ByteArray) : Option (List S93) := spec_l9GetPeaks.l0 k l0 (([] : List S93)) 0
def spec_l9GetPeaks.T7 : Bool × List (List Nat × List Nat) := (true, [([], []), ([], []), ([1], [1]), ([2], [2]), ([], []), ([4], [4]), ([5], [5]), ([6], [6]), ([], []), ([8], [8]), ([9], [9]), ([10, 7], [10]), ([3, 7, 11], [3, 7, 11]), ([12], [12]), ([0, 13, 11], [0, 13]), ([14, 14, 0, 1, 2, 3, 4, 5, 6, 7, 8, 9, 10, 11, 12, 13, 14], [0, 14])])
def spec_l9GetPeaks.B7 : List Nat := [0, 0, 2, 6, 0, 16, 48, 112, 0, 256, 768, 2032, 4094, 8190, 16383, 32767]
theorem spec_l9GetPeaks.tab7 : rtab .any (opsOf Tryz.f39 7) = spec_l9GetPeaks.T7 := by kernel_rfl
theorem spec_l9GetPeaks.bits7 : waitsOk spec_l9GetPeaks.T7.2 spec_l9GetPeaks.B7 = true := by kernel_rfl
theorem spec_l9GetPeaks.calls (k : Nat) (A0 : Option Addr) (c0 : Nat) (l0 : List ByteArray) (r : List S93) (w : World) (hr0 : Kd.C Kd.string w A0 l0.length l0) (hc0 : l0.length ≤ c0) (h : spec_l9GetPeaks.f k l0 = some r) :
  Calls Tryz.prog 39 #[.slice A0 l0.length c0] w fun e w' => ∃ v0_ : Value, e = .returned (v0_) ∧ Kd.R k93 93 w' w.heap.size (fun _ => True) v0_ r ∧ Below w.heap.size w w' := by
 have hu93 := Tryz.underlying93
 have HR0 := am hr0
 have HC0 := am hc0
 clear hr0 hc0
 have HB := am (Below.refl w.heap.size w)
 have H : (spec_l9GetPeaks.l0 k l0 (([] : List S93)) 0) = some r := h
 clear h
 obtain ⟨y753, Ny753⟩ := yA (([] : List S93) : List S93)
 rw [← Ny753.out] at H
 have H' := am H
 clear H
 go_enter Tryz.func39, Tryz.ntmps39
 go_wp2_with ((with_reducible refine gate_dst (N := 6) rfl ?_); refine R_lit k93 _ 93 ?hg (N := 6) ?hd (xs := ([] : List S93)) (inner := []) (ok := fun _ => True) (okp := fun _ => True) ?hr ?hp (fun _ hk => hk) trivial (Below.refl _ _) (Nat.le_refl _) (by simp) ?_; (case hd => rfl); (case hg => rfl); (case hr => first | (go_simp; done) | (go_simp; rfl)); (case hp => exact xP); intro v754 w2 ho3 hb hg_ hnew_; clear hg_ hnew_; (first | rw [← Ny753.out] at ho3 | (simp only [Int.reduceToNat] at ho3; rw [← Ny753.out] at ho3)); have HO755 := am (R_lower ho3 (below_size (bl HB))); replace HB := kH HB hb; clear hb ho3)
 go_loopg [3, 4] k (fun kq v3 v4 w' => ∃ (x3_1 : List S93) (x4_1 : Int), v4 = .int .i64 x4_1 ∧ Aside0 (spec_l9GetPeaks.l0 kq l0 x3_1 x4_1 = some r) ∧ Aside0 (kq ≤ k) ∧ Aside0 (Kd.R k93 93 w' w.heap.size (fun _ => True) v3 x3_1) ∧ Aside0 (Below w.heap.size w w'))
 case atStart => exact ⟨(y753), (0), xR, H', ⟨Nat.le_refl _⟩, ⟨ra HO755⟩, ⟨bl HB⟩⟩
 case round =>
  clear H'
  try clear p2
  try clear c3
  obtain ⟨x3_1, x4_1, rfl, HA, HK1, HO_3, HB⟩ := hrel
  cases gk with
  | zero => exact absurd HA.out (by simp [spec_l9GetPeaks.l0])
  | succ k1 =>
   have H := HA.out
   clear HA
   simp only [spec_l9GetPeaks.l0] at H
   by_cases c4 : x4_1 < (l0.length : Int)
   rotate_left
   ·rw [if_neg c4] at H
    have c4b0 := df c4
    clear c4
    obtain rfl := oI H
    go_wp2
    go_ret
    exact ⟨_, xE, ra HO_3, bl HB⟩
   rw [if_pos c4] at H
   have c4b0 := dt c4
   clear c4
   replace ⟨c5b0, H⟩ := ipd H
   replace ⟨t757, A6, H⟩ := oa H
   have p756 : 0 ≤ (x4_1 : Int) := oX
   have q756 : x4_1 < (l0.length : Int) := oX
   obtain ⟨ad756, e756, hx756_0⟩ := at_string (hC HB HR0.out) x4_1 p756 q756
   cases e756
   replace ⟨p756, q756⟩ := eT p756 q756
   go_upto_if 20 with ((with_reducible refine gg ?_); refine gL 17 Tryz.func35 #[.string (rdOf ByteArray.empty l0 x4_1), .int .u8 58, .int .i64 2] ?_; (with_reducible refine (spec_l1Cut.calls k1 (rdOf ByteArray.empty l0 x4_1) 58 2 t757 _ A6.out).mono ?_); rintro e w14 ⟨v758, rfl, ho0, hb⟩; refine ⟨_, rfl, ?_⟩; replace HO_3 := rk HO_3 hb; have HO759 := am (R_lower ho0 (below_size (bl HB))); replace HB := kH HB hb; (try clear hb); (try clear ho0); obtain ⟨Ao15, co15, rfl⟩ := R_slice HO759.out)
   by_cases c7 : (t757.length : Int) = 3
   rotate_left
   ·rw [if_neg c7] at H
    have c7b0 := beq_eq_false_iff_ne.mpr c7
    have c7b1 := bne_iff_ne.mpr c7
    try simp only [c7b0, c7b1, Bool.not_true, Bool.not_false]
    have H' := am H
    clear H
    go_wp2
    go_roundg k1
    case measure => have := HK1.out; omega
    case rel => exact ⟨(x3_1), (wrap64 (x4_1 + 1)), xR, H', ⟨xL HK1⟩, ⟨ra HO_3⟩, ⟨bl HB⟩⟩
   rw [if_pos c7] at H
   have c7b0 := beq_iff_eq.mpr c7
   have c7b1 := bne_eq_false_iff_eq.mpr c7
   try simp only [c7b0, c7b1, Bool.not_true, Bool.not_false]
   clear c7
   replace ⟨c8, H⟩ := ip H
   have c8b0 := dt c8
   have c8b1 : decide (0 < t757.length) = true := dt (by omega)
   clear c8
   replace ⟨c9, H⟩ := ip H
   have c9b0 := dt c9
   have c9b1 : decide (1 < t757.length) = true := dt (by omega)
   clear c9
   replace ⟨t762, A10, H⟩ := oa H
   replace ⟨c11, H⟩ := ip H
   have c11b0 := dt c11
   have c11b1 : decide (2 < t757.length) = true := dt (by omega)
   clear c11
   replace ⟨t764, A12, H⟩ := oa H
   replace ⟨LMc13, H⟩ := ipa H
   obtain ⟨y765, Ny765⟩ := yA (x3_1 ++ [(⟨rdOf ByteArray.empty t757 0, t762, t764⟩ : S93)] : List S93)
   rw [← Ny765.out] at H
   have H' := am H
   clear H
   try go_wp2
   replace HO_3 := am (R_drew HO_3.out)
   replace HO759 := am (R_drew HO759.out)
   replace HB := am (below_drew1 HB.out)
   have p760 : 0 ≤ (0 : Int) := (by omega)
   have q760 : 0 < (t757.length : Int) := oX
   obtain ⟨ad760, e760, hx760_0⟩ := at_string (R_reads' HO759.out).2.2 0 p760 q760
   cases e760
   have qi760 : (0 < t757.length) = True := eq_true (by omega)
   (try rw [show ((0 : Int)).toNat = 0 from rfl] at hx760_0)
   (try rw [Addr.add_zero'] at hx760_0)
   replace ⟨p760, q760⟩ := eT p760 q760
   have p761 : 0 ≤ (1 : Int) := (by omega)
   have q761 : 1 < (t757.length : Int) := oX
   obtain ⟨ad761, e761, hx761_0⟩ := at_string (R_reads' HO759.out).2.2 1 p761 q761
   obtain rfl : ad760 = ad761 := (by injection e761)
   (try simp only [show (1 : Int).toNat = 1 from rfl, Nat.reduceMul, Nat.reduceEqDiff, Go.Addr.add, ↓reduceIte] at hx761_0)
   have qi761 : (1 < t757.length) = True := eq_true (by omega)
   (try rw [show ((1 : Int)).toNat = 1 from rfl] at hx761_0)
   replace ⟨p761, q761⟩ := eT p761 q761
   have p763 : 0 ≤ (2 : Int) := (by omega)
   have q763 : 2 < (t757.length : Int) := oX
   obtain ⟨ad763, e763, hx763_0⟩ := at_string (R_reads' HO759.out).2.2 2 p763 q763
   obtain rfl : ad760 = ad763 := (by injection e763)
   (try simp only [show (2 : Int).toNat = 2 from rfl, Nat.reduceMul, Nat.reduceEqDiff, Go.Addr.add, ↓reduceIte] at hx763_0)
   have qi763 : (2 < t757.length) = True := eq_true (by omega)
   (try rw [show ((2 : Int)).toNat = 2 from rfl] at hx763_0)
   replace ⟨p763, q763⟩ := eT p763 q763
   refine start_ (n := 16) (S := fun w' => w'.cell? ad760 = some (.string (rdOf ByteArray.empty t757 0)) ∧ w'.cell? ⟨ad760.block, ad760.off + 1, none⟩ = some (.string (rdOf ByteArray.empty t757 1)) ∧ w'.cell? ⟨ad760.block, ad760.off + 2, none⟩ = some (.string (rdOf ByteArray.empty t757 2))) (ds := [13, 14]) (bm 16 0) (by kernel_rfl) rfl rfl ⟨hx760_0, hx761_0, hx763_0⟩ (fun hHeld => ?_); refine with_tabW spec_l9GetPeaks.tab7 spec_l9GetPeaks.bits7 (fun HT_ HW_ => ?_)
   generalize w14.drew = w16 at HO_3 HO759 HB hx760_0 hx761_0 hx763_0 hHeld ⊢
   refine pA 0 21 (bm 16 1) HT_ ?_
   refine pA 1 22 (bm 16 3) HT_ ?_
   refine pA 2 23 (bm 16 7) HT_ ?_
   refine pA 4 25 (bm 16 23) HT_ ?_
   refine pA 5 26 (bm 16 55) HT_ ?_
   refine pA 8 29 (bm 16 311) HT_ ?_
   refine pA 9 30 (bm 16 823) HT_ ?_
   refine tA 3 24 (bm 16 831) HT_ HW_ hHeld ?_
   refine tA 6 27 (bm 16 895) HT_ HW_ hHeld ?_
   refine tA 10 31 (bm 16 1919) HT_ HW_ hHeld ?_
   refine oA 7 (some 28) (bm 16 2047) HT_ fun K hK => ?_
   refine gA Tryz.func38 #[.string (rdOf ByteArray.empty t757 1)] ?_
   with_reducible refine (spec_l1Num.calls k1 (rdOf ByteArray.empty t757 1) t762 _ A10.out).mono ?_
   rintro e w' ⟨rfl, ⟨nd, rfl⟩⟩
   refine ⟨_, rfl, ?_⟩
   refine hK.out _ _ ⟨hHeld.1, hHeld.2.1, hHeld.2.2⟩ (fun hHeld => ?_)
   clear hK K
   refine nA (some 28) ?_
   refine oA 11 (some 32) (bm 16 4095) HT_ fun K hK => ?_
   refine gA Tryz.func38 #[.string (rdOf ByteArray.empty t757 2)] ?_
   with_reducible refine (spec_l1Num.calls k1 (rdOf ByteArray.empty t757 2) t764 _ A12.out).mono ?_
   rintro e w' ⟨rfl, ⟨nd, rfl⟩⟩
   refine ⟨_, rfl, ?_⟩
   refine hK.out _ _ ⟨hHeld.1, hHeld.2.1, hHeld.2.2⟩ (fun hHeld => ?_)
   clear hK K
   refine nA (some 32) ?_
   refine pA 12 33 (bm 16 8191) HT_ ?_
   refine last_ (i := 13) (N := some 34) (bm 16 16383) rfl rfl (one_of HT_.out (by kernel_rfl)) (by decide) (fun K hK => ?_)
   refine value_ (w1 := ?_) (v := ?_) (by rfl) rfl ?_ ?_
   rotate_left 2
   ·go_simp
    constructor
    ·rfl
    ·rfl
   refine hK.out _ _ ?_
   clear hK K
   refine nA (some 34) ?_
   refine last_ (i := 14) (N := some 35) (bm 16 32767) rfl rfl (one_of HT_.out (by kernel_rfl)) (by decide) (fun K hK => ?_)
   refine R_append_step k93 (w0 := w) w.heap.size (by rfl) (.tmp 21) (.tmp 34) 25 93 (.agg #[(.string ⟨#[]⟩), (.int .i64 0), (.int .i64 0)]) 32 rfl Tryz.underlying25 info93 rfl (by decide) (by omega) u3 x3_1 (⟨rdOf ByteArray.empty t757 0, t762, t764⟩ : S93) [.string (rdOf ByteArray.empty t757 0), .int .i64 t762, .int .i64 t764] (fun _ => True) (fun _ => False) rfl rfl ?aP (fun _ hk => hk.elim) ?aF ?aO ?aB ?aS ?aL ?_
   (case aP => exact k93_mkM _ _ _ (⟨rdOf ByteArray.empty t757 0, t762, t764⟩ : S93))
   (case aB => exact (bl HB))
   (case aF => exact (fun _ _ => trivial))
   (case aO => exact (ra HO_3))
   (case aS => exact (below_size (bl HB)))
   (case aL => have := LMc13.out; omega)
   intro v766 w17 ho hb hg hat
   rw [← Ny765.out] at ho
   have n0_ := am (R_over' (ra HO759) (R_typed (ra HO_3)) (by decide) hg)
   have n1_ := am (hb)
   have n2_ := am (ho)
   clear HO759
   clear HB
   clear HO_3
   have HO759 := n0_
   have HB := n1_
   have HO767 := n2_
   clear n0_ n1_ n2_
   clear ho hb hg hat
   refine hK.out _ _ ?_
   clear hK K
   refine nA (some 35) ?_
   refine pA 15 3 (bm 16 65535) HT_ ?_
   refine done_ (done_of HT_.out (by kernel_rfl)) ?_
   try go_wp2
   go_roundg k1
   case measure => have := HK1.out; omega
   case rel => exact ⟨(y765), (wrap64 (x4_1 + 1)), xR, H', ⟨xL HK1⟩, ⟨ra HO767⟩, ⟨bl HB⟩⟩
def spec_l9GetSides.l0 : Nat → List ByteArray → List S48 → Int → Option (List S48)
 | 0, _, _, _ => none
 | k + 1, x0, x3, x4 => if x4 < (x0.length : Int) then (if 0 ≤ x4 then (if ((rdOf ByteArray.empty x0 x4).size : Int) > 1 then (if 1 ≤ ((rdOf ByteArray.empty x0 x4).size : Int) then (if 0 < ((rdOf ByteArray.empty x0 x4).size : Int) then (if x3.length < 5864062014805 then (spec_l9GetSides.l0 k x0 (x3 ++ [(⟨(rdOf ByteArray.empty x0 x4).extract 1 (rdOf ByteArray.empty x0 x4).size, ((bt (rdOf ByteArray.empty x0 x4) 0) == 108)⟩ : S48)]) (wrap64 (x4 + 1))) else (none)) else (none)) else (none)) else (spec_l9GetSides.l0 k x0 x3 (wrap64 (x4 + 1)))) else (none)) else (some x3)
def spec_l9GetSides.f (k : Nat) (l0 : List ByteArray) : Option (List S48) := spec_l9GetSides.l0 k l0 (([] : List S48)) 0
def spec_l9GetSides.T6 : Bool × List (List Nat × List Nat) := (true, [([], []), ([], []), ([], []), ([1, 2], [1, 2]), ([3], [3]), ([4], [4]), ([], []), ([], []), ([6, 7], [6, 7]), ([8], [8]), ([9], [9]), ([10], [10]), ([5, 11], [5, 11]), ([12], [12]), ([0, 13], [0, 13]), ([14, 14, 0, 1, 2, 3, 4, 5, 6, 7, 8, 9, 10, 11, 12, 13, 14], [0, 14])])
def spec_l9GetSides.B6 : List Nat := [0, 0, 0, 6, 14, 30, 0, 0, 192, 448, 960, 1984, 4094, 8190, 16383, 32767]
theorem spec_l9GetSides.tab6 : rtab .any (opsOf Tryz.f40 6) = spec_l9GetSides.T6 := by kernel_rfl
theorem spec_l9GetSides.bits6 : waitsOk spec_l9GetSides.T6.2 spec_l9GetSides.B6 = true := by kernel_rfl
theorem spec_l9GetSides.calls (k : Nat) (A0 : Option Addr) (c0 : Nat) (l0 : List ByteArray) (r : List S48) (w : World) (hr0 : Kd.C Kd.string w A0 l0.length l0) (hc0 : l0.length ≤ c0) (h : spec_l9GetSides.f k l0 = some r) :
  Calls Tryz.prog 40 #[.slice A0 l0.length c0] w fun e w' => ∃ v0_ : Value, e = .returned (v0_) ∧ Kd.R k48 48 w' w.heap.size (fun _ => True) v0_ r ∧ Below w.heap.size w w' := by
 have hu48 := Tryz.underlying48
 have HR0 := am hr0
 have HC0 := am hc0
 clear hr0 hc0
 have HB := am (Below.refl w.heap.size w)
 have H : (spec_l9GetSides.l0 k l0 (([] : List S48)) 0) = some r := h
 clear h
 obtain ⟨y768, Ny768⟩ := yA (([] : List S48) : List S48)
 rw [← Ny768.out] at H
 have H' := am H
 clear H
 go_enter Tryz.func40, Tryz.ntmps40
 go_wp2_with ((with_reducible refine gate_dst (N := 5) rfl ?_); refine R_lit k48 _ 48 ?hg (N := 5) ?hd (xs := ([] : List S48)) (inner := []) (ok := fun _ => True) (okp := fun _ => True) ?hr ?hp (fun _ hk => hk) trivial (Below.refl _ _) (Nat.le_refl _) (by simp) ?_; (case hd => rfl); (case hg => rfl); (case hr => first | (go_simp; done) | (go_simp; rfl)); (case hp => exact xP); intro v769 w2 ho3 hb hg_ hnew_; clear hg_ hnew_; (first | rw [← Ny768.out] at ho3 | (simp only [Int.reduceToNat] at ho3; rw [← Ny768.out] at ho3)); have HO770 := am (R_lower ho3 (below_size (bl HB))); replace HB := kH HB hb; clear hb ho3)
 go_loopg [3, 4] k (fun kq v3 v4 w' => ∃ (x3_1 : List S48) (x4_1 : Int), v4 = .int .i64 x4_1 ∧ Aside0 (spec_l9GetSides.l0 kq l0 x3_1 x4_1 = some r) ∧ Aside0 (kq ≤ k) ∧ Aside0 (Kd.R k48 48 w' w.heap.size (fun _ => True) v3 x3_1) ∧ Aside0 (Below w.heap.size w w'))
 case atStart => exact ⟨(y768), (0), xR, H', ⟨Nat.le_refl _⟩, ⟨ra HO770⟩, ⟨bl HB⟩⟩
 case round =>
  clear H'
  try clear p2
  obtain ⟨x3_1, x4_1, rfl, HA, HK1, HO_3, HB⟩ := hrel
  cases gk with
  | zero => exact absurd HA.out (by simp [spec_l9GetSides.l0])
  | succ k1 =>
   have H := HA.out
   clear HA
   simp only [spec_l9GetSides.l0] at H
   by_cases c4 : x4_1 < (l0.length : Int)
   rotate_left
   ·rw [if_neg c4] at H
    have c4b0 := df c4
    clear c4
    obtain rfl := oI H
    go_wp2
    go_ret
    exact ⟨_, xE, ra HO_3, bl HB⟩
   rw [if_pos c4] at H
   have c4b0 := dt c4
   clear c4
   replace ⟨c5b0, H⟩ := ipd H
   have p771 : 0 ≤ (x4_1 : Int) := oX
   have q771 : x4_1 < (l0.length : Int) := oX
   obtain ⟨ad771, e771, hx771_0⟩ := at_string (hC HB HR0.out) x4_1 p771 q771
   cases e771
   replace ⟨p771, q771⟩ := eT p771 q771
   by_cases c6 : ((rdOf ByteArray.empty l0 x4_1).size : Int) > 1
   rotate_left
   ·rw [if_neg c6] at H
    have c6b0 := df c6
    have c6b1 : decide (1 < (rdOf ByteArray.empty l0 x4_1).size) = false := decide_eq_false (by omega)
    clear c6
    have H' := am H
    clear H
    go_wp2
    go_roundg k1
    case measure => have := HK1.out; omega
    case rel => exact ⟨(x3_1), (wrap64 (x4_1 + 1)), xR, H', ⟨xL HK1⟩, ⟨ra HO_3⟩, ⟨bl HB⟩⟩
   rw [if_pos c6] at H
   have c6b0 := dt c6
   have c6b1 : decide (1 < (rdOf ByteArray.empty l0 x4_1).size) = true := decide_eq_true (by omega)
   clear c6
   replace ⟨c7, H⟩ := ip H
   have c7b0 := eq_true c7
   have c7b1 := dt c7
   clear c7
   replace ⟨c8, H⟩ := ip H
   have c8b0 := dt c8
   have c8b1 : decide (0 < (rdOf ByteArray.empty l0 x4_1).size) = true := decide_eq_true (by omega)
   clear c8
   replace ⟨LMc10, H⟩ := ipa H
   obtain ⟨y774, Ny774⟩ := yA (x3_1 ++ [(⟨(rdOf ByteArray.empty l0 x4_1).extract 1 (rdOf ByteArray.empty l0 x4_1).size, ((bt (rdOf ByteArray.empty l0 x4_1) 0) == 108)⟩ : S48)] : List S48)
   rw [← Ny774.out] at H
   have H' := am H
   clear H
   try go_wp2
   replace HO_3 := am (R_drew HO_3.out)
   replace HB := am (below_drew1 HB.out)
   have p772 : 0 ≤ (x4_1 : Int) := oX
   have q772 : x4_1 < (l0.length : Int) := oX
   obtain ⟨ad772, e772, hx772_0⟩ := at_string HR0.out x4_1 p772 q772
   have hw772_0 := hx772_0
   obtain rfl : ad771 = ad772 := (by injection e772)
   replace hx772_0 := hc HB hx772_0
   replace ⟨p772, q772⟩ := eT p772 q772
   have p773 : 0 ≤ (x4_1 : Int) := oX
   have q773 : x4_1 < (l0.length : Int) := oX
   obtain ⟨ad773, e773, hx773_0⟩ := at_string HR0.out x4_1 p773 q773
   have hw773_0 := hx773_0
   obtain rfl : ad771 = ad773 := (by injection e773)
   replace hx773_0 := hc HB hx773_0
   replace ⟨p773, q773⟩ := eT p773 q773
   have p9 : 0 ≤ (0 : Int) := (by omega)
   have q9 : 0 < (rdOf ByteArray.empty l0 x4_1).size := (by have : (0 : Int) < ((rdOf ByteArray.empty l0 x4_1).size : Int) := oX; omega)
   have hx9 : ∀ h : 0 < (rdOf ByteArray.empty l0 x4_1).size, (((rdOf ByteArray.empty l0 x4_1)[0]'h).toNat : Int) = bt (rdOf ByteArray.empty l0 x4_1) 0 := bt_at (rdOf ByteArray.empty l0 x4_1) 0
   clear p9
   have qi9 : (0 < ((rdOf ByteArray.empty l0 x4_1).size : Int)) = True := eq_true (oX)
   replace q9 := eq_true q9
   refine start_ (n := 16) (S := fun w' => w'.cell? (ad771.add (x4_1).toNat) = some (.string (rdOf ByteArray.empty l0 x4_1)) ∧ w'.cell? (ad771.add (x4_1).toNat) = some (.string (rdOf ByteArray.empty l0 x4_1))) (ds := []) (bm 16 0) (by kernel_rfl) rfl rfl ⟨(hd HB hw772_0), (hd HB hw773_0)⟩ (fun hHeld => ?_); refine with_tabW spec_l9GetSides.tab6 spec_l9GetSides.bits6 (fun HT_ HW_ => ?_)
   generalize wr.drew = w11 at HO_3 HB hx772_0 hx773_0 hHeld ⊢
   refine pA 0 18 (bm 16 1) HT_ ?_
   refine pA 1 19 (bm 16 3) HT_ ?_
   refine pA 2 20 (bm 16 7) HT_ ?_
   refine pA 3 21 (bm 16 15) HT_ ?_
   refine pA 6 24 (bm 16 79) HT_ ?_
   refine pA 7 25 (bm 16 207) HT_ ?_
   refine pA 8 26 (bm 16 463) HT_ ?_
   refine tA 4 22 (bm 16 479) HT_ HW_ hHeld ?_
   refine pA 5 23 (bm 16 511) HT_ ?_
   refine tA 9 27 (bm 16 1023) HT_ HW_ hHeld ?_
   refine tA 10 28 (bm 16 2047) HT_ HW_ hHeld ?_
   refine pA 11 29 (bm 16 4095) HT_ ?_
   refine pA 12 30 (bm 16 8191) HT_ ?_
   refine oA 13 (some 31) (bm 16 16383) HT_ fun K hK => ?_
   refine value_ (w1 := ?_) (v := ?_) (by rfl) rfl ?_ ?_
   rotate_left 2
   ·go_simp
    constructor
    ·rfl
    ·rfl
   refine hK.out _ _ ⟨ca (hd HB hw772_0), ca (hd HB hw773_0)⟩ (fun hHeld => ?_)
   clear hK K
   refine nA (some 31) ?_
   refine oA 14 (some 32) (bm 16 32767) HT_ fun K hK => ?_
   refine R_append_step k48 (w0 := w) w.heap.size (by rfl) (.tmp 18) (.tmp 31) 28 48 (.agg #[(.string ⟨#[]⟩), (.bool false)]) 24 rfl Tryz.underlying28 info48 rfl (by decide) (by omega) u3 x3_1 (⟨(rdOf ByteArray.empty l0 x4_1).extract 1 (rdOf ByteArray.empty l0 x4_1).size, ((bt (rdOf ByteArray.empty l0 x4_1) 0) == 108)⟩ : S48) [.string ((rdOf ByteArray.empty l0 x4_1).extract 1 (rdOf ByteArray.empty l0 x4_1).size), .bool ((bt (rdOf ByteArray.empty l0 x4_1) 0) == 108)] (fun _ => True) (fun _ => False) rfl rfl ?aP (fun _ hk => hk.elim) ?aF ?aO ?aB ?aS ?aL ?_
   (case aP => exact k48_mkM _ _ _ (⟨(rdOf ByteArray.empty l0 x4_1).extract 1 (rdOf ByteArray.empty l0 x4_1).size, ((bt (rdOf ByteArray.empty l0 x4_1) 0) == 108)⟩ : S48))
   (case aB => exact (bl HB))
   (case aF => exact (fun _ _ => trivial))
   (case aO => exact (ra HO_3))
   (case aS => exact (below_size (bl HB)))
   (case aL => have := LMc10.out; omega)
   intro v775 w12 ho hb hg hat
   rw [← Ny774.out] at ho
   have n0_ := am (hb)
   have n1_ := am (ho)
   clear HB
   clear HO_3
   have HB := n0_
   have HO776 := n1_
   clear n0_ n1_
   clear ho hb hg hat
   refine hK.out _ _ ⟨(hd HB hw772_0), (hd HB hw773_0)⟩ (fun hHeld => ?_)
   clear hK K
   refine nA (some 32) ?_
   refine pA 15 3 (bm 16 65535) HT_ ?_
   refine done_ (done_of HT_.out (by kernel_rfl)) ?_
   try go_wp2
   go_roundg k1
   case measure => have := HK1.out; omega
   case rel => exact ⟨(y774), (wrap64 (x4_1 + 1)), xR, H', ⟨xL HK1⟩, ⟨ra HO776⟩, ⟨bl HB⟩⟩

end Go.Proofs.YtgjljbaadglpnaaGreatDoor.PFnPaidGet
