/- Functions of the program and what each answers: the kit's print, shortened (wip/press2.py). -/
import Derived.Test.YtgjljbaadglpnaaGreatDoorPFnPaidPutx0
import Derived.Test.YtgjljbaadglpnaaGreatDoorPFnPaidPutx4
import Derived.Test.YtgjljbaadglpnaaGreatDoorPFnPaidPutx8
import Derived.Test.YtgjljbaadglpnaaGreatDoorPFnPaidPutx11
import Derived.Test.YtgjljbaadglpnaaGreatDoorPFnPaidPutx12
namespace Go.Proofs.YtgjljbaadglpnaaGreatDoor.PFnPaidPut
open Go.Proofs.YtgjljbaadglpnaaGreatDoor.Sq Go.RowKit Go.Proofs.YtgjljbaadglpnaaGreatDoorW.PrintWords Go.Proofs.YtgjljbaadglpnaaGreatDoorW.PrintLast Go.Proofs.YtgjljbaadglpnaaGreatDoorW.PrintMore
attribute [local go_sem] max2_int min2_int max_two min_two max_three min_three max_four min_four   -- for this text's walks alone
set_option linter.unusedVariables false
set_option linter.unusedSimpArgs false
set_option maxHeartbeats 64000000
set_option maxRecDepth 100000
def spec_l20Rd_of.f (k : Nat) (s0_0 : List Int) (s0_1 : Int) (l1 : List ByteArray) : Option (ByteArray × Int) := (spec_l20Rd_pick.f k s0_0 s0_1 (l1.length : Int)).bind fun bt300 => (if 0 ≤ bt300.1 then (if bt300.1 < (l1.length : Int) then (some (rdOf ByteArray.empty l1 bt300.1, bt300.2)) else (none)) else (none))
theorem spec_l20Rd_of.mono : ∀ a0 a1 a2 k, LeO (spec_l20Rd_of.f k a0 a1 a2) (spec_l20Rd_of.f (k + 1) a0 a1 a2) := by
 intro a0 a1 a2 k
 unfold spec_l20Rd_of.f
 exact mo1 spec_l20Rd_pick.mono
theorem spec_l20Rd_of.calls (k : Nat) (g : Nat) (s0_0 : List Int) (s0_1 : Int) (A1 : Option Addr) (c1 : Nat) (l1 : List ByteArray) (r1 : ByteArray) (r2 : Int) (w0 w : World) (hI : IsS78 w0 w g s0_0 s0_1) (hB : Below w0.heap.size w0 w) (hr1 : Kd.C Kd.string w A1 l1.length l1) (hc1 : l1.length ≤ c1) (hf1 : ∀ ad, A1 = some ad → 0 < l1.length → ad.block ≠ g) (h : spec_l20Rd_of.f k s0_0 s0_1 l1 = some (r1, r2)) :
  Calls Tryz.prog 46 #[.pointer (some ⟨g, 0, none⟩), .slice A1 l1.length c1] w fun e w' => e = .returned (.string r1) ∧ IsS78 w0 w' g s0_0 r2 ∧ Below w0.heap.size w0 w' ∧ KeepBut w w' g none := by
 have HR1 := Aside0.mk hr1
 have HC1 := Aside0.mk hc1
 clear hr1 hc1
 have HI0 := Aside0.mk hI
 have HK := Aside0.mk (KeepBut.refl w g none)
 have HL := Aside0.mk hB.size
 clear hI
 have HW0 := Aside0.mk hB.size
 have HB := Aside0.mk hB
 clear hB
 have H : ((spec_l20Rd_pick.f k s0_0 s0_1 (l1.length : Int)).bind fun bt300 => (if 0 ≤ bt300.1 then (if bt300.1 < (l1.length : Int) then (some (rdOf ByteArray.empty l1 bt300.1, bt300.2)) else (none)) else (none))) = some (r1, r2) := h
 clear h
 replace H := Option.bind_eq_some_iff.mp H
 obtain ⟨⟨t300, t301⟩, A30, H⟩ := H
 have A3 := Aside0.mk A30
 clear A30
 replace H := ipd H
 obtain ⟨c4b0, H⟩ := H
 replace H := ipd H
 obtain ⟨c5b0, H⟩ := H
 simp only [Option.some.injEq, Prod.mk.injEq] at H
 obtain ⟨rfl, rfl⟩ := H
 go_enter Tryz.func46, Tryz.ntmps46
 go_wp2_with ((with_reducible refine gg ?_); refine gL 9 Tryz.func15 #[.pointer (some ⟨g, 0, none⟩), .int .i64 (l1.length : Int)] ?_; (with_reducible refine (spec_l20Rd_pick.calls k g s0_0 s0_1 (l1.length : Int) t300 t301 w0 _ ?side1 ?side2 A3.out).mono ?_); (case side1 => exact iX HI0); (case side2 => exact xBi HB); rintro e w6 ⟨rfl, hi, hb, hk⟩; refine ⟨_, rfl, ?_⟩; replace HK := kT HK hk; replace HB := am (hb); replace HI0 := am (hi); (try clear hb); have p302 : 0 ≤ (t300 : Int) := of_decide_eq_true xA; have q302 : t300 < (l1.length : Int) := of_decide_eq_true xA; obtain ⟨ad302, e302, hx302_0⟩ := Kd.at_string HR1.out t300 p302 q302; cases e302; replace hx302_0 := keep_cell HK.out hx302_0 (by first | (rw [add_block]; exact hf1 _ rfl (by omega)) | exact hf1 _ rfl (by omega) | exact hf1 ad302 rfl (by omega)); replace p302 := eq_true p302; replace q302 := eq_true q302)
 go_ret
 exact ⟨xE, iX HI0, xBi HB, xK HK⟩
def spec_l20Item.f (k : Nat) (s0_0 : List Int) (s0_1 : Int) : Option (ByteArray × Int) := (spec_l20Rd_of.f k s0_0 s0_1 (([(⟨#[97]⟩ : ByteArray), (⟨#[98]⟩ : ByteArray), (⟨#[99]⟩ : ByteArray), (⟨#[100]⟩ : ByteArray), (⟨#[97, 110, 110]⟩ : ByteArray), (⟨#[98, 111, 98]⟩ : ByteArray), (⟨#[99, 121, 100]⟩ : ByteArray), (⟨#[120, 49]⟩ : ByteArray), (⟨#[120, 50]⟩ : ByteArray), (⟨#[120, 51]⟩ : ByteArray), (⟨#[122, 122]⟩ : ByteArray), (⟨#[108, 111, 110, 103, 110, 97, 109, 101]⟩ : ByteArray)] : List ByteArray))).bind fun bt306 => (some (bt306.1, bt306.2))
theorem spec_l20Item.mono : ∀ a0 a1 k, LeO (spec_l20Item.f k a0 a1) (spec_l20Item.f (k + 1) a0 a1) := by
 intro a0 a1 k
 unfold spec_l20Item.f
 exact mo1 spec_l20Rd_of.mono
theorem spec_l20Item.calls (k : Nat) (g : Nat) (s0_0 : List Int) (s0_1 : Int) (r1 : ByteArray) (r2 : Int) (w0 w : World) (hI : IsS78 w0 w g s0_0 s0_1) (hB : Below w0.heap.size w0 w) (h : spec_l20Item.f k s0_0 s0_1 = some (r1, r2)) :
  Calls Tryz.prog 48 #[.pointer (some ⟨g, 0, none⟩)] w fun e w' => e = .returned (.string r1) ∧ IsS78 w0 w' g s0_0 r2 ∧ Below w0.heap.size w0 w' ∧ KeepBut w w' g none := by
 have HI0 := Aside0.mk hI
 have HK := Aside0.mk (KeepBut.refl w g none)
 have HL := Aside0.mk hB.size
 clear hI
 have HW0 := Aside0.mk hB.size
 have HB := Aside0.mk hB
 clear hB
 have H : ((spec_l20Rd_of.f k s0_0 s0_1 (([(⟨#[97]⟩ : ByteArray), (⟨#[98]⟩ : ByteArray), (⟨#[99]⟩ : ByteArray), (⟨#[100]⟩ : ByteArray), (⟨#[97, 110, 110]⟩ : ByteArray), (⟨#[98, 111, 98]⟩ : ByteArray), (⟨#[99, 121, 100]⟩ : ByteArray), (⟨#[120, 49]⟩ : ByteArray), (⟨#[120, 50]⟩ : ByteArray), (⟨#[120, 51]⟩ : ByteArray), (⟨#[122, 122]⟩ : ByteArray), (⟨#[108, 111, 110, 103, 110, 97, 109, 101]⟩ : ByteArray)] : List ByteArray))).bind fun bt306 => (some (bt306.1, bt306.2))) = some (r1, r2) := h
 clear h
 obtain ⟨y303, Ny303⟩ := yA (([(⟨#[97]⟩ : ByteArray), (⟨#[98]⟩ : ByteArray), (⟨#[99]⟩ : ByteArray), (⟨#[100]⟩ : ByteArray), (⟨#[97, 110, 110]⟩ : ByteArray), (⟨#[98, 111, 98]⟩ : ByteArray), (⟨#[99, 121, 100]⟩ : ByteArray), (⟨#[120, 49]⟩ : ByteArray), (⟨#[120, 50]⟩ : ByteArray), (⟨#[120, 51]⟩ : ByteArray), (⟨#[122, 122]⟩ : ByteArray), (⟨#[108, 111, 110, 103, 110, 97, 109, 101]⟩ : ByteArray)] : List ByteArray) : List ByteArray)
 rw [← Ny303.out] at H
 replace H := Option.bind_eq_some_iff.mp H
 obtain ⟨⟨t306, t307⟩, A20, H⟩ := H
 have A2 := Aside0.mk A20
 clear A20
 simp only [Option.some.injEq, Prod.mk.injEq] at H
 obtain ⟨rfl, rfl⟩ := H
 go_enter Tryz.func48, Tryz.ntmps48
 go_wp2_with (first | ((with_reducible refine gate_dst (N := 4) rfl ?_); refine Kd.R_lit Kd.string _ 9 ?hg (N := 4) ?hd (xs := ([(⟨#[97]⟩ : ByteArray), (⟨#[98]⟩ : ByteArray), (⟨#[99]⟩ : ByteArray), (⟨#[100]⟩ : ByteArray), (⟨#[97, 110, 110]⟩ : ByteArray), (⟨#[98, 111, 98]⟩ : ByteArray), (⟨#[99, 121, 100]⟩ : ByteArray), (⟨#[120, 49]⟩ : ByteArray), (⟨#[120, 50]⟩ : ByteArray), (⟨#[120, 51]⟩ : ByteArray), (⟨#[122, 122]⟩ : ByteArray), (⟨#[108, 111, 110, 103, 110, 97, 109, 101]⟩ : ByteArray)] : List ByteArray)) (inner := [.string (⟨#[97]⟩ : ByteArray), .string (⟨#[98]⟩ : ByteArray), .string (⟨#[99]⟩ : ByteArray), .string (⟨#[100]⟩ : ByteArray), .string (⟨#[97, 110, 110]⟩ : ByteArray), .string (⟨#[98, 111, 98]⟩ : ByteArray), .string (⟨#[99, 121, 100]⟩ : ByteArray), .string (⟨#[120, 49]⟩ : ByteArray), .string (⟨#[120, 50]⟩ : ByteArray), .string (⟨#[120, 51]⟩ : ByteArray), .string (⟨#[122, 122]⟩ : ByteArray), .string (⟨#[108, 111, 110, 103, 110, 97, 109, 101]⟩ : ByteArray)]) (ok := fun _ => True) (okp := fun _ => True) ?hr ?hp (fun _ hk => hk) trivial (Below.refl _ _) (Nat.le_refl _) (by simp) ?_; (case hd => rfl); (case hg => rfl); (case hr => first | (go_simp; done) | (go_simp; rfl)); (case hp => exact xP); intro v304 w3 ho4 hb hg_ hnew_; clear hg_ hnew_; (first | rw [← Ny303.out] at ho4 | (simp only [Int.reduceToNat] at ho4; rw [← Ny303.out] at ho4)); have HO305 := am (Kd.R_lower ho4 (xZ HK)); replace HK := kK HK hb; replace HB := kHi HB hb; replace HI0 := iK HI0 hb; clear hb ho4; obtain ⟨Ao5, co5, eo5⟩ := Kd.R_slice HO305.out; subst eo5) | ((with_reducible refine gg ?_); refine gL 5 Tryz.func46 #[.pointer (some ⟨g, 0, none⟩), .slice Ao5 y303.length co5] ?_; (with_reducible refine (spec_l20Rd_of.calls k g s0_0 s0_1 _ _ y303 t306 t307 w0 _ ?side1 ?side2 ?side3 ?side4 ?side5 A2.out).mono ?_); (case side1 => exact iX HI0); (case side2 => exact xBi HB); (case side3 => exact cr (Kd.R_reads' HO305.out).2.2); (case side4 => exact sl HO305); (case side5 => exact far_slice (IsS78.own_ne HI0.out HO305.out (by decide))); rintro e w6 ⟨rfl, hi, hb, hk⟩; refine ⟨_, rfl, ?_⟩; replace HO305 := iR HI0 HO305 hk; replace HK := kT HK hk; replace HB := am (hb); replace HI0 := am (hi); (try clear hb)))
 go_ret
 exact ⟨xE, iX HI0, xBi HB, xK HK⟩
def spec_l20Items.l0 : Nat → List ByteArray → Int → List Int → Int → Option (List ByteArray × Int)
 | 0, _, _, _, _ => none
 | k + 1, x5, x6, x1000, x1001 => if x6 > 0 then ((spec_l20Item.f k x1000 x1001).bind fun bt313 => (if x5.length < 8796093022208 then (spec_l20Items.l0 k (x5 ++ [bt313.1]) (wrap64 (x6 - 1)) x1000 bt313.2) else (none))) else (some (x5, x1001))
def spec_l20Items.f (k : Nat) (s0_0 : List Int) (s0_1 : Int) (a1 : Int) : Option (List ByteArray × Int) := (spec_l20Rd_pick.f k s0_0 s0_1 (wrap64 (a1 + 1))).bind fun bt311 => (spec_l20Items.l0 k (([] : List ByteArray)) bt311.1 s0_0 bt311.2)
theorem spec_l20Items.mono_l : ∀ k, (∀ y0 y1 y2 y3, LeO (spec_l20Items.l0 k y0 y1 y2 y3) (spec_l20Items.l0 (k + 1) y0 y1 y2 y3))
 | 0 => fun _ _ _ _ r h => by simp [spec_l20Items.l0] at h
 | k + 1 => by
  have ih0 := spec_l20Items.mono_l k
  ·intro y0 y1 y2 y3
   unfold spec_l20Items.l0
   exact mo3 ih0 spec_l20Item.mono spec_l20Rd_pick.mono
theorem spec_l20Items.mono : ∀ a0 a1 a2 k, LeO (spec_l20Items.f k a0 a1 a2) (spec_l20Items.f (k + 1) a0 a1 a2) := by
 intro a0 a1 a2 k
 have ih0 := spec_l20Items.mono_l k
 unfold spec_l20Items.f
 exact mo3 ih0 spec_l20Item.mono spec_l20Rd_pick.mono
theorem spec_l20Items.calls (k : Nat) (g : Nat) (s0_0 : List Int) (s0_1 : Int) (a1 : Int) (r1 : List ByteArray) (r2 : Int) (w0 w : World) (hI : IsS78 w0 w g s0_0 s0_1) (hB : Below w0.heap.size w0 w) (h : spec_l20Items.f k s0_0 s0_1 a1 = some (r1, r2)) :
  Calls Tryz.prog 70 #[.pointer (some ⟨g, 0, none⟩), .int .i64 a1] w fun e w' => ∃ v0_ : Value, e = .returned (v0_) ∧ Kd.R Kd.string 9 w' w.heap.size (fun _ => True) v0_ r1 ∧ IsS78 w0 w' g s0_0 r2 ∧ Below w0.heap.size w0 w' ∧ KeepBut w w' g none := by
 have HI0 := Aside0.mk hI
 have HK := Aside0.mk (KeepBut.refl w g none)
 have HL := Aside0.mk hB.size
 clear hI
 have HW0 := Aside0.mk hB.size
 have HB := Aside0.mk hB
 clear hB
 have H : ((spec_l20Rd_pick.f k s0_0 s0_1 (wrap64 (a1 + 1))).bind fun bt311 => (spec_l20Items.l0 k (([] : List ByteArray)) bt311.1 s0_0 bt311.2)) = some (r1, r2) := h
 clear h
 obtain ⟨y308, Ny308⟩ := yA (([] : List ByteArray) : List ByteArray)
 rw [← Ny308.out] at H
 replace H := Option.bind_eq_some_iff.mp H
 obtain ⟨⟨t311, t312⟩, A30, H⟩ := H
 have A3 := Aside0.mk A30
 clear A30
 have H' := Aside0.mk H
 clear H
 go_enter Tryz.func70, Tryz.ntmps70
 go_wp2_with (first | ((with_reducible refine gate_dst (N := 7) rfl ?_); refine Kd.R_lit Kd.string _ 9 ?hg (N := 7) ?hd (xs := ([] : List ByteArray)) (inner := []) (ok := fun _ => True) (okp := fun _ => True) ?hr ?hp (fun _ hk => hk) trivial (Below.refl _ _) (Nat.le_refl _) (by simp) ?_; (case hd => rfl); (case hg => rfl); (case hr => first | (go_simp; done) | (go_simp; rfl)); (case hp => exact xP); intro v309 w4 ho5 hb hg_ hnew_; clear hg_ hnew_; (first | rw [← Ny308.out] at ho5 | (simp only [Int.reduceToNat] at ho5; rw [← Ny308.out] at ho5)); have HO310 := am (Kd.R_lower ho5 (xZ HK)); replace HK := kK HK hb; replace HB := kHi HB hb; replace HI0 := iK HI0 hb; clear hb ho5) | ((with_reducible refine gg ?_); refine gL 11 Tryz.func15 #[.pointer (some ⟨g, 0, none⟩), .int .i64 (wrap64 (a1 + 1))] ?_; (with_reducible refine (spec_l20Rd_pick.calls k g s0_0 s0_1 (wrap64 (a1 + 1)) t311 t312 w0 _ ?side1 ?side2 A3.out).mono ?_); (case side1 => exact iX HI0); (case side2 => exact xBi HB); rintro e w6 ⟨rfl, hi, hb, hk⟩; refine ⟨_, rfl, ?_⟩; replace HO310 := iR HI0 HO310 hk; replace HK := kT HK hk; replace HB := am (hb); replace HI0 := am (hi); (try clear hb)))
 go_loopg [5, 6] k (fun kq v5 v6 w' => ∃ (x5_1 : List ByteArray) (x6_1 : Int) (x1001_1 : Int), v6 = .int .i64 x6_1 ∧ Aside0 (spec_l20Items.l0 kq x5_1 x6_1 s0_0 x1001_1 = some (r1, r2)) ∧ Aside0 (kq ≤ k) ∧ Aside0 (Kd.R Kd.string 9 w' w.heap.size (fun _ => True) v5 x5_1) ∧ Aside0 (IsS78 w0 w' g s0_0 x1001_1) ∧ Aside0 (KeepBut w w' g none) ∧ Aside0 (Below w0.heap.size w0 w'))
 case atStart => exact ⟨(y308), (t311), (t312), xR, H', ⟨Nat.le_refl _⟩, ⟨ra HO310⟩, ⟨iX HI0⟩, ⟨xK HK⟩, ⟨xBi HB⟩⟩
 case round =>
  clear H'
  try clear c1
  try clear p2
  try clear p6
  obtain ⟨x5_1, x6_1, x1001_1, rfl, HA, HK1, HO_5, HI0, HK, HB⟩ := hrel
  cases gk with
  | zero => exact absurd HA.out (by simp [spec_l20Items.l0])
  | succ k1 =>
   have H := HA.out
   clear HA
   simp only [spec_l20Items.l0] at H
   by_cases c7 : x6_1 > 0
   rotate_left
   ·rw [if_neg c7] at H
    have c7b0 := decide_eq_false c7
    clear c7
    simp only [Option.some.injEq, Prod.mk.injEq] at H
    obtain ⟨rfl, rfl⟩ := H
    go_wp2
    go_ret
    exact ⟨_, xE, ra HO_5, iX HI0, xBi HB, xK HK⟩
   rw [if_pos c7] at H
   have c7b0 := decide_eq_true c7
   clear c7
   replace H := Option.bind_eq_some_iff.mp H
   obtain ⟨⟨t313, t314⟩, A80, H⟩ := H
   have A8 := Aside0.mk A80
   clear A80
   replace H := ipa H
   obtain ⟨LMc9, H⟩ := H
   obtain ⟨y315, Ny315⟩ := yA (x5_1 ++ [t313] : List ByteArray)
   rw [← Ny315.out] at H
   have H' := Aside0.mk H
   clear H
   go_wp2_with (first | ((with_reducible refine gg ?_); refine gL 18 Tryz.func48 #[.pointer (some ⟨g, 0, none⟩)] ?_; (with_reducible refine (spec_l20Item.calls k1 g s0_0 x1001_1 t313 t314 w0 _ ?side1 ?side2 A8.out).mono ?_); (case side1 => exact iX HI0); (case side2 => exact xBi HB); rintro e w10 ⟨rfl, hi, hb, hk⟩; refine ⟨_, rfl, ?_⟩; replace HO_5 := iR HI0 HO_5 hk; replace HK := kT HK hk; replace HB := am (hb); replace HI0 := am (hi); (try clear hb)) | ((with_reducible refine gate_builtin (b := .append) (xs := #[.tmp 16, .tmp 19]) rfl ?_); at_builtin; refine Kd.R_append Kd.string w.heap.size rfl (.tmp 16) (.tmp 19) 53 9 (.string ⟨#[]⟩) 16 rfl Tryz.underlying53 info9 rfl (by decide) (by omega) u5 x5_1 t313 [.string t313] (fun _ => True) (fun _ => False) rfl rfl ?aP (fun _ hk => hk.elim) ?aF ?aO (Below.refl _ _) ?aS ?aL ?_; (case aP => exact rfl); (case aF => exact (fun _ _ => trivial)); (case aO => exact (ra HO_5)); (case aS => exact (xZ HK)); (case aL => have := LMc9.out; omega); intro v316 w11 ho hb hg hat; rw [← Ny315.out] at ho; have n0_ := Aside0.mk (IsS78.grown (iX HI0) hg (IsS78.own_ne HI0.out HO_5.out (by decide))); have n1_ := Aside0.mk (below_weaken (xBi HB) HL.out hb); have n2_ := Aside0.mk (KeepBut.trans (xK HK) (KeepBut.of_grown hg g) (Kd.R_base2 HO_5.out)); have n3_ := Aside0.mk (ho); clear HI0; clear HB; clear HK; clear HO_5; have HI0 := n0_; have HB := n1_; have HK := n2_; have HO317 := n3_; clear n0_ n1_ n2_ n3_; clear ho hb hg hat))
   go_roundg k1
   case measure => have := HK1.out; omega
   case rel => exact ⟨(y315), (wrap64 (x6_1 - 1)), (t314), xR, H', ⟨xL HK1⟩, ⟨ra HO317⟩, ⟨iX HI0⟩, ⟨xK HK⟩, ⟨xBi HB⟩⟩
mutual
def spec_l20Chain.j0 : Nat → List (S82) → Int → Int → List Int → Int → Option ((List (S82)) × Int)
 | 0, _, _, _, _, _ => none
 | k + 1, x1, x2, x7, x1000, x1001 => spec_l20Chain.l0 k x1 x7 x2 x1000 x1001
def spec_l20Chain.l0 : Nat → List (S82) → Int → Int → List Int → Int → Option ((List (S82)) × Int)
 | 0, _, _, _, _, _ => none
 | k + 1, x1, x7, x8, x1000, x1001 => if x8 > 0 then ((spec_l20Rd_one.f k x1000 x1001 (([1, 5, 5, 9, 30] : List Int))).bind fun bt322 => ((spec_l20Items.f k x1000 bt322.2 4).bind fun bt324 => ((spec_l4Mine.f k x1 (wrap64 (x7 + bt322.1)) bt324.1).bind fun bt328 => (if bt328.2 = true then (spec_l20Chain.l0 k bt328.1 (wrap64 (x7 + bt322.1)) (wrap64 (x8 - 1)) x1000 bt324.2) else (spec_l20Chain.l0 k x1 (wrap64 (x7 + bt322.1)) (wrap64 (x8 - 1)) x1000 bt324.2))))) else (some (x1, x1001))
end
def spec_l20Chain.f (k : Nat) (s0_0 : List Int) (s0_1 : Int) (l1 : List (S82)) (a2 : Int) : Option ((List (S82)) × Int) := if (l1.length : Int) > 0 then (if 0 ≤ (wrap64 ((l1.length : Int) - 1)) then (if (wrap64 ((l1.length : Int) - 1)) < (l1.length : Int) then (spec_l20Chain.j0 k l1 a2 ((rd_T82 l1 (wrap64 ((l1.length : Int) - 1))).f0.f2) s0_0 s0_1) else (none)) else (none)) else (spec_l20Chain.j0 k l1 a2 0 s0_0 s0_1)
theorem spec_l20Chain.mono_l : ∀ k, (∀ y0 y1 y2 y3 y4, LeO (spec_l20Chain.j0 k y0 y1 y2 y3 y4) (spec_l20Chain.j0 (k + 1) y0 y1 y2 y3 y4)) ∧ (∀ y0 y1 y2 y3 y4, LeO (spec_l20Chain.l0 k y0 y1 y2 y3 y4) (spec_l20Chain.l0 (k + 1) y0 y1 y2 y3 y4))
 | 0 => ⟨fun _ _ _ _ _ r h => by simp [spec_l20Chain.j0] at h, fun _ _ _ _ _ r h => by simp [spec_l20Chain.l0] at h⟩
 | k + 1 => by
  obtain ⟨ih0, ih1⟩ := spec_l20Chain.mono_l k
  refine ⟨?_, ?_⟩
  ·intro y0 y1 y2 y3 y4
   unfold spec_l20Chain.j0
   exact mo5 ih0 ih1 spec_l20Items.mono spec_l20Rd_one.mono spec_l4Mine.mono
  ·intro y0 y1 y2 y3 y4
   unfold spec_l20Chain.l0
   exact mo5 ih0 ih1 spec_l20Items.mono spec_l20Rd_one.mono spec_l4Mine.mono
theorem spec_l20Chain.mono : ∀ a0 a1 a2 a3 k, LeO (spec_l20Chain.f k a0 a1 a2 a3) (spec_l20Chain.f (k + 1) a0 a1 a2 a3) := by
 intro a0 a1 a2 a3 k
 obtain ⟨ih0, ih1⟩ := spec_l20Chain.mono_l k
 unfold spec_l20Chain.f
 exact mo5 ih0 ih1 spec_l20Items.mono spec_l20Rd_one.mono spec_l4Mine.mono
theorem spec_l20Chain.calls (k : Nat) (g : Nat) (s0_0 : List Int) (s0_1 : Int) (P1_ : Nat → Prop) (A1 : Option Addr) (c1 : Nat) (l1 : List (S82)) (a2 : Int) (r1 : List (S82)) (r2 : Int) (w0 w : World) (hI : IsS78 w0 w g s0_0 s0_1) (hB : Below w0.heap.size w0 w) (hs1 : Kd.V k82 82 w w.heap.size (fun k_ => P1_ k_ ∧ k_ ≠ g) (.slice A1 l1.length c1) l1) (h : spec_l20Chain.f k s0_0 s0_1 l1 a2 = some (r1, r2)) :
  Calls Tryz.prog 41 #[.pointer (some ⟨g, 0, none⟩), .slice A1 l1.length c1, .int .i64 a2] w fun e w' => ∃ v0_ : Value, e = .returned (v0_) ∧ Kd.V k82 82 w' w.heap.size (fun k_ => (P1_ k_ ∨ w.heap.size ≤ k_)) v0_ r1 ∧ IsS78 w0 w' g s0_0 r2 ∧ Below w0.heap.size w0 w' ∧ KeepBut w w' g none := by
 have HO1 := Aside0.mk (show Kd.V k82 82 w w.heap.size (fun k_ => (P1_ k_ ∨ w.heap.size ≤ k_) ∧ k_ ≠ g) (.slice A1 l1.length c1) l1 from Kd.V_mono hs1 (fun k_ hk => ⟨.inl hk.1, hk.2⟩))
 have HI0 := Aside0.mk hI
 have HK := Aside0.mk (KeepBut.refl w g none)
 have HL := Aside0.mk hB.size
 clear hI
 have HW0 := Aside0.mk hB.size
 have HB := Aside0.mk hB
 clear hB
 have H : (if (l1.length : Int) > 0 then (if 0 ≤ (wrap64 ((l1.length : Int) - 1)) then (if (wrap64 ((l1.length : Int) - 1)) < (l1.length : Int) then (spec_l20Chain.j0 k l1 a2 ((rd_T82 l1 (wrap64 ((l1.length : Int) - 1))).f0.f2) s0_0 s0_1) else (none)) else (none)) else (spec_l20Chain.j0 k l1 a2 0 s0_0 s0_1)) = some (r1, r2) := h
 clear h
 have HC4 := Aside0.mk H
 clear H
 go_enter Tryz.func41, Tryz.ntmps41
 go_upto_if 13 with (fail)
 go_cut [7] (fun v7 wc => ∃ (kq : Nat) (x7_3 : Int), v7 = .int .i64 x7_3 ∧ Aside0 (spec_l20Chain.j0 kq l1 a2 x7_3 s0_0 s0_1 = some (r1, r2)) ∧ Aside0 (kq ≤ k) ∧ Aside0 (Kd.V k82 82 wc w.heap.size (fun k_ => (P1_ k_ ∨ w.heap.size ≤ k_) ∧ k_ ≠ g) (.slice A1 l1.length c1) l1) ∧ Aside0 (IsS78 w0 wc g s0_0 s0_1) ∧ Aside0 (KeepBut w wc g none) ∧ Aside0 (Below w0.heap.size w0 wc))
 case first =>
  have H := HC4.out
  clear HC4
  by_cases c5 : (l1.length : Int) > 0
  rotate_left
  ·rw [if_neg c5] at H
   have c5b0 := decide_eq_false c5
   have c5b1 : decide (0 < l1.length) = false := decide_eq_false (by omega)
   clear c5
   (first | rw [c5b0] | rw [c5b1] | (simp only [i64_w, i32_w]; rw [c5b0]) | skip)
   have H' := Aside0.mk H
   clear H
   go_wp2
   go_meet
   case rel => exact ⟨_, (0), xR, H', ⟨xO⟩, ⟨va HO1⟩, ⟨iX HI0⟩, ⟨xK HK⟩, ⟨xBi HB⟩⟩
  rw [if_pos c5] at H
  have c5b0 := decide_eq_true c5
  have c5b1 : decide (0 < l1.length) = true := decide_eq_true (by omega)
  clear c5
  (first | rw [c5b0] | rw [c5b1] | (simp only [i64_w, i32_w]; rw [c5b0]) | skip)
  obtain ⟨ji6, hji6⟩ := je (wrap64 ((l1.length : Int) - 1))
  first | rw [hji6] at H | simp only [hji6] at H
  have hji6w : (IntKind.i64.wrap ((l1.length : Int) - 1)) = ji6 := (i64_w _).trans hji6
  replace H := ipd H
  obtain ⟨c7b0, H⟩ := H
  replace H := ipd H
  obtain ⟨c8b0, H⟩ := H
  have H' := Aside0.mk H
  clear H
  have p318 : 0 ≤ ((ji6) : Int) := of_decide_eq_true xA
  have q318 : (ji6) < (l1.length : Int) := of_decide_eq_true xA
  obtain ⟨ad318, A318_5, c318_5, e318, hx318_0, hx318_1, hx318_2, hx318_3, hx318_4, hx318_5, hl318_5, hi318_5⟩ := at_T82 (Kd.V_reads' HO1.out).2.2 (ji6) p318 q318
  cases e318
  obtain ⟨ce318, hce318, hMe318, hcc318⟩ := Kd.V_get HO1.out z82 (ji6) p318 (by first | exact q318 | exact of_decide_eq_true xA | (have e_ := (Kd.V_reads' HO1.out).1; omega))
  obtain ⟨ua318_5, uc318_5, rfl, ul318_5, ge318_5⟩ := k82_openF hMe318
  have hv318_5 := hcc318 5 _ rfl
  rw [add_field _ _ 5 (by omega)] at hv318_5
  replace hv318_5 := Option.some.inj (hv318_5.symm.trans hx318_5)
  injection hv318_5 with hva_ hvn_ hvc_
  rw [hva_] at ge318_5
  rw [hvc_] at ul318_5
  have HL318_5 := Aside0.mk (show Kd.V Kd.string 9 _ w.heap.size _ _ ((rd_T82 l1 (ji6)).f1) from Kd.V_mk ul318_5 ge318_5)
  clear hva_ hvn_ hvc_ ge318_5 ul318_5
  clear hcc318 hce318
  have HR318_5 := Aside0.mk hi318_5
  have HC318_5 := Aside0.mk hl318_5
  clear hi318_5 hl318_5
  replace p318 := eq_true p318
  replace q318 := eq_true q318
  go_wp2
  go_meet
  case rel => exact ⟨_, ((rd_T82 l1 (ji6)).f0.f2), (by first | rfl | (simp; done) | (simp only [← hji6] <;> (first | rfl | simp)) | (simp [*]; done)), H', ⟨xO⟩, ⟨va HO1⟩, ⟨iX HI0⟩, ⟨xK HK⟩, ⟨xBi HB⟩⟩
 case rest =>
  clear HC4
  try clear c1
  try clear p2
  try clear c3
  try clear p3
  try clear q3
  try clear hx3
  try clear c4
  try clear c5
  try clear c5b0
  try clear c5b1
  try clear p6
  try clear c7
  try clear c7b0
  try clear c8
  try clear c8b0
  try clear hx318_0
  try clear hx318_1
  try clear hx318_2
  try clear hx318_3
  try clear hx318_4
  try clear hx318_5
  try clear p318
  try clear q318
  obtain ⟨kq, x7_3, rfl, HA, HJ3, HO_1, HI0, HK, HB⟩ := hcut
  cases kq with
  | zero => exact absurd HA.out (by simp [spec_l20Chain.j0])
  | succ kj3 =>
   have H := HA.out
   clear HA
   simp only [spec_l20Chain.j0] at H
   have H' := Aside0.mk H
   clear H
   go_wp2
   go_loopg [1, 7, 8] kj3 (fun kq v1 v7 v8 w' => ∃ (x1_2 : List (S82)) (x7_2 : Int) (x8_2 : Int) (x1001_2 : Int), v7 = .int .i64 x7_2 ∧ v8 = .int .i64 x8_2 ∧ Aside0 (spec_l20Chain.l0 kq x1_2 x7_2 x8_2 s0_0 x1001_2 = some (r1, r2)) ∧ Aside0 (kq ≤ kj3) ∧ Aside0 (Kd.V k82 82 w' w.heap.size (fun k_ => (P1_ k_ ∨ w.heap.size ≤ k_) ∧ k_ ≠ g) v1 x1_2) ∧ Aside0 (IsS78 w0 w' g s0_0 x1001_2) ∧ Aside0 (KeepBut w w' g none) ∧ Aside0 (Below w0.heap.size w0 w'))
   case atStart => exact ⟨(l1), (x7_3), (a2), (s0_1), xR, xR, H', ⟨Nat.le_refl _⟩, ⟨va HO_1⟩, ⟨iX HI0⟩, ⟨xK HK⟩, ⟨xBi HB⟩⟩
   case round =>
    clear H'
    try clear c1
    try clear p2
    try clear c3
    try clear p3
    try clear q3
    try clear hx3
    try clear c4
    try clear c5
    try clear c5b0
    try clear c5b1
    try clear p6
    try clear c7
    try clear c7b0
    try clear c8
    try clear c8b0
    try clear hx318_0
    try clear hx318_1
    try clear hx318_2
    try clear hx318_3
    try clear hx318_4
    try clear hx318_5
    try clear p2
    try clear p3
    try clear p318
    try clear p6
    try clear q3
    try clear q318
    obtain ⟨x1_2, x7_2, x8_2, x1001_2, rfl, rfl, HA, HK2, HO_1, HI0, HK, HB⟩ := hrel
    cases gk with
    | zero => exact absurd HA.out (by simp [spec_l20Chain.l0])
    | succ k2 =>
     have H := HA.out
     clear HA
     simp only [spec_l20Chain.l0] at H
     by_cases c9 : x8_2 > 0
     rotate_left
     ·rw [if_neg c9] at H
      have c9b0 := decide_eq_false c9
      clear c9
      simp only [Option.some.injEq, Prod.mk.injEq] at H
      obtain ⟨rfl, rfl⟩ := H
      go_wp2
      go_ret
      exact ⟨_, xE, by (with_reducible repeat (first | apply Kd.V_alloc | apply Kd.V_drewN | apply Kd.V_drew)); exact Kd.V_mono HO_1.out (fun _ hk => hk.1), iX HI0, xBi HB, xK HK⟩
     rw [if_pos c9] at H
     have c9b0 := decide_eq_true c9
     clear c9
     obtain ⟨y319, Ny319⟩ := yA (([1, 5, 5, 9, 30] : List Int) : List Int)
     rw [← Ny319.out] at H
     replace H := Option.bind_eq_some_iff.mp H
     obtain ⟨⟨t322, t323⟩, A100, H⟩ := H
     have A10 := Aside0.mk A100
     clear A100
     replace H := Option.bind_eq_some_iff.mp H
     obtain ⟨⟨t324, t327⟩, A110, H⟩ := H
     have A11 := Aside0.mk A110
     clear A110
     replace H := Option.bind_eq_some_iff.mp H
     obtain ⟨⟨t328, t331⟩, A120, H⟩ := H
     have A12 := Aside0.mk A120
     clear A120
     go_upto_if 40 with (first | ((with_reducible refine gate_dst (N := 29) rfl ?_); refine Kd.R_lit (Kd.int .i64) _ 3 ?hg (N := 29) ?hd (xs := ([1, 5, 5, 9, 30] : List Int)) (inner := [.int .i64 1, .int .i64 5, .int .i64 5, .int .i64 9, .int .i64 30]) (ok := fun _ => True) (okp := fun _ => True) ?hr ?hp (fun _ hk => hk) trivial (Below.refl _ _) (Nat.le_refl _) (by simp) ?_; (case hd => rfl); (case hg => rfl); (case hr => first | (go_simp; done) | (go_simp; rfl)); (case hp => exact xP); intro v320 w14 ho15 hb hg_ hnew_; clear hg_ hnew_; (first | rw [← Ny319.out] at ho15 | (simp only [Int.reduceToNat] at ho15; rw [← Ny319.out] at ho15)); replace HO_1 := am (Kd.V_elder' (va HO_1) (Kd.R_base ho15) hb); have HO321 := am (Kd.R_lower (Kd.R_newM (M := fun k_ => (w.heap.size ≤ k_)) ho15 (xZ HK) (fun k_ h_ => h_)) (xZ HK)); replace HK := kK HK hb; replace HB := kHi HB hb; replace HI0 := iK HI0 hb; clear hb ho15; obtain ⟨Ao16, co16, eo16⟩ := Kd.R_slice HO321.out; subst eo16) | ((with_reducible refine gg ?_); first | (refine gL 30 Tryz.func16 #[.pointer (some ⟨g, 0, none⟩), .slice Ao16 y319.length co16] ?_; (with_reducible refine (spec_l20Rd_one.calls k2 g s0_0 x1001_2 _ _ y319 t322 t323 w0 _ ?side1 ?side2 ?side3 ?side4 ?side5 A10.out).mono ?_); (case side1 => exact iX HI0); (case side2 => exact xBi HB); (case side3 => exact cr (Kd.R_reads' HO321.out).2.2); (case side4 => exact sl HO321); (case side5 => exact far_slice (IsS78.own_ne HI0.out HO321.out (by decide))); rintro e w17 ⟨rfl, hi, hb, hk⟩; refine ⟨_, rfl, ?_⟩; replace HO_1 := am (Kd.V_mono (Kd.V_keep (Kd.V_mono (ok := fun k_ => ((((P1_ k_ ∨ w.heap.size ≤ k_)) ∧ k_ ≠ g) ∧ some k_ ≠ (.slice Ao16 y319.length co16 : Value).ownBlock)) (va HO_1) (fun k_ hk_ => (⟨hk_, hk_.1.2⟩ : _ ∧ k_ ≠ g))) hk (fun _ h => h.2)) (fun _ h => h.1)); replace HO321 := iR HI0 HO321 hk; replace HK := kT HK hk; replace HB := am (hb); replace HI0 := am (hi); (try clear hb)) | (refine gL 36 Tryz.func70 #[.pointer (some ⟨g, 0, none⟩), .int .i64 4] ?_; (with_reducible refine (spec_l20Items.calls k2 g s0_0 t323 4 t324 t327 w0 _ ?side1 ?side2 A11.out).mono ?_); (case side1 => exact iX HI0); (case side2 => exact xBi HB); rintro e w18 ⟨v325, rfl, ho0, hi, hb, hk⟩; refine ⟨_, rfl, ?_⟩; replace HO_1 := am (Kd.V_mono (Kd.V_told (Kd.V_oldK (Kd.V_mono (ok := fun k_ => ((((P1_ k_ ∨ w.heap.size ≤ k_)) ∧ k_ ≠ g) ∧ some k_ ≠ (.slice Ao16 y319.length co16 : Value).ownBlock)) (va HO_1) (fun k_ hk_ => (⟨hk_, hk_.1.2⟩ : _ ∧ k_ ≠ g))) hk) (Kd.R_base ho0)) (fun _ h_ => h_.1)); replace HO321 := iR HI0 HO321 hk; have HO326 := am (Kd.R_lower (Kd.R_newM (M := fun k_ => (w.heap.size ≤ k_)) ho0 (xZ HK) (fun k_ h_ => h_)) (xZ HK)); replace HK := kT HK hk; replace HB := am (hb); replace HI0 := am (hi); (try clear hb); (try clear ho0); obtain ⟨Ao19, co19, eo19⟩ := Kd.V_slice HO_1.out; subst eo19; obtain ⟨Ao20, co20, eo20⟩ := Kd.R_slice HO326.out; subst eo20) | (refine gL 37 Tryz.func69 #[.slice Ao19 x1_2.length co19, .int .i64 (wrap64 (x7_2 + t322)), .slice Ao20 t324.length co20] ?_; (with_reducible refine (spec_l4Mine.calls k2 (fun k_ => ((((P1_ k_ ∨ w.heap.size ≤ k_) ∧ k_ ≠ g) ∧ some k_ ≠ (.slice Ao16 y319.length co16 : Value).ownBlock) ∧ some k_ ≠ (.slice Ao20 t324.length co20 : Value).ownBlock)) _ _ x1_2 (wrap64 (x7_2 + t322)) _ _ t324 t328 t331 _ ?side1 ?side2 ?side3 A12.out).mono ?_); (case side1 => exact HO_1.out); (case side2 => exact cr (Kd.R_reads' HO326.out).2.2); (case side3 => exact sl HO326); rintro e w21 ⟨v329, rfl, ho0, hb⟩; refine ⟨_, rfl, ?_⟩; replace HO_1 := am (Kd.V_below (va HO_1) hb); have HO330 := am (Kd.V_lower (Kd.V_mono (ok' := fun k_ => (P1_ k_ ∨ w.heap.size ≤ k_) ∧ some k_ ≠ (.slice Ao16 y319.length co16 : Value).ownBlock ∧ some k_ ≠ (.slice Ao20 t324.length co20 : Value).ownBlock ∧ k_ ≠ g) ho0 (fun k_ hk_ => ⟨Or.elim hk_ (fun hs_ => hs_.1.1.1) (fun hn_ => (.inr (Nat.le_trans (xZ HK) hn_))), Or.elim hk_ (fun hs_ => hs_.1.2) (fun hn_ => (Kd.fresh' (Kd.R_lt (ra HO321)) k_ hn_)), Or.elim hk_ (fun hs_ => hs_.2) (fun hn_ => (Kd.fresh' (Kd.R_lt (ra HO326)) k_ hn_)), Or.elim hk_ (fun hs_ => hs_.1.1.2) (fun hn_ => (IsS78.fresh (iX HI0) k_ hn_))⟩)) (xZ HK)); replace HO321 := rk HO321 hb; replace HO326 := rk HO326 hb; replace HK := kK HK hb; replace HB := kHi HB hb; replace HI0 := iK HI0 hb; (try clear hb); (try clear ho0))))
     by_cases c13 : t331 = true
     ·subst c13
      try simp only [Bool.not_true, Bool.not_false]
      rw [if_pos rfl] at H
      have H' := Aside0.mk H
      clear H
      go_wp2
      go_roundg k2
      case measure => have := HJ3.out; have := HK2.out; omega
      case rel => exact ⟨(t328), (wrap64 (x7_2 + t322)), (wrap64 (x8_2 - 1)), (t327), xR, xR, H', ⟨by have := HJ3.out; have := HK2.out; omega⟩, ⟨by (with_reducible repeat (first | apply Kd.V_alloc | apply Kd.V_drewN | apply Kd.V_drew)); exact Kd.V_mono HO330.out (fun _ hk => ⟨hk.1, hk.2.2.2⟩)⟩, ⟨iX HI0⟩, ⟨xK HK⟩, ⟨xBi HB⟩⟩
     replace c13 := Bool.eq_false_iff.mpr c13
     subst c13
     try simp only [Bool.not_true, Bool.not_false]
     rw [if_neg (show ¬ (false = true) by decide)] at H
     have H' := Aside0.mk H
     clear H
     go_wp2
     go_roundg k2
     case measure => have := HJ3.out; have := HK2.out; omega
     case rel => exact ⟨(x1_2), (wrap64 (x7_2 + t322)), (wrap64 (x8_2 - 1)), (t327), xR, xR, H', ⟨by have := HJ3.out; have := HK2.out; omega⟩, ⟨by (with_reducible repeat (first | apply Kd.V_alloc | apply Kd.V_drewN | apply Kd.V_drew)); exact Kd.V_mono HO_1.out (fun _ hk => ⟨hk.1.1.1, hk.1.1.2⟩)⟩, ⟨iX HI0⟩, ⟨xK HK⟩, ⟨xBi HB⟩⟩
def spec_l5Text.f (k : Nat) (a0_0 : ByteArray) (a0_1 : Int) (a0_2 : Int) : Option (ByteArray) := if a0_0.size + 1 ≤ 9223372036854775807 then ((spec_l1Dec.f k a0_1).bind fun t333 => (if (a0_0 ++ (⟨#[32]⟩ : ByteArray)).size + t333.size ≤ 9223372036854775807 then (if ((a0_0 ++ (⟨#[32]⟩ : ByteArray)) ++ t333).size + 1 ≤ 9223372036854775807 then ((spec_l1Dec.f k a0_2).bind fun t334 => (if (((a0_0 ++ (⟨#[32]⟩ : ByteArray)) ++ t333) ++ (⟨#[32]⟩ : ByteArray)).size + t334.size ≤ 9223372036854775807 then (some ((((a0_0 ++ (⟨#[32]⟩ : ByteArray)) ++ t333) ++ (⟨#[32]⟩ : ByteArray)) ++ t334)) else (none))) else (none)) else (none))) else (none)
theorem spec_l5Text.mono : ∀ a0 a1 a2 k, LeO (spec_l5Text.f k a0 a1 a2) (spec_l5Text.f (k + 1) a0 a1 a2) := by
 intro a0 a1 a2 k
 unfold spec_l5Text.f
 exact mo1 spec_l1Dec.mono
def spec_l5Text.T1 : Bool × List (List Nat × List Nat) := (true, [([], []), ([0], [0]), ([1], [1]), ([], []), ([3], [3]), ([4], [4]), ([2, 5], [2, 5]), ([6], [6]), ([], []), ([8], [8]), ([9, 5], [9]), ([7, 10], [7, 10]), ([11, 10, 0, 1, 2, 3, 4, 5, 6, 7, 8, 9, 10, 11], [11])])
def spec_l5Text.B1 : List Nat := [0, 1, 3, 0, 8, 24, 63, 127, 0, 256, 824, 2047, 4095]
theorem spec_l5Text.tab1 : rtab .any (opsOf Tryz.f71 1) = spec_l5Text.T1 := by kernel_rfl
theorem spec_l5Text.bits1 : waitsOk spec_l5Text.T1.2 spec_l5Text.B1 = true := by kernel_rfl
theorem spec_l5Text.calls (k : Nat) (a0_0 : ByteArray) (a0_1 : Int) (a0_2 : Int) (r : ByteArray) (w : World) (h : spec_l5Text.f k a0_0 a0_1 a0_2 = some r) :
  Calls Tryz.prog 71 #[.agg #[.string a0_0, .int .i64 a0_1, .int .i64 a0_2]] w fun e w' => e = .returned (.string r) ∧ Below w.heap.size w w' := by
 have hu93 := Tryz.underlying93
 have HB := Aside0.mk (Below.refl w.heap.size w)
 have H : (if a0_0.size + 1 ≤ 9223372036854775807 then ((spec_l1Dec.f k a0_1).bind fun t333 => (if (a0_0 ++ (⟨#[32]⟩ : ByteArray)).size + t333.size ≤ 9223372036854775807 then (if ((a0_0 ++ (⟨#[32]⟩ : ByteArray)) ++ t333).size + 1 ≤ 9223372036854775807 then ((spec_l1Dec.f k a0_2).bind fun t334 => (if (((a0_0 ++ (⟨#[32]⟩ : ByteArray)) ++ t333) ++ (⟨#[32]⟩ : ByteArray)).size + t334.size ≤ 9223372036854775807 then (some ((((a0_0 ++ (⟨#[32]⟩ : ByteArray)) ++ t333) ++ (⟨#[32]⟩ : ByteArray)) ++ t334)) else (none))) else (none)) else (none))) else (none)) = some r := h
 clear h
 replace H := ip H
 obtain ⟨c2, H⟩ := H
 have c2b0 := eq_true c2
 have c2b1 := decide_eq_true c2
 have c2b2 := nf c2
 replace H := oa H
 obtain ⟨t333, A3, H⟩ := H
 replace H := ip H
 obtain ⟨c4, H⟩ := H
 have c4b0 := eq_true c4
 have c4b1 := decide_eq_true c4
 have c4b2 := nf c4
 try (have c4b3 := c4b2; simp only [ByteArray.size_append, show (⟨#[32]⟩ : ByteArray).size = 1 from rfl] at c4b3)
 replace H := ip H
 obtain ⟨c5, H⟩ := H
 have c5b0 := eq_true c5
 have c5b1 := decide_eq_true c5
 have c5b2 := nf c5
 try (have c5b3 := c5b2; simp only [ByteArray.size_append, show (⟨#[32]⟩ : ByteArray).size = 1 from rfl] at c5b3)
 replace H := oa H
 obtain ⟨t334, A6, H⟩ := H
 replace H := ip H
 obtain ⟨c7, H⟩ := H
 have c7b0 := eq_true c7
 have c7b1 := decide_eq_true c7
 have c7b2 := nf c7
 try (have c7b3 := c7b2; simp only [ByteArray.size_append, show (⟨#[32]⟩ : ByteArray).size = 1 from rfl] at c7b3)
 obtain rfl := Option.some.inj H
 go_enter Tryz.func71, Tryz.ntmps71
 try go_wp2_with ((with_reducible refine gg ?_); refine bE 1 #[.string a0_0, .int .i64 a0_1, .int .i64 a0_2] 93 ?_; intro gb332 hg w8 hbox hb; have BK332 := am (hbox); have GW332 := zB hg HB; have GE332 := zB hg HB; replace HB := kH HB hb; clear hb hbox hg)
 replace BK332 := am (blk_drew BK332.out)
 replace HB := am (below_drew1 HB.out)
 refine start_ (n := 13) (S := cs3 gb332 (.string a0_0) (.int .i64 a0_1) (.int .i64 a0_2)) (ds := []) (bm 13 0) (by kernel_rfl) rfl rfl (bz3 BK332) (fun hHeld => ?_); refine with_tabW spec_l5Text.tab1 spec_l5Text.bits1 (fun HT_ HW_ => ?_)
 generalize w8.drew = w9 at BK332 HB hHeld ⊢
 refine pA 0 3 (bm 13 1) HT_ ?_
 refine pA 3 6 (bm 13 9) HT_ ?_
 refine pA 8 11 (bm 13 265) HT_ ?_
 refine tA 1 4 (bm 13 267) HT_ HW_ hHeld ?_
 refine pA 2 5 (bm 13 271) HT_ ?_
 refine tA 4 7 (bm 13 287) HT_ HW_ hHeld ?_
 refine tA 9 12 (bm 13 799) HT_ HW_ hHeld ?_
 refine oA 5 (some 8) (bm 13 831) HT_ fun K hK => ?_
 refine gA Tryz.func59 #[.int .i64 a0_1] ?_
 with_reducible refine (spec_l1Dec.calls k a0_1 t333 _ A3.out).mono ?_
 rintro e w10 ⟨rfl, hb⟩
 refine ⟨_, rfl, ?_⟩
 replace BK332 := kP _ BK332 hb
 replace HB := kH HB hb
 (try clear hb)
 (try clear hb2)
 (try clear hk)
 (try clear hi)
 refine hK.out _ _ (bz3 BK332) (fun hHeld => ?_)
 clear hK K
 refine nA (some 8) ?_
 refine pA 6 9 (bm 13 895) HT_ ?_
 refine pA 7 10 (bm 13 1023) HT_ ?_
 refine oA 10 (some 13) (bm 13 2047) HT_ fun K hK => ?_
 refine gA Tryz.func59 #[.int .i64 a0_2] ?_
 with_reducible refine (spec_l1Dec.calls k a0_2 t334 _ A6.out).mono ?_
 rintro e w11 ⟨rfl, hb⟩
 refine ⟨_, rfl, ?_⟩
 replace BK332 := kP _ BK332 hb
 replace HB := kH HB hb
 (try clear hb)
 (try clear hb2)
 (try clear hk)
 (try clear hi)
 refine hK.out _ _ (bz3 BK332) (fun hHeld => ?_)
 clear hK K
 refine nA (some 13) ?_
 refine pA 11 14 (bm 13 4095) HT_ ?_
 refine pA 12 2 (bm 13 8191) HT_ ?_
 refine done_ (done_of HT_.out (by kernel_rfl)) ?_
 try go_wp2
 go_ret
 exact ⟨xE, xB HB⟩
def spec_l5Root.l0 : Nat → List (S93) → ByteArray → Int → Option (ByteArray)
 | 0, _, _, _ => none
 | k + 1, x0, x3, x4 => if x4 < (x0.length : Int) then (if x3.size + 1 ≤ 9223372036854775807 then (if 0 ≤ x4 then ((spec_l5Text.f k ((rd_T93 x0 x4).f0) ((rd_T93 x0 x4).f1) ((rd_T93 x0 x4).f2)).bind fun t336 => (if (x3 ++ (⟨#[32]⟩ : ByteArray)).size + t336.size ≤ 9223372036854775807 then (spec_l5Root.l0 k x0 ((x3 ++ (⟨#[32]⟩ : ByteArray)) ++ t336) (wrap64 (x4 + 1))) else (none))) else (none)) else (none)) else ((spec_l1Sum.f k x3).bind fun t337 => (some t337))
def spec_l5Root.f (k : Nat) (l0 : List (S93)) : Option (ByteArray) := spec_l5Root.l0 k l0 (⟨#[114, 97, 110, 103, 101]⟩ : ByteArray) 0
theorem spec_l5Root.mono_l : ∀ k, (∀ y0 y1 y2, LeO (spec_l5Root.l0 k y0 y1 y2) (spec_l5Root.l0 (k + 1) y0 y1 y2))
 | 0 => fun _ _ _ r h => by simp [spec_l5Root.l0] at h
 | k + 1 => by
  have ih0 := spec_l5Root.mono_l k
  ·intro y0 y1 y2
   unfold spec_l5Root.l0
   exact mo3 ih0 spec_l1Sum.mono spec_l5Text.mono
theorem spec_l5Root.mono : ∀ a0 k, LeO (spec_l5Root.f k a0) (spec_l5Root.f (k + 1) a0) := by
 intro a0 k
 have ih0 := spec_l5Root.mono_l k
 unfold spec_l5Root.f
 exact mo3 ih0 spec_l1Sum.mono spec_l5Text.mono
theorem spec_l5Root.calls (k : Nat) (A0 : Option Addr) (c0 : Nat) (l0 : List (S93)) (r : ByteArray) (w : World) (hr0 : Kd.C k93 w A0 l0.length l0) (hc0 : l0.length ≤ c0) (h : spec_l5Root.f k l0 = some r) :
  Calls Tryz.prog 42 #[.slice A0 l0.length c0] w fun e w' => e = .returned (.string r) ∧ Below w.heap.size w w' := by
 have hu93 := Tryz.underlying93
 have HR0 := Aside0.mk hr0
 have HC0 := Aside0.mk hc0
 clear hr0 hc0
 have HB := Aside0.mk (Below.refl w.heap.size w)
 have H : (spec_l5Root.l0 k l0 (⟨#[114, 97, 110, 103, 101]⟩ : ByteArray) 0) = some r := h
 clear h
 have H' := Aside0.mk H
 clear H
 go_enter Tryz.func42, Tryz.ntmps42
 go_wp2
 go_loopg [3, 4] k (fun kq v3 v4 w' => ∃ (x3_1 : ByteArray) (x4_1 : Int), v3 = .string x3_1 ∧ v4 = .int .i64 x4_1 ∧ Aside0 (spec_l5Root.l0 kq l0 x3_1 x4_1 = some r) ∧ Aside0 (kq ≤ k) ∧ Aside0 (Below w.heap.size w w'))
 case atStart => exact ⟨((⟨#[114, 97, 110, 103, 101]⟩ : ByteArray)), (0), xR, xR, H', ⟨Nat.le_refl _⟩, ⟨bl HB⟩⟩
 case round =>
  clear H'
  obtain ⟨x3_1, x4_1, rfl, rfl, HA, HK1, HB⟩ := hrel
  cases gk with
  | zero => exact absurd HA.out (by simp [spec_l5Root.l0])
  | succ k1 =>
   have H := HA.out
   clear HA
   simp only [spec_l5Root.l0] at H
   by_cases c2 : x4_1 < (l0.length : Int)
   rotate_left
   ·rw [if_neg c2] at H
    have c2b0 := decide_eq_false c2
    clear c2
    replace H := oa H
    obtain ⟨t337, A8, H⟩ := H
    obtain rfl := Option.some.inj H
    go_wp2_with ((with_reducible refine gg ?_); refine gL 20 Tryz.func47 #[.string x3_1] ?_; (with_reducible refine (spec_l1Sum.calls k1 x3_1 t337 _ A8.out).mono ?_); rintro e w9 ⟨rfl, hb⟩; refine ⟨_, rfl, ?_⟩; replace HB := kH HB hb; (try clear hb))
    go_ret
    exact ⟨xE, bl HB⟩
   rw [if_pos c2] at H
   have c2b0 := decide_eq_true c2
   clear c2
   replace H := ip H
   obtain ⟨c3, H⟩ := H
   have c3b0 := eq_true c3
   have c3b1 := decide_eq_true c3
   have c3b2 := nf c3
   replace H := ipd H
   obtain ⟨c4b0, H⟩ := H
   replace H := oa H
   obtain ⟨t336, A5, H⟩ := H
   replace H := ip H
   obtain ⟨c6, H⟩ := H
   have c6b0 := eq_true c6
   have c6b1 := decide_eq_true c6
   have c6b2 := nf c6
   try (have c6b3 := c6b2; simp only [ByteArray.size_append, show (⟨#[32]⟩ : ByteArray).size = 1 from rfl] at c6b3)
   have H' := Aside0.mk H
   clear H
   have p335 : 0 ≤ (x4_1 : Int) := of_decide_eq_true xA
   have q335 : x4_1 < (l0.length : Int) := of_decide_eq_true xA
   obtain ⟨ad335, e335, hx335_0, hx335_1, hx335_2⟩ := at_T93 HR0.out x4_1 p335 q335
   cases e335
   replace hx335_0 := hc HB hx335_0
   replace hx335_1 := hc HB hx335_1
   replace hx335_2 := hc HB hx335_2
   replace p335 := eq_true p335
   replace q335 := eq_true q335
   go_wp2_with ((with_reducible refine gg ?_); refine gL 17 Tryz.func71 #[.agg #[.string ((rd_T93 l0 x4_1).f0), .int .i64 ((rd_T93 l0 x4_1).f1), .int .i64 ((rd_T93 l0 x4_1).f2)]] ?_; (with_reducible refine (spec_l5Text.calls k1 ((rd_T93 l0 x4_1).f0) ((rd_T93 l0 x4_1).f1) ((rd_T93 l0 x4_1).f2) t336 _ A5.out).mono ?_); rintro e w7 ⟨rfl, hb⟩; refine ⟨_, rfl, ?_⟩; replace HB := kH HB hb; (try clear hb))
   go_roundg k1
   case measure => have := HK1.out; omega
   case rel => exact ⟨((x3_1 ++ (⟨#[32]⟩ : ByteArray)) ++ t336), (wrap64 (x4_1 + 1)), xR, xR, H', ⟨xL HK1⟩, ⟨bl HB⟩⟩
def spec_l5Both.f (k : Nat) (a0_0 : ByteArray) (a0_1 : Int) (a0_2 : Int) (a1_0 : ByteArray) (a1_1 : Int) (a1_2 : Int) : Option (ByteArray × Int × Int) := (spec_l5Text.f k a0_0 a0_1 a0_2).bind fun t341 => (if 5 + t341.size ≤ 9223372036854775807 then (if ((⟨#[112, 101, 97, 107, 32]⟩ : ByteArray) ++ t341).size + 1 ≤ 9223372036854775807 then ((spec_l5Text.f k a1_0 a1_1 a1_2).bind fun t342 => (if (((⟨#[112, 101, 97, 107, 32]⟩ : ByteArray) ++ t341) ++ (⟨#[32]⟩ : ByteArray)).size + t342.size ≤ 9223372036854775807 then ((spec_l1Sum.f k ((((⟨#[112, 101, 97, 107, 32]⟩ : ByteArray) ++ t341) ++ (⟨#[32]⟩ : ByteArray)) ++ t342)).bind fun t343 => (some (t343, wrap64 (a0_1 + a1_1), wrap64 (a0_2 + a1_2)))) else (none))) else (none)) else (none))
theorem spec_l5Both.mono : ∀ a0 a1 a2 a3 a4 a5 k, LeO (spec_l5Both.f k a0 a1 a2 a3 a4 a5) (spec_l5Both.f (k + 1) a0 a1 a2 a3 a4 a5) := by
 intro a0 a1 a2 a3 a4 a5 k
 unfold spec_l5Both.f
 exact mo2 spec_l1Sum.mono spec_l5Text.mono
def spec_l5Both.T1 : Bool × List (List Nat × List Nat) := (true, [([], []), ([0], [0]), ([1], [1]), ([2], [2]), ([], []), ([4, 1], [4]), ([3, 5], [3, 5]), ([6, 5], [6]), ([], []), ([8], [8]), ([], []), ([10], [10]), ([9, 11], [9, 11]), ([], []), ([13], [13]), ([], []), ([15], [15]), ([14, 16], [14, 16]), ([7, 12, 17], [7, 12, 17]), ([18, 7, 0, 1, 2, 3, 4, 5, 6, 7, 8, 9, 10, 11, 12, 13, 14, 15, 16, 17, 18], [18])])
def spec_l5Both.B1 : List Nat := [0, 1, 3, 7, 0, 19, 63, 127, 0, 256, 0, 1024, 3840, 0, 8192, 0, 32768, 122880, 262143, 524287]
theorem spec_l5Both.tab1 : rtab .any (opsOf Tryz.f90 1) = spec_l5Both.T1 := by kernel_rfl
theorem spec_l5Both.bits1 : waitsOk spec_l5Both.T1.2 spec_l5Both.B1 = true := by kernel_rfl
theorem spec_l5Both.calls (k : Nat) (a0_0 : ByteArray) (a0_1 : Int) (a0_2 : Int) (a1_0 : ByteArray) (a1_1 : Int) (a1_2 : Int) (r1 : ByteArray) (r2 : Int) (r3 : Int) (w : World) (h : spec_l5Both.f k a0_0 a0_1 a0_2 a1_0 a1_1 a1_2 = some (r1, r2, r3)) :
  Calls Tryz.prog 90 #[.agg #[.string a0_0, .int .i64 a0_1, .int .i64 a0_2], .agg #[.string a1_0, .int .i64 a1_1, .int .i64 a1_2]] w fun e w' => e = .returned (.agg #[.string r1, .int .i64 r2, .int .i64 r3]) ∧ Below w.heap.size w w' := by
 have hu93 := Tryz.underlying93
 have HB := Aside0.mk (Below.refl w.heap.size w)
 have H : ((spec_l5Text.f k a0_0 a0_1 a0_2).bind fun t341 => (if 5 + t341.size ≤ 9223372036854775807 then (if ((⟨#[112, 101, 97, 107, 32]⟩ : ByteArray) ++ t341).size + 1 ≤ 9223372036854775807 then ((spec_l5Text.f k a1_0 a1_1 a1_2).bind fun t342 => (if (((⟨#[112, 101, 97, 107, 32]⟩ : ByteArray) ++ t341) ++ (⟨#[32]⟩ : ByteArray)).size + t342.size ≤ 9223372036854775807 then ((spec_l1Sum.f k ((((⟨#[112, 101, 97, 107, 32]⟩ : ByteArray) ++ t341) ++ (⟨#[32]⟩ : ByteArray)) ++ t342)).bind fun t343 => (some (t343, wrap64 (a0_1 + a1_1), wrap64 (a0_2 + a1_2)))) else (none))) else (none)) else (none))) = some (r1, r2, r3) := h
 clear h
 replace H := oa H
 obtain ⟨t341, A3, H⟩ := H
 replace H := ip H
 obtain ⟨c4, H⟩ := H
 have c4b0 := eq_true c4
 have c4b1 := decide_eq_true c4
 have c4b2 := nf c4
 replace H := ip H
 obtain ⟨c5, H⟩ := H
 have c5b0 := eq_true c5
 have c5b1 := decide_eq_true c5
 have c5b2 := nf c5
 try (have c5b3 := c5b2; simp only [ByteArray.size_append, show (⟨#[112, 101, 97, 107, 32]⟩ : ByteArray).size = 5 from rfl] at c5b3)
 replace H := oa H
 obtain ⟨t342, A6, H⟩ := H
 replace H := ip H
 obtain ⟨c7, H⟩ := H
 have c7b0 := eq_true c7
 have c7b1 := decide_eq_true c7
 have c7b2 := nf c7
 try (have c7b3 := c7b2; simp only [ByteArray.size_append, show (⟨#[112, 101, 97, 107, 32]⟩ : ByteArray).size = 5 from rfl, show (⟨#[32]⟩ : ByteArray).size = 1 from rfl] at c7b3)
 replace H := oa H
 obtain ⟨t343, A8, H⟩ := H
 simp only [Option.some.injEq, Prod.mk.injEq] at H
 obtain ⟨rfl, rfl, rfl⟩ := H
 go_enter Tryz.func90, Tryz.ntmps90
 try go_wp2_with ((with_reducible refine gg ?_); first | (refine bE 2 #[.string a0_0, .int .i64 a0_1, .int .i64 a0_2] 93 ?_; intro gb338 hg w9 hbox hb; have BK338 := am (hbox); have GW338 := zB hg HB; have GE338 := zB hg HB; replace HB := kH HB hb; clear hb hbox hg) | (refine bE 3 #[.string a1_0, .int .i64 a1_1, .int .i64 a1_2] 93 ?_; intro gb339 hg w10 hbox hb; have BK339 := am (hbox); have GW339 := zB hg HB; have GE339 := zB hg HB; replace HB := kH HB hb; have NB338_339 := nl hg (kb BK338); have NB339_338 := ng hg (kb BK338); replace BK338 := kP _ BK338 hb; clear hb hbox hg) | (refine bE 4 #[.string (⟨#[]⟩ : ByteArray), .int .i64 0, .int .i64 0] 93 ?_; intro gb340 hg w11 hbox hb; have BK340 := am (hbox); have GW340 := zB hg HB; have GE340 := zB hg HB; replace HB := kH HB hb; have NB338_340 := nl hg (kb BK338); have NB340_338 := ng hg (kb BK338); replace BK338 := kP _ BK338 hb; have NB339_340 := nl hg (kb BK339); have NB340_339 := ng hg (kb BK339); replace BK339 := kP _ BK339 hb; clear hb hbox hg))
 replace BK338 := am (blk_drew BK338.out)
 replace BK339 := am (blk_drew BK339.out)
 replace BK340 := am (blk_drew BK340.out)
 replace HB := am (below_drew1 HB.out)
 refine start_ (n := 20) (S := fun w' => w'.cell? ⟨gb338, 0, none⟩ = some (.string a0_0) ∧ w'.cell? ⟨gb338, 1, none⟩ = some (.int .i64 a0_1) ∧ w'.cell? ⟨gb338, 2, none⟩ = some (.int .i64 a0_2) ∧ cs3 gb339 (.string a1_0) (.int .i64 a1_1) (.int .i64 a1_2) w') (ds := []) (bm 20 0) (by kernel_rfl) rfl rfl ⟨(blk_cell BK338.out 0).trans rfl, (blk_cell BK338.out 1).trans rfl, (blk_cell BK338.out 2).trans rfl, (blk_cell BK339.out 0).trans rfl, (blk_cell BK339.out 1).trans rfl, (blk_cell BK339.out 2).trans rfl⟩ (fun hHeld => ?_); refine with_tabW spec_l5Both.tab1 spec_l5Both.bits1 (fun HT_ HW_ => ?_)
 generalize w11.drew = w12 at BK338 BK339 BK340 HB hHeld ⊢
 refine pA 8 13 (bm 20 256) HT_ ?_
 refine pA 10 15 (bm 20 1280) HT_ ?_
 refine pA 13 18 (bm 20 9472) HT_ ?_
 refine pA 15 20 (bm 20 42240) HT_ ?_
 refine tA 0 5 (bm 20 42241) HT_ HW_ hHeld ?_
 refine tA 4 9 (bm 20 42257) HT_ HW_ hHeld ?_
 refine tA 9 14 (bm 20 42769) HT_ HW_ hHeld ?_
 refine tA 11 16 (bm 20 44817) HT_ HW_ hHeld ?_
 refine pA 12 17 (bm 20 48913) HT_ ?_
 refine tA 14 19 (bm 20 65297) HT_ HW_ hHeld ?_
 refine tA 16 21 (bm 20 130833) HT_ HW_ hHeld ?_
 refine pA 17 22 (bm 20 261905) HT_ ?_
 refine oA 1 (some 6) (bm 20 261907) HT_ fun K hK => ?_
 refine gA Tryz.func71 #[.agg #[.string a0_0, .int .i64 a0_1, .int .i64 a0_2]] ?_
 with_reducible refine (spec_l5Text.calls k a0_0 a0_1 a0_2 t341 _ A3.out).mono ?_
 rintro e w13 ⟨rfl, hb⟩
 refine ⟨_, rfl, ?_⟩
 replace BK338 := kP _ BK338 hb
 replace BK339 := kP _ BK339 hb
 replace BK340 := kP _ BK340 hb
 replace HB := kH HB hb
 (try clear hb)
 (try clear hb2)
 (try clear hk)
 (try clear hi)
 refine hK.out _ _ ⟨(blk_cell BK338.out 0).trans rfl, (blk_cell BK338.out 1).trans rfl, (blk_cell BK338.out 2).trans rfl, (blk_cell BK339.out 0).trans rfl, (blk_cell BK339.out 1).trans rfl, (blk_cell BK339.out 2).trans rfl⟩ (fun hHeld => ?_)
 clear hK K
 refine nA (some 6) ?_
 refine pA 2 7 (bm 20 261911) HT_ ?_
 refine pA 3 8 (bm 20 261919) HT_ ?_
 refine oA 5 (some 10) (bm 20 261951) HT_ fun K hK => ?_
 refine gA Tryz.func71 #[.agg #[.string a1_0, .int .i64 a1_1, .int .i64 a1_2]] ?_
 with_reducible refine (spec_l5Text.calls k a1_0 a1_1 a1_2 t342 _ A6.out).mono ?_
 rintro e w14 ⟨rfl, hb⟩
 refine ⟨_, rfl, ?_⟩
 replace BK338 := kP _ BK338 hb
 replace BK339 := kP _ BK339 hb
 replace BK340 := kP _ BK340 hb
 replace HB := kH HB hb
 (try clear hb)
 (try clear hb2)
 (try clear hk)
 (try clear hi)
 refine hK.out _ _ ⟨(blk_cell BK338.out 0).trans rfl, (blk_cell BK338.out 1).trans rfl, (blk_cell BK338.out 2).trans rfl, (blk_cell BK339.out 0).trans rfl, (blk_cell BK339.out 1).trans rfl, (blk_cell BK339.out 2).trans rfl⟩ (fun hHeld => ?_)
 clear hK K
 refine nA (some 10) ?_
 refine pA 6 11 (bm 20 262015) HT_ ?_
 refine oA 7 (some 12) (bm 20 262143) HT_ fun K hK => ?_
 refine gA Tryz.func47 #[.string ((((⟨#[112, 101, 97, 107, 32]⟩ : ByteArray) ++ t341) ++ (⟨#[32]⟩ : ByteArray)) ++ t342)] ?_
 with_reducible refine (spec_l1Sum.calls k ((((⟨#[112, 101, 97, 107, 32]⟩ : ByteArray) ++ t341) ++ (⟨#[32]⟩ : ByteArray)) ++ t342) t343 _ A8.out).mono ?_
 rintro e w15 ⟨rfl, hb⟩
 refine ⟨_, rfl, ?_⟩
 replace BK338 := kP _ BK338 hb
 replace BK339 := kP _ BK339 hb
 replace BK340 := kP _ BK340 hb
 replace HB := kH HB hb
 (try clear hb)
 (try clear hb2)
 (try clear hk)
 (try clear hi)
 refine hK.out _ _ ⟨(blk_cell BK338.out 0).trans rfl, (blk_cell BK338.out 1).trans rfl, (blk_cell BK338.out 2).trans rfl, (blk_cell BK339.out 0).trans rfl, (blk_cell BK339.out 1).trans rfl, (blk_cell BK339.out 2).trans rfl⟩ (fun hHeld => ?_)
 clear hK K
 refine nA (some 12) ?_
 refine pA 18 23 (bm 20 524287) HT_ ?_
 refine oA 19 none (bm 20 1048575) HT_ fun K hK => ?_
 have hs16 : w15.cell? ⟨gb340, 0, none⟩ = some (.string (⟨#[]⟩ : ByteArray)) := (blk_cell BK340.out 0).trans rfl
 have hfs16 := blk_frozen BK340.out 0
 have hns16_0 := NB338_340.out
 have hns16_1 := NB339_340.out
 have hms16_0 := NB340_338.out
 have hms16_1 := NB340_339.out
 have hs17 : w15.cell? ⟨gb340, 1, none⟩ = some (.int .i64 0) := (blk_cell BK340.out 1).trans rfl
 have hfs17 := blk_frozen BK340.out 1
 have hns17_0 := NB338_340.out
 have hns17_1 := NB339_340.out
 have hms17_0 := NB340_338.out
 have hms17_1 := NB340_339.out
 have hs18 : w15.cell? ⟨gb340, 2, none⟩ = some (.int .i64 0) := (blk_cell BK340.out 2).trans rfl
 have hfs18 := blk_frozen BK340.out 2
 have hns18_0 := NB338_340.out
 have hns18_1 := NB339_340.out
 have hms18_0 := NB340_338.out
 have hms18_1 := NB340_339.out
 refine skip_ (w1 := ?_) (by rfl) rfl ?_ ?_
 rotate_left
 ·go_simp
  rfl
 refine hK.out _ _ ⟨(cf NB338_340.out hHeld.1), (cf NB338_340.out hHeld.2.1), (cf NB338_340.out hHeld.2.2.1), (cf NB339_340.out hHeld.2.2.2.1), (cf NB339_340.out hHeld.2.2.2.2.1), (cf NB339_340.out hHeld.2.2.2.2.2)⟩ (fun hHeld => ?_)
 clear hK K
 refine done_ (done_of HT_.out (by kernel_rfl)) ?_
 try go_wp2
 refine bodyPost_ret (results_cell_row rfl _ _ gb340 93 #[.string t343, .int .i64 (wrap64 (a0_1 + a1_1)), .int .i64 (wrap64 (a0_2 + a1_2))] (0, 0) _ rfl (fb BK340) Tryz.underlying93 rfl (by kernel_rfl)) rfl ?_
 exact ⟨xE, xB HB⟩
def spec_l5Add.l0 : Nat → List (S93) → ByteArray → Int → Int → Option ((List (S93)))
 | 0, _, _, _, _ => none
 | k + 1, x5, x345000, x345001, x345002 => if (x5.length : Int) > 0 then (if 0 ≤ (wrap64 ((x5.length : Int) - 1)) then (if (wrap64 ((x5.length : Int) - 1)) < (x5.length : Int) then (if ((rd_T93 x5 (wrap64 ((x5.length : Int) - 1))).f2) = x345002 then ((spec_l5Both.f k ((rd_T93 x5 (wrap64 ((x5.length : Int) - 1))).f0) ((rd_T93 x5 (wrap64 ((x5.length : Int) - 1))).f1) ((rd_T93 x5 (wrap64 ((x5.length : Int) - 1))).f2) x345000 x345001 x345002).bind fun bt353 => (if (wrap64 ((x5.length : Int) - 1)) ≤ (x5.length : Int) then (spec_l5Add.l0 k (x5.take ((wrap64 ((x5.length : Int) - 1)) : Int).toNat) bt353.1 bt353.2.1 bt353.2.2) else (none))) else (if x5.length < 4398046511104 then (some (x5 ++ [(⟨x345000, x345001, x345002⟩ : S93)])) else (none))) else (none)) else (none)) else (if x5.length < 4398046511104 then (some (x5 ++ [(⟨x345000, x345001, x345002⟩ : S93)])) else (none))
def spec_l5Add.f (k : Nat) (l0 : List (S93)) (a1_0 : ByteArray) (a1_1 : Int) (a1_2 : Int) : Option ((List (S93))) := (some (([] : List (S93)) : List (S93))).bind fun y345 => (if y345.length + l0.length < 4398046511104 then (spec_l5Add.l0 k (y345 ++ l0) a1_0 a1_1 a1_2) else (none))
theorem spec_l5Add.mono_l : ∀ k, (∀ y0 y1 y2 y3, LeO (spec_l5Add.l0 k y0 y1 y2 y3) (spec_l5Add.l0 (k + 1) y0 y1 y2 y3))
 | 0 => fun _ _ _ _ r h => by simp [spec_l5Add.l0] at h
 | k + 1 => by
  have ih0 := spec_l5Add.mono_l k
  ·intro y0 y1 y2 y3
   unfold spec_l5Add.l0
   exact mo2 ih0 spec_l5Both.mono
theorem spec_l5Add.mono : ∀ a0 a1 a2 a3 k, LeO (spec_l5Add.f k a0 a1 a2 a3) (spec_l5Add.f (k + 1) a0 a1 a2 a3) := by
 intro a0 a1 a2 a3 k
 have ih0 := spec_l5Add.mono_l k
 unfold spec_l5Add.f
 exact mo2 ih0 spec_l5Both.mono
def spec_l5Add.T2 : Bool × List (List Nat × List Nat) := (true, [([], []), ([0], [0]), ([1], [1]), ([2], [2]), ([3], [3]), ([3], [3]), ([5, 3], [3, 5]), ([6, 3], [3, 6]), ([4, 7, 3], [3, 4, 7]), ([8, 3], [3, 8]), ([9, 3], [3, 9]), ([3], [3]), ([11, 3], [3, 11]), ([10, 12, 3], [3, 10, 12]), ([3, 13], [3, 13])])
def spec_l5Add.B2 : List Nat := [0, 1, 3, 7, 15, 15, 47, 111, 255, 511, 1023, 15, 2063, 8191, 16383]
theorem spec_l5Add.tab2 : rtab .any (opsOf Tryz.f72 2) = spec_l5Add.T2 := by kernel_rfl
theorem spec_l5Add.bits2 : waitsOk spec_l5Add.T2.2 spec_l5Add.B2 = true := by kernel_rfl
def spec_l5Add.T3 : Bool × List (List Nat × List Nat) := (true, [([], []), ([], []), ([1], [1]), ([2], [2]), ([0, 3], [0, 3]), ([4], [4]), ([], []), ([5, 6], [5, 6]), ([7, 7, 0, 1, 2, 3, 4, 5, 6, 7], [7])])
def spec_l5Add.B3 : List Nat := [0, 0, 2, 6, 15, 31, 0, 127, 255]
theorem spec_l5Add.tab3 : rtab .any (opsOf Tryz.f72 3) = spec_l5Add.T3 := by kernel_rfl
theorem spec_l5Add.bits3 : waitsOk spec_l5Add.T3.2 spec_l5Add.B3 = true := by kernel_rfl
theorem spec_l5Add.calls (k : Nat) (A0 : Option Addr) (c0 : Nat) (l0 : List (S93)) (a1_0 : ByteArray) (a1_1 : Int) (a1_2 : Int) (r : List (S93)) (w : World) (hr0 : Kd.C k93 w A0 l0.length l0) (hc0 : l0.length ≤ c0) (h : spec_l5Add.f k l0 a1_0 a1_1 a1_2 = some r) :
  Calls Tryz.prog 72 #[.slice A0 l0.length c0, .agg #[.string a1_0, .int .i64 a1_1, .int .i64 a1_2]] w fun e w' => ∃ v0_ : Value, e = .returned (v0_) ∧ Kd.R k93 93 w' w.heap.size (fun _ => True) v0_ r ∧ Below w.heap.size w w' := by
 have hu93 := Tryz.underlying93
 have HR0 := Aside0.mk hr0
 have HC0 := Aside0.mk hc0
 clear hr0 hc0
 have HB := Aside0.mk (Below.refl w.heap.size w)
 have H : ((some (([] : List (S93)) : List (S93))).bind fun y345 => (if y345.length + l0.length < 4398046511104 then (spec_l5Add.l0 k (y345 ++ l0) a1_0 a1_1 a1_2) else (none))) = some r := h
 clear h
 obtain ⟨y345, Ny345⟩ := yA (([] : List (S93)) : List (S93))
 rw [← Ny345.out] at H
 replace H := ipa H
 obtain ⟨LMc3, H⟩ := H
 obtain ⟨y348, Ny348⟩ := yA (y345 ++ l0 : List (S93))
 rw [← Ny348.out] at H
 have H' := Aside0.mk H
 clear H
 go_enter Tryz.func72, Tryz.ntmps72
 go_wp2_with (first | ((with_reducible refine gate_dst (N := 3) rfl ?_); (try (refine gate_guard (by rfl) ?_; dsimp only)); refine box_event ?hg (N := 3) ?hd (cs := #[.string a1_0, .int .i64 a1_1, .int .i64 a1_2]) (t := 93) ?hr ?_; (case hd => rfl); (case hg => rfl); (case hr => first | (go_simp; done) | (go_simp; rfl)); intro gb344 hg w4 hbox hb; have BK344 := am (hbox); have GW344 := zB hg HB; have GE344 := zB hg HB; replace HB := kH HB hb; clear hb hbox hg) | ((with_reducible refine gate_dst (N := 6) rfl ?_); (try (refine gate_guard (by rfl) ?_; dsimp only)); refine Kd.R_lit k93 _ 93 ?hg (N := 6) ?hd (xs := ([] : List (S93))) (inner := []) (ok := fun _ => True) (okp := fun _ => True) ?hr ?hp (fun _ hk => hk) trivial (Below.refl _ _) (Nat.le_refl _) (by simp) ?_; (case hd => rfl); (case hg => rfl); (case hr => first | (go_simp; done) | (go_simp; rfl)); (case hp => exact xP); intro v346 w5 ho6 hb hg_ hnew_; clear hg_ hnew_; (first | rw [← Ny345.out] at ho6 | (simp only [Int.reduceToNat] at ho6; rw [← Ny345.out] at ho6)); have HO347 := am (Kd.R_lower (Kd.R_newB ho6 (g := gb344) (o := .cells #[.string a1_0, .int .i64 a1_1, .int .i64 a1_2] 93 (0, 0)) (kb BK344)) (below_size (xB HB))); replace BK344 := kP _ BK344 hb; replace HB := kH HB hb; clear hb ho6) | ((with_reducible refine gate_builtin (b := .append) (xs := #[.tmp 6, .tmp 7]) rfl ?_); (try (refine gate_guard (by rfl) ?_; dsimp only)); at_builtin; refine Kd.R_append_rows k93 (w0 := w) w.heap.size rfl (.tmp 6) (.tmp 7) 25 93 (.agg #[(.string ⟨#[]⟩), (.int .i64 0), (.int .i64 0)]) 32 rfl Tryz.underlying25 info93 rfl (by decide) (by omega) v346 y345 l0 _ _ _ (fun k_ => k_ ≠ gb344) (fun _ => False) rfl rfl ?aO ?aR (fun _ _ h => h) (fun _ h => h.elim) ?aF ?aB ?aS ?aL ?_; (case aR => exact cb HR0 HB); (case aB => exact (xB HB)); (case aF => exact (fun k_ hk => Kd.freshB (g := gb344) (o := .cells #[.string a1_0, .int .i64 a1_1, .int .i64 a1_2] 93 (0, 0)) (kb BK344) k_ hk)); (case aO => exact (rM HO347 (fun _ hk => hk.2))); (case aS => exact (below_size (xB HB))); (case aL => have := LMc3.out; omega); intro v349 w7 ho hb hg hat; rw [← Ny348.out] at ho; have n0_ := Aside0.mk (blk_grown (g := gb344) (o := .cells #[.string a1_0, .int .i64 a1_1, .int .i64 a1_2] 93 (0, 0)) (kb BK344) hg (Kd.R_away HO347.out (fun _ hk => hk.2))); have n1_ := Aside0.mk (hb); have n2_ := Aside0.mk (ho); clear BK344; clear HB; clear HO347; have BK344 := n0_; have HB := n1_; have HO350 := n2_; clear n0_ n1_ n2_; clear ho hb hg hat))
 go_loopg [5] k (fun kq v5 w' => ∃ (x5_1 : List (S93)) (x345000_1 : ByteArray) (x345001_1 : Int) (x345002_1 : Int), Aside0 (spec_l5Add.l0 kq x5_1 x345000_1 x345001_1 x345002_1 = some r) ∧ Aside0 (kq ≤ k) ∧ Aside0 (Kd.R k93 93 w' w.heap.size (fun k_ => k_ ≠ gb344) v5 x5_1) ∧ Aside0 (w'.heap[gb344]? = some (.cells #[.string x345000_1, .int .i64 x345001_1, .int .i64 x345002_1] 93 (0, 0))) ∧ Aside0 (Below w.heap.size w w'))
 case atStart => exact ⟨(y348), (a1_0), (a1_1), (a1_2), H', ⟨Nat.le_refl _⟩, ⟨ra HO350⟩, ⟨kb BK344⟩, ⟨xB HB⟩⟩
 case round =>
  clear H'
  try clear p2
  try clear c3
  try clear c7
  obtain ⟨x5_1, x345000_1, x345001_1, x345002_1, HA, HK1, HO_5, BK344, HB⟩ := hrel
  cases gk with
  | zero => exact absurd HA.out (by simp [spec_l5Add.l0])
  | succ k1 =>
   have H := HA.out
   clear HA
   simp only [spec_l5Add.l0] at H
   by_cases c8 : (x5_1.length : Int) > 0
   rotate_left
   ·rw [if_neg c8] at H
    have c8b0 := decide_eq_false c8
    have c8b1 : decide (0 < x5_1.length) = false := decide_eq_false (by omega)
    clear c8
    replace H := ipa H
    obtain ⟨LMc29, H⟩ := H
    obtain ⟨y362, hy362⟩ : ∃ y_ : List (S93), y_ = (x5_1 ++ [(⟨x345000_1, x345001_1, x345002_1⟩ : S93)]) := ⟨_, rfl⟩
    replace H : (some y362) = some r := by first | (rw [hy362]; with_reducible exact H) | (have H2_ := (Option.bind_some _ _).symm.trans H; rw [hy362]; with_reducible exact H2_) | (have H2_ := (Option.bind_some _ _).symm.trans H; with_reducible exact H2_) | with_reducible exact H | (rw [hy362]; exact H) | exact H
    have Ny362 := Aside0.mk hy362
    clear hy362
    obtain rfl := Option.some.inj H
    try go_wp2
    replace HO_5 := am (Kd.R_drew HO_5.out)
    replace BK344 := am (blk_drew BK344.out)
    replace HB := am (below_drew1 HB.out)
    obtain ⟨Ao31, co31, eo31⟩ := Kd.R_slice HO_5.out
    (first | subst eo31 | (injection eo31 with f1_ f2_ f3_; have f4_ := f1_.symm; have f5_ := f3_.symm; clear f1_ f2_ f3_; subst f4_; subst f5_))
    refine start_ (n := 15) (S := fun w' => True) (ds := []) (bm 15 0) (by kernel_rfl) rfl rfl trivial (fun hHeld => ?_); refine with_tabW spec_l5Add.tab2 spec_l5Add.bits2 (fun HT_ HW_ => ?_)
    generalize wr.drew = w30 at HO_5 BK344 HB hHeld ⊢
    refine pA 0 9 (bm 15 1) HT_ ?_
    refine pA 1 10 (bm 15 3) HT_ ?_
    refine pA 2 11 (bm 15 7) HT_ ?_
    refine pA 3 12 (bm 15 15) HT_ ?_
    refine pU 4 13 (bm 15 31) HT_ ?_
    refine pU 5 14 (bm 15 63) HT_ ?_
    refine pU 6 15 (bm 15 127) HT_ ?_
    refine pU 7 16 (bm 15 255) HT_ ?_
    refine pU 8 17 (bm 15 511) HT_ ?_
    refine pU 9 18 (bm 15 1023) HT_ ?_
    refine pU 10 19 (bm 15 2047) HT_ ?_
    refine pU 11 20 (bm 15 4095) HT_ ?_
    refine pU 12 21 (bm 15 8191) HT_ ?_
    refine pU 13 22 (bm 15 16383) HT_ ?_
    refine pA 14 23 (bm 15 32767) HT_ ?_
    refine done_ (done_of HT_.out (by kernel_rfl)) ?_
    have hz32 := bc3 BK344
    try go_wp2_with ((with_reducible refine gate_builtin (b := .append) (xs := #[.tmp 37, .tmp 39]) rfl ?_); (try (refine gate_guard (by rfl) ?_; dsimp only)); at_builtin; refine Kd.R_append k93 (w0 := w) w.heap.size rfl (.tmp 37) (.tmp 39) 25 93 (.agg #[(.string ⟨#[]⟩), (.int .i64 0), (.int .i64 0)]) 32 rfl Tryz.underlying25 info93 rfl (by decide) (by omega) (.slice Ao31 x5_1.length co31) x5_1 (⟨x345000_1, x345001_1, x345002_1⟩ : S93) [.string x345000_1, .int .i64 x345001_1, .int .i64 x345002_1] (fun k_ => k_ ≠ gb344) (fun _ => False) rfl rfl ?aP (fun _ hk => hk.elim) ?aF ?aO ?aB ?aS ?aL ?_; (case aP => exact k93_mkM _ _ _ (⟨x345000_1, x345001_1, x345002_1⟩ : S93)); (case aB => exact (xB HB)); (case aF => exact (fun k_ hk => Kd.freshB (g := gb344) (o := .cells #[.string x345000_1, .int .i64 x345001_1, .int .i64 x345002_1] 93 (0, 0)) (kb BK344) k_ hk)); (case aO => exact (ra HO_5)); (case aS => exact (below_size (xB HB))); (case aL => have := LMc29.out; omega); intro v363 w33 ho hb hg hat; rw [← Ny362.out] at ho; have n0_ := Aside0.mk (blk_grown (g := gb344) (o := .cells #[.string x345000_1, .int .i64 x345001_1, .int .i64 x345002_1] 93 (0, 0)) (kb BK344) hg (Kd.R_away HO_5.out (fun _ hk => hk))); have n1_ := Aside0.mk (hb); have n2_ := Aside0.mk (ho); clear BK344; clear HB; clear HO_5; have BK344 := n0_; have HB := n1_; have HO364 := n2_; clear n0_ n1_ n2_; clear ho hb hg hat)
    go_ret
    exact ⟨_, xE, rM HO364 (fun _ hk => trivial), xB HB⟩
   rw [if_pos c8] at H
   have c8b0 := decide_eq_true c8
   have c8b1 : decide (0 < x5_1.length) = true := decide_eq_true (by omega)
   clear c8
   obtain ⟨ji9, hji9⟩ := je (wrap64 ((x5_1.length : Int) - 1))
   first | rw [hji9] at H | simp only [hji9] at H
   have hji9w : (IntKind.i64.wrap ((x5_1.length : Int) - 1)) = ji9 := (i64_w _).trans hji9
   replace H := ipd H
   obtain ⟨c10b0, H⟩ := H
   replace H := ipd H
   obtain ⟨c11b0, H⟩ := H
   try go_wp2
   replace HO_5 := am (Kd.R_drew HO_5.out)
   replace BK344 := am (blk_drew BK344.out)
   replace HB := am (below_drew1 HB.out)
   obtain ⟨Ao16, co16, eo16⟩ := Kd.R_slice HO_5.out
   (first | subst eo16 | (injection eo16 with f1_ f2_ f3_; have f4_ := f1_.symm; have f5_ := f3_.symm; clear f1_ f2_ f3_; subst f4_; subst f5_))
   have p351 : 0 ≤ ((ji9) : Int) := of_decide_eq_true xA
   have q351 : (ji9) < (x5_1.length : Int) := of_decide_eq_true xA
   obtain ⟨ad351, e351, hx351_0, hx351_1, hx351_2⟩ := at_T93 (Kd.R_reads' HO_5.out).2.2 (ji9) p351 q351
   cases e351
   replace p351 := eq_true p351
   replace q351 := eq_true q351
   refine start_ (n := 15) (S := fun w' => w'.cell? ⟨gb344, 0, none⟩ = some (.string x345000_1) ∧ w'.cell? ⟨gb344, 1, none⟩ = some (.int .i64 x345001_1) ∧ w'.cell? ⟨gb344, 2, none⟩ = some (.int .i64 x345002_1) ∧ w'.cell? (ad351.add (((ji9)).toNat * 3)) = some (.string ((rd_T93 x5_1 (ji9)).f0)) ∧ w'.cell? ⟨(ad351.add (((ji9)).toNat * 3)).block, (ad351.add (((ji9)).toNat * 3)).off + 1, none⟩ = some (.int .i64 ((rd_T93 x5_1 (ji9)).f1)) ∧ w'.cell? ⟨(ad351.add (((ji9)).toNat * 3)).block, (ad351.add (((ji9)).toNat * 3)).off + 2, none⟩ = some (.int .i64 ((rd_T93 x5_1 (ji9)).f2))) (ds := []) (bm 15 0) (by kernel_rfl) rfl rfl ⟨(blk_cell BK344.out 0).trans rfl, (blk_cell BK344.out 1).trans rfl, (blk_cell BK344.out 2).trans rfl, hx351_0, hx351_1, hx351_2⟩ (fun hHeld => ?_); refine with_tabW spec_l5Add.tab2 spec_l5Add.bits2 (fun HT_ HW_ => ?_)
   generalize wr.drew = w15 at HO_5 BK344 HB hx351_0 hx351_1 hx351_2 hHeld ⊢
   refine pA 0 9 (bm 15 1) HT_ ?_
   refine pA 1 10 (bm 15 3) HT_ ?_
   refine pA 2 11 (bm 15 7) HT_ ?_
   refine pA 3 12 (bm 15 15) HT_ ?_
   refine pA 4 13 (bm 15 31) HT_ ?_
   refine pA 5 14 (bm 15 63) HT_ ?_
   refine pA 6 15 (bm 15 127) HT_ ?_
   refine pA 7 16 (bm 15 255) HT_ ?_
   refine pA 8 17 (bm 15 511) HT_ ?_
   refine pA 9 18 (bm 15 1023) HT_ ?_
   refine pA 11 20 (bm 15 3071) HT_ ?_
   refine tA 10 19 (bm 15 4095) HT_ HW_ hHeld ?_
   refine tA 12 21 (bm 15 8191) HT_ HW_ hHeld ?_
   refine pA 13 22 (bm 15 16383) HT_ ?_
   refine pA 14 23 (bm 15 32767) HT_ ?_
   refine done_ (done_of HT_.out (by kernel_rfl)) ?_
   by_cases c12 : ((rd_T93 x5_1 (ji9)).f2) = x345002_1
   rotate_left
   ·rw [if_neg c12] at H
    have c12b0 := beq_eq_false_iff_ne.mpr c12
    have c12b1 := bne_iff_ne.mpr c12
    try simp only [c12b0, c12b1, Bool.not_true, Bool.not_false]
    replace H := ipa H
    obtain ⟨LMc24, H⟩ := H
    obtain ⟨y359, hy359⟩ : ∃ y_ : List (S93), y_ = (x5_1 ++ [(⟨x345000_1, x345001_1, x345002_1⟩ : S93)]) := ⟨_, rfl⟩
    replace H : (some y359) = some r := by first | (rw [hy359]; with_reducible exact H) | (have H2_ := (Option.bind_some _ _).symm.trans H; rw [hy359]; with_reducible exact H2_) | (have H2_ := (Option.bind_some _ _).symm.trans H; with_reducible exact H2_) | with_reducible exact H | (rw [hy359]; exact H) | exact H
    have Ny359 := Aside0.mk hy359
    clear hy359
    obtain rfl := Option.some.inj H
    have hz27 := bc3 BK344
    try go_wp2_with ((with_reducible refine gate_builtin (b := .append) (xs := #[.tmp 37, .tmp 39]) rfl ?_); (try (refine gate_guard (by rfl) ?_; dsimp only)); at_builtin; refine Kd.R_append k93 (w0 := w) w.heap.size rfl (.tmp 37) (.tmp 39) 25 93 (.agg #[(.string ⟨#[]⟩), (.int .i64 0), (.int .i64 0)]) 32 rfl Tryz.underlying25 info93 rfl (by decide) (by omega) (.slice (some ad351) x5_1.length co16) x5_1 (⟨x345000_1, x345001_1, x345002_1⟩ : S93) [.string x345000_1, .int .i64 x345001_1, .int .i64 x345002_1] (fun k_ => k_ ≠ gb344) (fun _ => False) rfl rfl ?aP (fun _ hk => hk.elim) ?aF ?aO ?aB ?aS ?aL ?_; (case aP => exact k93_mkM _ _ _ (⟨x345000_1, x345001_1, x345002_1⟩ : S93)); (case aB => exact (xB HB)); (case aF => exact (fun k_ hk => Kd.freshB (g := gb344) (o := .cells #[.string x345000_1, .int .i64 x345001_1, .int .i64 x345002_1] 93 (0, 0)) (kb BK344) k_ hk)); (case aO => exact (ra HO_5)); (case aS => exact (below_size (xB HB))); (case aL => have := LMc24.out; omega); intro v360 w28 ho hb hg hat; rw [← Ny359.out] at ho; have n0_ := Aside0.mk (blk_grown (g := gb344) (o := .cells #[.string x345000_1, .int .i64 x345001_1, .int .i64 x345002_1] 93 (0, 0)) (kb BK344) hg (Kd.R_away HO_5.out (fun _ hk => hk))); have n1_ := Aside0.mk (hb); have n2_ := Aside0.mk (ho); clear BK344; clear HB; clear HO_5; have BK344 := n0_; have HB := n1_; have HO361 := n2_; clear n0_ n1_ n2_; clear ho hb hg hat)
    go_ret
    exact ⟨_, by first | rfl | (simp [errW_none, errW_some] <;> rfl) | (simp only [← hji9]; first | rfl | (simp [errW_none, errW_some] <;> rfl)) | (simp [*, errW_none, errW_some] <;> rfl), rM HO361 (fun _ hk => trivial), xB HB⟩
   rw [if_pos c12] at H
   have c12b0 := beq_iff_eq.mpr c12
   have c12b1 := bne_eq_false_iff_eq.mpr c12
   try simp only [c12b0, c12b1, Bool.not_true, Bool.not_false]
   clear c12
   replace H := Option.bind_eq_some_iff.mp H
   obtain ⟨⟨t353, t354, t355⟩, A130, H⟩ := H
   have A13 := Aside0.mk A130
   clear A130
   replace H := ip H
   obtain ⟨c14, H⟩ := H
   have c14b0 := eq_true c14
   have c14b1 := decide_eq_true c14
   clear c14
   obtain ⟨y356, Ny356⟩ := yA (x5_1.take ((ji9) : Int).toNat : List (S93))
   rw [← Ny356.out] at H
   have H' := Aside0.mk H
   clear H
   try go_wp2
   replace HO_5 := am (Kd.R_drew HO_5.out)
   replace BK344 := am (blk_drew BK344.out)
   replace HB := am (below_drew1 HB.out)
   have p352 : 0 ≤ ((ji9) : Int) := of_decide_eq_true xA
   have q352 : (ji9) < (x5_1.length : Int) := of_decide_eq_true xA
   obtain ⟨ad352, e352, hx352_0, hx352_1, hx352_2⟩ := at_T93 (Kd.R_reads' HO_5.out).2.2 (ji9) p352 q352
   obtain rfl : ad351 = ad352 := (by injection e352)
   replace p352 := eq_true p352
   replace q352 := eq_true q352
   refine start_ (n := 9) (S := fun w' => w'.cell? ⟨gb344, 0, none⟩ = some (.string x345000_1) ∧ w'.cell? ⟨gb344, 1, none⟩ = some (.int .i64 x345001_1) ∧ w'.cell? ⟨gb344, 2, none⟩ = some (.int .i64 x345002_1) ∧ w'.cell? (ad351.add (((ji9)).toNat * 3)) = some (.string ((rd_T93 x5_1 (ji9)).f0)) ∧ w'.cell? ⟨(ad351.add (((ji9)).toNat * 3)).block, (ad351.add (((ji9)).toNat * 3)).off + 1, none⟩ = some (.int .i64 ((rd_T93 x5_1 (ji9)).f1)) ∧ w'.cell? ⟨(ad351.add (((ji9)).toNat * 3)).block, (ad351.add (((ji9)).toNat * 3)).off + 2, none⟩ = some (.int .i64 ((rd_T93 x5_1 (ji9)).f2))) (ds := [8]) (bm 9 0) (by kernel_rfl) rfl rfl ⟨(blk_cell BK344.out 0).trans rfl, (blk_cell BK344.out 1).trans rfl, (blk_cell BK344.out 2).trans rfl, hx352_0, hx352_1, hx352_2⟩ (fun hHeld => ?_); refine with_tabW spec_l5Add.tab3 spec_l5Add.bits3 (fun HT_ HW_ => ?_)
   generalize w15.drew = w17 at HO_5 BK344 HB hx352_0 hx352_1 hx352_2 hHeld ⊢
   refine pA 0 24 (bm 9 1) HT_ ?_
   refine pA 1 25 (bm 9 3) HT_ ?_
   refine pA 2 26 (bm 9 7) HT_ ?_
   refine pA 3 27 (bm 9 15) HT_ ?_
   refine pA 4 28 (bm 9 31) HT_ ?_
   refine tA 5 29 (bm 9 63) HT_ HW_ hHeld ?_
   refine tA 6 30 (bm 9 127) HT_ HW_ hHeld ?_
   refine oA 7 (some 31) (bm 9 255) HT_ fun K hK => ?_
   refine goes_ Tryz.func90 (by kernel_rfl) rfl #[.agg #[.string ((rd_T93 x5_1 (ji9)).f0), .int .i64 ((rd_T93 x5_1 (ji9)).f1), .int .i64 ((rd_T93 x5_1 (ji9)).f2)], .agg #[.string x345000_1, .int .i64 x345001_1, .int .i64 x345002_1]] (by rfl) rfl rfl (by (try simp only [List.map_toArray, List.map_cons, List.map_nil]); first | done | (simp only [hji9]; rfl) | rfl | (simp only [List.length_drop, List.length_take]; rfl)) ?_
   with_reducible refine (spec_l5Both.calls k1 ((rd_T93 x5_1 (ji9)).f0) ((rd_T93 x5_1 (ji9)).f1) ((rd_T93 x5_1 (ji9)).f2) x345000_1 x345001_1 x345002_1 t353 t354 t355 _ A13.out).mono ?_
   rintro e w18 ⟨rfl, hb⟩
   have HS3_ := cB hb hHeld.2.2.2.1
   have HS4_ := cB hb hHeld.2.2.2.2.1
   have HS5_ := cB hb hHeld.2.2.2.2.2
   refine ⟨_, rfl, ?_⟩
   replace HO_5 := rk HO_5 hb
   replace BK344 := kP _ BK344 hb
   replace HB := kH HB hb
   (try clear hb)
   (try clear hb2)
   (try clear hk)
   (try clear hi)
   refine hK.out _ _ ⟨(blk_cell BK344.out 0).trans rfl, (blk_cell BK344.out 1).trans rfl, (blk_cell BK344.out 2).trans rfl, HS3_, HS4_, HS5_⟩ (fun hHeld => ?_)
   clear hK K
   refine nA (some 31) ?_
   refine last_ (i := 8) (N := none) (bm 9 511) rfl rfl (one_of HT_.out (by kernel_rfl)) (by decide) (fun K hK => ?_)
   have hs19 : w18.cell? ⟨gb344, 0, none⟩ = some (.string x345000_1) := (blk_cell BK344.out 0).trans rfl
   have hfs19 := blk_frozen BK344.out 0
   have hs20 : w18.cell? ⟨gb344, 1, none⟩ = some (.int .i64 x345001_1) := (blk_cell BK344.out 1).trans rfl
   have hfs20 := blk_frozen BK344.out 1
   have hs21 : w18.cell? ⟨gb344, 2, none⟩ = some (.int .i64 x345002_1) := (blk_cell BK344.out 2).trans rfl
   have hfs21 := blk_frozen BK344.out 2
   refine skip_ (w1 := ?_) (by rfl) rfl ?_ ?_
   rotate_left
   ·go_simp
    rfl
   refine hK.out _ _ ?_
   clear hK K
   refine done_ (done_of HT_.out (by kernel_rfl)) ?_
   have n0_ : Aside0 (Kd.R k93 93 (((w18.setCell ⟨gb344, 0, none⟩ (.string t353)).setCell ⟨gb344, 1, none⟩ (.int .i64 t354)).setCell ⟨gb344, 2, none⟩ (.int .i64 t355)) w.heap.size (fun k_ => k_ ≠ gb344) (.slice (some ad351) x5_1.length co16) x5_1) := ⟨by (with_reducible repeat (first | apply Kd.R_alloc | apply Kd.R_drewN | apply Kd.R_drew)); exact Kd.R_mono (Kd.R_far (p := ⟨gb344, 2, none⟩) (Kd.R_far (p := ⟨gb344, 1, none⟩) (Kd.R_far (p := ⟨gb344, 0, none⟩) (Kd.R_mono HO_5.out (fun k_ hk => (⟨hk, hk⟩ : _ ∧ k_ ≠ gb344))) (fun _ hk => hk.2) (.string t353)) (fun _ hk => hk.2) (.int .i64 t354)) (fun _ hk => hk.2) (.int .i64 t355)) (fun _ hk => hk.1)⟩
   have n1_ : Aside0 ((((w18.setCell ⟨gb344, 0, none⟩ (.string t353)).setCell ⟨gb344, 1, none⟩ (.int .i64 t354)).setCell ⟨gb344, 2, none⟩ (.int .i64 t355)).heap[gb344]? = some (.cells #[.string t353, .int .i64 t354, .int .i64 t355] 93 (0, 0))) := ⟨fb BK344⟩
   have n2_ : Aside0 (Below w.heap.size w (((w18.setCell ⟨gb344, 0, none⟩ (.string t353)).setCell ⟨gb344, 1, none⟩ (.int .i64 t354)).setCell ⟨gb344, 2, none⟩ (.int .i64 t355))) := ⟨xB HB⟩
   (try clear HO_5)
   (try clear BK344)
   (try clear HB)
   generalize (((w18.setCell ⟨gb344, 0, none⟩ (.string t353)).setCell ⟨gb344, 1, none⟩ (.int .i64 t354)).setCell ⟨gb344, 2, none⟩ (.int .i64 t355)) = w22 at n0_ n1_ n2_ ⊢
   have HO_5 := n0_
   have BK344 := n1_
   have HB := n2_
   clear n0_ n1_ n2_
   have q23 : ((ji9) : Int) ≤ ((x5_1.length : Int) : Int) := of_decide_eq_true xA
   obtain ⟨i023, hi023, _, hsz23, _⟩ := info_parts info93
   have hcut23 := cut_to (P := Tryz.prog) 25 93 .i64 Tryz.underlying25 hi023 (some ad351) x5_1.length co16 (ji9) (of_decide_eq_true xA) q23 (Kd.R_reads' HO_5.out).2.1
   have hr23 := Kd.R_take (m := ((ji9) : Int).toNat) HO_5.out (by omega)
   have hy23 : y356.length = ((ji9) : Int).toNat := (by rw [Ny356.out, List.length_take]; omega)
   rw [← Ny356.out] at hr23
   rw [← hy23] at hr23 hcut23
   clear hy23 hi023 hsz23 HO_5
   have HO358 := Aside0.mk hr23
   clear hr23
   replace q23 := eq_true q23
   try go_wp2
   go_roundg k1
   case measure => have := HK1.out; omega
   case rel => exact ⟨(y356), (t353), (t354), (t355), H', ⟨xL HK1⟩, ⟨ra HO358⟩, ⟨kb BK344⟩, ⟨xB HB⟩⟩
def spec_l5Leaf.f (k : Nat) (a0_0 : ByteArray) (a0_1 : ByteArray) (a0_2 : Int) (a0_3 : Int) (a0_4 : Int) : Option (ByteArray × Int × Int) := (spec_l3Put.f k a0_0 a0_1 a0_2 a0_3 a0_4).bind fun t367 => (if 5 + t367.size ≤ 9223372036854775807 then ((spec_l1Sum.f k ((⟨#[108, 101, 97, 102, 32]⟩ : ByteArray) ++ t367)).bind fun t368 => (some (t368, a0_3, 1))) else (none))
theorem spec_l5Leaf.mono : ∀ a0 a1 a2 a3 a4 k, LeO (spec_l5Leaf.f k a0 a1 a2 a3 a4) (spec_l5Leaf.f (k + 1) a0 a1 a2 a3 a4) := by
 intro a0 a1 a2 a3 a4 k
 unfold spec_l5Leaf.f
 exact mo2 spec_l1Sum.mono spec_l3Put.mono
def spec_l5Leaf.T1 : Bool × List (List Nat × List Nat) := (true, [([], []), ([0], [0]), ([1], [1]), ([2, 1], [2]), ([], []), ([4], [4]), ([3, 5], [3, 5]), ([6, 3, 0, 1, 2, 3, 4, 5, 6], [6])])
def spec_l5Leaf.B1 : List Nat := [0, 1, 3, 7, 0, 16, 63, 127]
theorem spec_l5Leaf.tab1 : rtab .any (opsOf Tryz.f73 1) = spec_l5Leaf.T1 := by kernel_rfl
theorem spec_l5Leaf.bits1 : waitsOk spec_l5Leaf.T1.2 spec_l5Leaf.B1 = true := by kernel_rfl
theorem spec_l5Leaf.calls (k : Nat) (a0_0 : ByteArray) (a0_1 : ByteArray) (a0_2 : Int) (a0_3 : Int) (a0_4 : Int) (r1 : ByteArray) (r2 : Int) (r3 : Int) (w : World) (h : spec_l5Leaf.f k a0_0 a0_1 a0_2 a0_3 a0_4 = some (r1, r2, r3)) :
  Calls Tryz.prog 73 #[.agg #[.string a0_0, .string a0_1, .int .i64 a0_2, .int .i64 a0_3, .int .i64 a0_4]] w fun e w' => e = .returned (.agg #[.string r1, .int .i64 r2, .int .i64 r3]) ∧ Below w.heap.size w w' := by
 have hu24 := Tryz.underlying24
 have hu93 := Tryz.underlying93
 have HB := Aside0.mk (Below.refl w.heap.size w)
 have H : ((spec_l3Put.f k a0_0 a0_1 a0_2 a0_3 a0_4).bind fun t367 => (if 5 + t367.size ≤ 9223372036854775807 then ((spec_l1Sum.f k ((⟨#[108, 101, 97, 102, 32]⟩ : ByteArray) ++ t367)).bind fun t368 => (some (t368, a0_3, 1))) else (none))) = some (r1, r2, r3) := h
 clear h
 replace H := oa H
 obtain ⟨t367, A2, H⟩ := H
 replace H := ip H
 obtain ⟨c3, H⟩ := H
 have c3b0 := eq_true c3
 have c3b1 := decide_eq_true c3
 have c3b2 := nf c3
 replace H := oa H
 obtain ⟨t368, A4, H⟩ := H
 simp only [Option.some.injEq, Prod.mk.injEq] at H
 obtain ⟨rfl, rfl, rfl⟩ := H
 go_enter Tryz.func73, Tryz.ntmps73
 try go_wp2_with ((with_reducible refine gg ?_); first | (refine bE 1 #[.string a0_0, .string a0_1, .int .i64 a0_2, .int .i64 a0_3, .int .i64 a0_4] 24 ?_; intro gb365 hg w5 hbox hb; have BK365 := am (hbox); have GW365 := zB hg HB; have GE365 := zB hg HB; replace HB := kH HB hb; clear hb hbox hg) | (refine store_event (t := 24) (p := 1) (v := ?vo_) (w1 := ?wo_) ?hg ?ho ?hn ?hr ?_; (case ho => rfl); (case hg => rfl); (case hn => rfl); (case hr => go_simp; rfl); intro wq_ hW_; have BQ_ := am hW_; have hzq_ := am hW_; replace hW_ := am hW_) | (refine bE 2 #[.string (⟨#[]⟩ : ByteArray), .int .i64 0, .int .i64 0] 93 ?_; (try (clear hzq_ BQ_; obtain ⟨hW_⟩ := hW_; subst hW_)); intro gb366 hg w6 hbox hb; have BK366 := am (hbox); have GW366 := zB hg HB; have GE366 := zB hg HB; replace HB := kH HB hb; have NB365_366 := nl hg (kb BK365); have NB366_365 := ng hg (kb BK365); replace BK365 := kP _ BK365 hb; clear hb hbox hg))
 replace BK365 := am (blk_drew BK365.out)
 replace BK366 := am (blk_drew BK366.out)
 replace HB := am (below_drew1 HB.out)
 (try (clear hzq_ BQ_; obtain ⟨hW_⟩ := hW_; subst hW_))
 refine start_ (n := 8) (S := cs5 gb365 (.string a0_0) (.string a0_1) (.int .i64 a0_2) (.int .i64 a0_3) (.int .i64 a0_4)) (ds := []) (bm 8 0) (by kernel_rfl) rfl rfl (bz5 BK365) (fun hHeld => ?_); refine with_tabW spec_l5Leaf.tab1 spec_l5Leaf.bits1 (fun HT_ HW_ => ?_)
 generalize w6.drew = w7 at BK365 BK366 HB hHeld ⊢
 refine pA 4 7 (bm 8 16) HT_ ?_
 refine tA 0 3 (bm 8 17) HT_ HW_ hHeld ?_
 refine tA 5 8 (bm 8 49) HT_ HW_ hHeld ?_
 refine oA 1 (some 4) (bm 8 51) HT_ fun K hK => ?_
 refine gA Tryz.func60 #[.agg #[.string a0_0, .string a0_1, .int .i64 a0_2, .int .i64 a0_3, .int .i64 a0_4]] ?_
 with_reducible refine (spec_l3Put.calls k a0_0 a0_1 a0_2 a0_3 a0_4 t367 _ A2.out).mono ?_
 rintro e w8 ⟨rfl, hb⟩
 refine ⟨_, rfl, ?_⟩
 replace BK365 := kP _ BK365 hb
 replace BK366 := kP _ BK366 hb
 replace HB := kH HB hb
 (try clear hb)
 (try clear hb2)
 (try clear hk)
 (try clear hi)
 refine hK.out _ _ (bz5 BK365) (fun hHeld => ?_)
 clear hK K
 refine nA (some 4) ?_
 refine pA 2 5 (bm 8 55) HT_ ?_
 refine oA 3 (some 6) (bm 8 63) HT_ fun K hK => ?_
 refine gA Tryz.func47 #[.string ((⟨#[108, 101, 97, 102, 32]⟩ : ByteArray) ++ t367)] ?_
 with_reducible refine (spec_l1Sum.calls k ((⟨#[108, 101, 97, 102, 32]⟩ : ByteArray) ++ t367) t368 _ A4.out).mono ?_
 rintro e w9 ⟨rfl, hb⟩
 refine ⟨_, rfl, ?_⟩
 replace BK365 := kP _ BK365 hb
 replace BK366 := kP _ BK366 hb
 replace HB := kH HB hb
 (try clear hb)
 (try clear hb2)
 (try clear hk)
 (try clear hi)
 refine hK.out _ _ (bz5 BK365) (fun hHeld => ?_)
 clear hK K
 refine nA (some 6) ?_
 refine pA 6 9 (bm 8 127) HT_ ?_
 refine oA 7 none (bm 8 255) HT_ fun K hK => ?_
 have hs10 : w9.cell? ⟨gb366, 0, none⟩ = some (.string (⟨#[]⟩ : ByteArray)) := (blk_cell BK366.out 0).trans rfl
 have hfs10 := blk_frozen BK366.out 0
 have hns10_0 := NB365_366.out
 have hms10_0 := NB366_365.out
 have hs11 : w9.cell? ⟨gb366, 1, none⟩ = some (.int .i64 0) := (blk_cell BK366.out 1).trans rfl
 have hfs11 := blk_frozen BK366.out 1
 have hns11_0 := NB365_366.out
 have hms11_0 := NB366_365.out
 have hs12 : w9.cell? ⟨gb366, 2, none⟩ = some (.int .i64 0) := (blk_cell BK366.out 2).trans rfl
 have hfs12 := blk_frozen BK366.out 2
 have hns12_0 := NB365_366.out
 have hms12_0 := NB366_365.out
 refine skip_ (w1 := ?_) (by rfl) rfl ?_ ?_
 rotate_left
 ·go_simp
  rfl
 refine hK.out _ _ ⟨(cf NB365_366.out hHeld.1), (cf NB365_366.out hHeld.2.1), (cf NB365_366.out hHeld.2.2.1), (cf NB365_366.out hHeld.2.2.2.1), (cf NB365_366.out hHeld.2.2.2.2)⟩ (fun hHeld => ?_)
 clear hK K
 refine done_ (done_of HT_.out (by kernel_rfl)) ?_
 try go_wp2
 (try (clear hzq_ BQ_; obtain ⟨hW_⟩ := hW_; subst hW_))
 refine bodyPost_ret (results_cell_row rfl _ _ gb366 93 #[.string t368, .int .i64 a0_3, .int .i64 1] (0, 0) _ rfl (fb BK366) Tryz.underlying93 rfl (by kernel_rfl)) rfl ?_
 exact ⟨xE, xB HB⟩

end Go.Proofs.YtgjljbaadglpnaaGreatDoor.PFnPaidPut
