/- Functions of the program and what each answers: the kit's print, shortened (wip/press2.py). -/
import Derived.Test.YtgjljbaadglpnaaDoorPFnHeadGetx0
import Derived.Test.YtgjljbaadglpnaaDoorPFnHeadGetx8
import Derived.Test.YtgjljbaadglpnaaDoorPFnHeadGetx11
import Derived.Test.YtgjljbaadglpnaaDoorPFnHeadGetx15
namespace Go.Proofs.YtgjljbaadglpnaaDoor.PFnHeadGet
open Go.Proofs.YtgjljbaadglpnaaDoor.Sq Go.RowKit Go.Proofs.YtgjljbaadglpnaaDoorW.PrintWords Go.Proofs.YtgjljbaadglpnaaDoorW.PrintLast Go.Proofs.YtgjljbaadglpnaaDoorW.PrintMore
attribute [local go_sem] max2_int min2_int max_two min_two max_three min_three max_four min_four   -- for this text's walks alone
set_option linter.unusedVariables false
set_option linter.unusedSimpArgs false
set_option maxHeartbeats 64000000
set_option maxRecDepth 100000
def spec_l20Items.l0 : Nat → List ByteArray → Int → List Int → Int → Option (List ByteArray × Int)
 | 0, _, _, _, _ => none
 | k + 1, x5, x6, x1000, x1001 => if x6 > 0 then ((spec_l20Item.f k x1000 x1001).bind fun bt390 => (if x5.length < 8796093022208 then (spec_l20Items.l0 k (x5 ++ [bt390.1]) (wrap64 (x6 - 1)) x1000 bt390.2) else (none))) else (some (x5, x1001))
def spec_l20Items.f (k : Nat) (s0_0 : List Int) (s0_1 : Int) (a1 : Int) : Option (List ByteArray × Int) := (spec_l20Rd_pick.f k s0_0 s0_1 (wrap64 (a1 + 1))).bind fun bt388 => (spec_l20Items.l0 k (([] : List ByteArray)) bt388.1 s0_0 bt388.2)
theorem spec_l20Items.mono_l : ∀ k, (∀ y0 y1 y2 y3, LeO (spec_l20Items.l0 k y0 y1 y2 y3) (spec_l20Items.l0 (k + 1) y0 y1 y2 y3))
 | 0 => fun _ _ _ _ r h => by simp [spec_l20Items.l0] at h
 | k + 1 => by
  have ih0 := spec_l20Items.mono_l k
  ·intro y0 y1 y2 y3
   unfold spec_l20Items.l0
   exact mo3 ih0 spec_l20Item.mono spec_l20Rd_pick.mono
theorem spec_l20Items.mono : ∀ a0 a1 a2 k, LeO (spec_l20Items.f k a0 a1 a2) (spec_l20Items.f (k + 1) a0 a1 a2) := by
 intro a0 a1 a2 k
 have ih0 := spec_l20Items.mono_l k
 unfold spec_l20Items.f
 exact mo3 ih0 spec_l20Item.mono spec_l20Rd_pick.mono
theorem spec_l20Items.calls (k : Nat) (g : Nat) (s0_0 : List Int) (s0_1 : Int) (a1 : Int) (r1 : List ByteArray) (r2 : Int) (w0 w : World) (hI : IsS111 w0 w g s0_0 s0_1) (hB : Below w0.heap.size w0 w) (h : spec_l20Items.f k s0_0 s0_1 a1 = some (r1, r2)) :
  Calls Tryd.prog 132 #[.pointer (some ⟨g, 0, none⟩), .int .i64 a1] w fun e w' => ∃ v0_ : Value, e = .returned (v0_) ∧ Kd.R Kd.string 9 w' w.heap.size (fun _ => True) v0_ r1 ∧ IsS111 w0 w' g s0_0 r2 ∧ Below w0.heap.size w0 w' ∧ KeepBut w w' g none := by
 have HI0 := Aside0.mk hI
 have HK := Aside0.mk (KeepBut.refl w g none)
 have HL := Aside0.mk hB.size
 clear hI
 have HW0 := Aside0.mk hB.size
 have HB := Aside0.mk hB
 clear hB
 have H : ((spec_l20Rd_pick.f k s0_0 s0_1 (wrap64 (a1 + 1))).bind fun bt388 => (spec_l20Items.l0 k (([] : List ByteArray)) bt388.1 s0_0 bt388.2)) = some (r1, r2) := h
 clear h
 obtain ⟨y385, Ny385⟩ := yA (([] : List ByteArray) : List ByteArray)
 rw [← Ny385.out] at H
 replace H := Option.bind_eq_some_iff.mp H
 obtain ⟨⟨t388, t389⟩, A30, H⟩ := H
 have A3 := Aside0.mk A30
 clear A30
 have H' := Aside0.mk H
 clear H
 go_enter Tryd.func132, Tryd.ntmps132
 go_wp2_with (first | ((with_reducible refine gate_dst (N := 7) rfl ?_); refine Kd.R_lit Kd.string _ 9 ?hg (N := 7) ?hd (xs := ([] : List ByteArray)) (inner := []) (ok := fun _ => True) (okp := fun _ => True) ?hr ?hp (fun _ hk => hk) trivial (Below.refl _ _) (Nat.le_refl _) (by simp) ?_; (case hd => rfl); (case hg => rfl); (case hr => first | (go_simp; done) | (go_simp; rfl)); (case hp => exact xP); intro v386 w4 ho5 hb hg_ hnew_; clear hg_ hnew_; (first | rw [← Ny385.out] at ho5 | (simp only [Int.reduceToNat] at ho5; rw [← Ny385.out] at ho5)); have HO387 := am (Kd.R_lower ho5 (xZ HK)); replace HK := kK HK hb; replace HB := kHi HB hb; replace HI0 := iK HI0 hb; clear hb ho5) | ((with_reducible refine gg ?_); refine gL 11 Tryd.func55 #[.pointer (some ⟨g, 0, none⟩), .int .i64 (wrap64 (a1 + 1))] ?_; (with_reducible refine (spec_l20Rd_pick.calls k g s0_0 s0_1 (wrap64 (a1 + 1)) t388 t389 w0 _ ?side1 ?side2 A3.out).mono ?_); (case side1 => exact iX HI0); (case side2 => exact xBi HB); rintro e w6 ⟨rfl, hi, hb, hk⟩; refine ⟨_, rfl, ?_⟩; replace HO387 := iR HI0 HO387 hk; replace HK := kT HK hk; replace HB := am (hb); replace HI0 := am (hi); (try clear hb)))
 go_loopg [5, 6] k (fun kq v5 v6 w' => ∃ (x5_1 : List ByteArray) (x6_1 : Int) (x1001_1 : Int), v6 = .int .i64 x6_1 ∧ Aside0 (spec_l20Items.l0 kq x5_1 x6_1 s0_0 x1001_1 = some (r1, r2)) ∧ Aside0 (kq ≤ k) ∧ Aside0 (Kd.R Kd.string 9 w' w.heap.size (fun _ => True) v5 x5_1) ∧ Aside0 (IsS111 w0 w' g s0_0 x1001_1) ∧ Aside0 (KeepBut w w' g none) ∧ Aside0 (Below w0.heap.size w0 w'))
 case atStart => exact ⟨(y385), (t388), (t389), xR, H', ⟨Nat.le_refl _⟩, ⟨ra HO387⟩, ⟨iX HI0⟩, ⟨xK HK⟩, ⟨xBi HB⟩⟩
 case round =>
  clear H'
  try clear c1
  try clear p2
  try clear c5
  try clear p6
  obtain ⟨x5_1, x6_1, x1001_1, rfl, HA, HK1, HO_5, HI0, HK, HB⟩ := hrel
  cases gk with
  | zero => exact absurd HA.out (by simp [spec_l20Items.l0])
  | succ k1 =>
   have H := HA.out
   clear HA
   simp only [spec_l20Items.l0] at H
   by_cases c7 : x6_1 > 0
   rotate_left
   ·rw [if_neg c7] at H
    have c7b0 := decide_eq_false c7
    clear c7
    simp only [Option.some.injEq, Prod.mk.injEq] at H
    obtain ⟨rfl, rfl⟩ := H
    go_wp2
    go_ret
    exact ⟨_, xE, ra HO_5, iX HI0, xBi HB, xK HK⟩
   rw [if_pos c7] at H
   have c7b0 := decide_eq_true c7
   clear c7
   replace H := Option.bind_eq_some_iff.mp H
   obtain ⟨⟨t390, t391⟩, A80, H⟩ := H
   have A8 := Aside0.mk A80
   clear A80
   replace H := ipa H
   obtain ⟨LMc9, H⟩ := H
   obtain ⟨y392, Ny392⟩ := yA (x5_1 ++ [t390] : List ByteArray)
   rw [← Ny392.out] at H
   have H' := Aside0.mk H
   clear H
   go_wp2_with (first | ((with_reducible refine gg ?_); refine gL 18 Tryd.func97 #[.pointer (some ⟨g, 0, none⟩)] ?_; (with_reducible refine (spec_l20Item.calls k1 g s0_0 x1001_1 t390 t391 w0 _ ?side1 ?side2 A8.out).mono ?_); (case side1 => exact iX HI0); (case side2 => exact xBi HB); rintro e w10 ⟨rfl, hi, hb, hk⟩; refine ⟨_, rfl, ?_⟩; replace HO_5 := iR HI0 HO_5 hk; replace HK := kT HK hk; replace HB := am (hb); replace HI0 := am (hi); (try clear hb)) | ((with_reducible refine gate_builtin (b := .append) (xs := #[.tmp 16, .tmp 19]) rfl ?_); at_builtin; refine Kd.R_append Kd.string w.heap.size rfl (.tmp 16) (.tmp 19) 56 9 (.string ⟨#[]⟩) 16 rfl Tryd.underlying56 info9 rfl (by decide) (by omega) u5 x5_1 t390 [.string t390] (fun _ => True) (fun _ => False) rfl rfl ?aP (fun _ hk => hk.elim) ?aF ?aO (Below.refl _ _) ?aS ?aL ?_; (case aP => exact rfl); (case aF => exact (fun _ _ => trivial)); (case aO => exact (ra HO_5)); (case aS => exact (xZ HK)); (case aL => have := LMc9.out; omega); intro v393 w11 ho hb hg hat; rw [← Ny392.out] at ho; have n0_ := Aside0.mk (IsS111.grown (iX HI0) hg (IsS111.own_ne HI0.out HO_5.out (by decide))); have n1_ := Aside0.mk (below_weaken (xBi HB) HL.out hb); have n2_ := Aside0.mk (KeepBut.trans (xK HK) (KeepBut.of_grown hg g) (Kd.R_base2 HO_5.out)); have n3_ := Aside0.mk (ho); clear HI0; clear HB; clear HK; clear HO_5; have HI0 := n0_; have HB := n1_; have HK := n2_; have HO394 := n3_; clear n0_ n1_ n2_ n3_; clear ho hb hg hat))
   go_roundg k1
   case measure => have := HK1.out; omega
   case rel => exact ⟨(y392), (wrap64 (x6_1 - 1)), (t391), xR, H', ⟨xL HK1⟩, ⟨ra HO394⟩, ⟨iX HI0⟩, ⟨xK HK⟩, ⟨xBi HB⟩⟩
mutual
def spec_l20Chain.j0 : Nat → List (S142) → Int → Int → List Int → Int → Option ((List (S142)) × Int)
 | 0, _, _, _, _, _ => none
 | k + 1, x1, x2, x7, x1000, x1001 => spec_l20Chain.l0 k x1 x7 x2 x1000 x1001
def spec_l20Chain.l0 : Nat → List (S142) → Int → Int → List Int → Int → Option ((List (S142)) × Int)
 | 0, _, _, _, _, _ => none
 | k + 1, x1, x7, x8, x1000, x1001 => if x8 > 0 then ((spec_l20Rd_one.f k x1000 x1001 (([1, 5, 5, 9, 30] : List Int))).bind fun bt399 => ((spec_l20Items.f k x1000 bt399.2 4).bind fun bt401 => ((spec_l4Mine.f k x1 (wrap64 (x7 + bt399.1)) bt401.1).bind fun bt405 => (if bt405.2 = true then (spec_l20Chain.l0 k bt405.1 (wrap64 (x7 + bt399.1)) (wrap64 (x8 - 1)) x1000 bt401.2) else (spec_l20Chain.l0 k x1 (wrap64 (x7 + bt399.1)) (wrap64 (x8 - 1)) x1000 bt401.2))))) else (some (x1, x1001))
end
def spec_l20Chain.f (k : Nat) (s0_0 : List Int) (s0_1 : Int) (l1 : List (S142)) (a2 : Int) : Option ((List (S142)) × Int) := if (l1.length : Int) > 0 then (if 0 ≤ (wrap64 ((l1.length : Int) - 1)) then (if (wrap64 ((l1.length : Int) - 1)) < (l1.length : Int) then (spec_l20Chain.j0 k l1 a2 ((rd_T142 l1 (wrap64 ((l1.length : Int) - 1))).f0.f2) s0_0 s0_1) else (none)) else (none)) else (spec_l20Chain.j0 k l1 a2 0 s0_0 s0_1)
theorem spec_l20Chain.mono_l : ∀ k, (∀ y0 y1 y2 y3 y4, LeO (spec_l20Chain.j0 k y0 y1 y2 y3 y4) (spec_l20Chain.j0 (k + 1) y0 y1 y2 y3 y4)) ∧ (∀ y0 y1 y2 y3 y4, LeO (spec_l20Chain.l0 k y0 y1 y2 y3 y4) (spec_l20Chain.l0 (k + 1) y0 y1 y2 y3 y4))
 | 0 => ⟨fun _ _ _ _ _ r h => by simp [spec_l20Chain.j0] at h, fun _ _ _ _ _ r h => by simp [spec_l20Chain.l0] at h⟩
 | k + 1 => by
  obtain ⟨ih0, ih1⟩ := spec_l20Chain.mono_l k
  refine ⟨?_, ?_⟩
  ·intro y0 y1 y2 y3 y4
   unfold spec_l20Chain.j0
   exact mo5 ih0 ih1 spec_l20Items.mono spec_l20Rd_one.mono spec_l4Mine.mono
  ·intro y0 y1 y2 y3 y4
   unfold spec_l20Chain.l0
   exact mo5 ih0 ih1 spec_l20Items.mono spec_l20Rd_one.mono spec_l4Mine.mono
theorem spec_l20Chain.mono : ∀ a0 a1 a2 a3 k, LeO (spec_l20Chain.f k a0 a1 a2 a3) (spec_l20Chain.f (k + 1) a0 a1 a2 a3) := by
 intro a0 a1 a2 a3 k
 obtain ⟨ih0, ih1⟩ := spec_l20Chain.mono_l k
 unfold spec_l20Chain.f
 exact mo5 ih0 ih1 spec_l20Items.mono spec_l20Rd_one.mono spec_l4Mine.mono
theorem spec_l20Chain.calls (k : Nat) (g : Nat) (s0_0 : List Int) (s0_1 : Int) (P1_ : Nat → Prop) (b0 : Nat) (A1 : Option Addr) (c1 : Nat) (l1 : List (S142)) (a2 : Int) (r1 : List (S142)) (r2 : Int) (w0 w : World) (hb0 : b0 ≤ w.heap.size) (hI : IsS111 w0 w g s0_0 s0_1) (hB : Below w0.heap.size w0 w) (hs1 : Kd.S k142 142 w b0 (fun k_ => P1_ k_ ∧ k_ ≠ g) (.slice A1 l1.length c1) l1) (h : spec_l20Chain.f k s0_0 s0_1 l1 a2 = some (r1, r2)) :
  Calls Tryd.prog 127 #[.pointer (some ⟨g, 0, none⟩), .slice A1 l1.length c1, .int .i64 a2] w fun e w' => ∃ v0_ : Value, e = .returned (v0_) ∧ Kd.S k142 142 w' b0 (fun k_ => (P1_ k_ ∨ w.heap.size ≤ k_)) v0_ r1 ∧ IsS111 w0 w' g s0_0 r2 ∧ Below w0.heap.size w0 w' ∧ KeepBut w w' g none := by
 have HO1 := Aside0.mk (show Kd.S k142 142 w b0 (fun k_ => (P1_ k_ ∨ w.heap.size ≤ k_) ∧ k_ ≠ g) (.slice A1 l1.length c1) l1 from Kd.S_mono hs1 (fun k_ hk => ⟨.inl hk.1, hk.2⟩))
 have HI0 := Aside0.mk hI
 have HK := Aside0.mk (KeepBut.refl w g none)
 have HL := Aside0.mk hB.size
 clear hI
 have HW0 := Aside0.mk hB.size
 have HB := Aside0.mk hB
 clear hB
 have H : (if (l1.length : Int) > 0 then (if 0 ≤ (wrap64 ((l1.length : Int) - 1)) then (if (wrap64 ((l1.length : Int) - 1)) < (l1.length : Int) then (spec_l20Chain.j0 k l1 a2 ((rd_T142 l1 (wrap64 ((l1.length : Int) - 1))).f0.f2) s0_0 s0_1) else (none)) else (none)) else (spec_l20Chain.j0 k l1 a2 0 s0_0 s0_1)) = some (r1, r2) := h
 clear h
 have HC4 := Aside0.mk H
 clear H
 go_enter Tryd.func127, Tryd.ntmps127
 go_upto_if 13 with (fail)
 go_cut [7] (fun v7 wc => ∃ (kq : Nat) (x7_3 : Int), v7 = .int .i64 x7_3 ∧ Aside0 (spec_l20Chain.j0 kq l1 a2 x7_3 s0_0 s0_1 = some (r1, r2)) ∧ Aside0 (kq ≤ k) ∧ Aside0 (Kd.S k142 142 wc b0 (fun k_ => (P1_ k_ ∨ w.heap.size ≤ k_) ∧ k_ ≠ g) (.slice A1 l1.length c1) l1) ∧ Aside0 (IsS111 w0 wc g s0_0 s0_1) ∧ Aside0 (KeepBut w wc g none) ∧ Aside0 (Below w0.heap.size w0 wc))
 case first =>
  have H := HC4.out
  clear HC4
  by_cases c5 : (l1.length : Int) > 0
  rotate_left
  ·rw [if_neg c5] at H
   have c5b0 := decide_eq_false c5
   have c5b1 : decide (0 < l1.length) = false := decide_eq_false (by omega)
   clear c5
   (first | rw [c5b0] | rw [c5b1] | (simp only [i64_w, i32_w]; rw [c5b0]) | skip)
   have H' := Aside0.mk H
   clear H
   go_wp2
   go_meet
   case rel => exact ⟨_, (0), xR, H', ⟨xO⟩, ⟨sx HO1⟩, ⟨iX HI0⟩, ⟨xK HK⟩, ⟨xBi HB⟩⟩
  rw [if_pos c5] at H
  have c5b0 := decide_eq_true c5
  have c5b1 : decide (0 < l1.length) = true := decide_eq_true (by omega)
  clear c5
  (first | rw [c5b0] | rw [c5b1] | (simp only [i64_w, i32_w]; rw [c5b0]) | skip)
  obtain ⟨ji6, hji6⟩ := je (wrap64 ((l1.length : Int) - 1))
  first | rw [hji6] at H | simp only [hji6] at H
  have hji6w : (IntKind.i64.wrap ((l1.length : Int) - 1)) = ji6 := (i64_w _).trans hji6
  replace H := ipd H
  obtain ⟨c7b0, H⟩ := H
  replace H := ipd H
  obtain ⟨c8b0, H⟩ := H
  have H' := Aside0.mk H
  clear H
  have p395 : 0 ≤ ((ji6) : Int) := of_decide_eq_true xA
  have q395 : (ji6) < (l1.length : Int) := of_decide_eq_true xA
  obtain ⟨ad395, A395_5, c395_5, e395, hx395_0, hx395_1, hx395_2, hx395_3, hx395_4, hx395_5, hl395_5, hi395_5⟩ := at_T142 (Kd.S_reads' HO1.out).2.2 (ji6) p395 q395
  cases e395
  obtain ⟨ce395, hce395, hMe395, hcc395⟩ := Kd.V_get (Kd.S_V (base' := 0) HO1.out) z142 (ji6) p395 (by first | exact q395 | exact of_decide_eq_true xA | (have e_ := (Kd.S_reads' HO1.out).1; omega))
  obtain ⟨ua395_5, uc395_5, rfl, ul395_5, ge395_5⟩ := k142_openF hMe395
  have hv395_5 := hcc395 5 _ rfl
  rw [add_field _ _ 5 (by omega)] at hv395_5
  replace hv395_5 := Option.some.inj (hv395_5.symm.trans hx395_5)
  injection hv395_5 with hva_ hvn_ hvc_
  rw [hva_] at ge395_5
  rw [hvc_] at ul395_5
  have HL395_5 := Aside0.mk (show Kd.V Kd.string 9 _ w.heap.size _ _ ((rd_T142 l1 (ji6)).f1) from Kd.V_mk ul395_5 ge395_5)
  clear hva_ hvn_ hvc_ ge395_5 ul395_5
  clear hcc395 hce395
  have HR395_5 := Aside0.mk hi395_5
  have HC395_5 := Aside0.mk hl395_5
  clear hi395_5 hl395_5
  replace p395 := eq_true p395
  replace q395 := eq_true q395
  go_wp2
  go_meet
  case rel => exact ⟨_, ((rd_T142 l1 (ji6)).f0.f2), (by first | rfl | (simp; done) | (simp only [← hji6] <;> (first | rfl | simp)) | (simp [*]; done)), H', ⟨xO⟩, ⟨sx HO1⟩, ⟨iX HI0⟩, ⟨xK HK⟩, ⟨xBi HB⟩⟩
 case rest =>
  clear HC4
  try clear c1
  try clear p2
  try clear c3
  try clear p3
  try clear q3
  try clear hx3
  try clear c5
  try clear c5b0
  try clear c5b1
  try clear p6
  try clear c7
  try clear c7b0
  try clear c8
  try clear c8b0
  try clear hx395_0
  try clear hx395_1
  try clear hx395_2
  try clear hx395_3
  try clear hx395_4
  try clear hx395_5
  try clear p395
  try clear q395
  obtain ⟨kq, x7_3, rfl, HA, HJ3, HO_1, HI0, HK, HB⟩ := hcut
  cases kq with
  | zero => exact absurd HA.out (by simp [spec_l20Chain.j0])
  | succ kj3 =>
   have H := HA.out
   clear HA
   simp only [spec_l20Chain.j0] at H
   have H' := Aside0.mk H
   clear H
   go_wp2
   go_loopg [1, 7, 8] kj3 (fun kq v1 v7 v8 w' => ∃ (x1_2 : List (S142)) (x7_2 : Int) (x8_2 : Int) (x1001_2 : Int), v7 = .int .i64 x7_2 ∧ v8 = .int .i64 x8_2 ∧ Aside0 (spec_l20Chain.l0 kq x1_2 x7_2 x8_2 s0_0 x1001_2 = some (r1, r2)) ∧ Aside0 (kq ≤ kj3) ∧ Aside0 (Kd.S k142 142 w' b0 (fun k_ => (P1_ k_ ∨ w.heap.size ≤ k_) ∧ k_ ≠ g) v1 x1_2) ∧ Aside0 (IsS111 w0 w' g s0_0 x1001_2) ∧ Aside0 (KeepBut w w' g none) ∧ Aside0 (Below w0.heap.size w0 w'))
   case atStart => exact ⟨(l1), (x7_3), (a2), (s0_1), xR, xR, H', ⟨Nat.le_refl _⟩, ⟨sx HO_1⟩, ⟨iX HI0⟩, ⟨xK HK⟩, ⟨xBi HB⟩⟩
   case round =>
    clear H'
    try clear c1
    try clear p2
    try clear c3
    try clear p3
    try clear q3
    try clear hx3
    try clear c5
    try clear c5b0
    try clear c5b1
    try clear p6
    try clear c7
    try clear c7b0
    try clear c8
    try clear c8b0
    try clear hx395_0
    try clear hx395_1
    try clear hx395_2
    try clear hx395_3
    try clear hx395_4
    try clear hx395_5
    try clear p2
    try clear p3
    try clear p395
    try clear p6
    try clear q3
    try clear q395
    obtain ⟨x1_2, x7_2, x8_2, x1001_2, rfl, rfl, HA, HK2, HO_1, HI0, HK, HB⟩ := hrel
    cases gk with
    | zero => exact absurd HA.out (by simp [spec_l20Chain.l0])
    | succ k2 =>
     have H := HA.out
     clear HA
     simp only [spec_l20Chain.l0] at H
     by_cases c9 : x8_2 > 0
     rotate_left
     ·rw [if_neg c9] at H
      have c9b0 := decide_eq_false c9
      clear c9
      simp only [Option.some.injEq, Prod.mk.injEq] at H
      obtain ⟨rfl, rfl⟩ := H
      go_wp2
      go_ret
      exact ⟨_, xE, by (with_reducible repeat (first | apply Kd.S_alloc | apply Kd.S_drewN | apply Kd.S_drew)); exact Kd.S_mono HO_1.out (fun _ hk => hk.1), iX HI0, xBi HB, xK HK⟩
     rw [if_pos c9] at H
     have c9b0 := decide_eq_true c9
     clear c9
     obtain ⟨y396, Ny396⟩ := yA (([1, 5, 5, 9, 30] : List Int) : List Int)
     rw [← Ny396.out] at H
     replace H := Option.bind_eq_some_iff.mp H
     obtain ⟨⟨t399, t400⟩, A100, H⟩ := H
     have A10 := Aside0.mk A100
     clear A100
     replace H := Option.bind_eq_some_iff.mp H
     obtain ⟨⟨t401, t404⟩, A110, H⟩ := H
     have A11 := Aside0.mk A110
     clear A110
     replace H := Option.bind_eq_some_iff.mp H
     obtain ⟨⟨t405, t408⟩, A120, H⟩ := H
     have A12 := Aside0.mk A120
     clear A120
     go_upto_if 40 with (first | ((with_reducible refine gate_dst (N := 29) rfl ?_); refine Kd.R_lit (Kd.int .i64) _ 3 ?hg (N := 29) ?hd (xs := ([1, 5, 5, 9, 30] : List Int)) (inner := [.int .i64 1, .int .i64 5, .int .i64 5, .int .i64 9, .int .i64 30]) (ok := fun _ => True) (okp := fun _ => True) ?hr ?hp (fun _ hk => hk) trivial (Below.refl _ _) (Nat.le_refl _) (by simp) ?_; (case hd => rfl); (case hg => rfl); (case hr => first | (go_simp; done) | (go_simp; rfl)); (case hp => exact xP); intro v397 w14 ho15 hb hg_ hnew_; clear hg_ hnew_; (first | rw [← Ny396.out] at ho15 | (simp only [Int.reduceToNat] at ho15; rw [← Ny396.out] at ho15)); replace HO_1 := am (Kd.S_elder' (sx HO_1) (Kd.R_base ho15) hb); have HO398 := am (Kd.R_lower (Kd.R_newM (M := fun k_ => (w.heap.size ≤ k_)) ho15 (xZ HK) (fun k_ h_ => h_)) (xZ HK)); replace HK := kK HK hb; replace HB := kHi HB hb; replace HI0 := iK HI0 hb; clear hb ho15; obtain ⟨Ao16, co16, eo16⟩ := Kd.R_slice HO398.out; subst eo16) | ((with_reducible refine gg ?_); first | (refine gL 30 Tryd.func84 #[.pointer (some ⟨g, 0, none⟩), .slice Ao16 y396.length co16] ?_; (with_reducible refine (spec_l20Rd_one.calls k2 g s0_0 x1001_2 _ _ y396 t399 t400 w0 _ ?side1 ?side2 ?side3 ?side4 ?side5 A10.out).mono ?_); (case side1 => exact iX HI0); (case side2 => exact xBi HB); (case side3 => exact cr (Kd.R_reads' HO398.out).2.2); (case side4 => exact sl HO398); (case side5 => exact far_slice (IsS111.own_ne HI0.out HO398.out (by decide))); rintro e w17 ⟨rfl, hi, hb, hk⟩; refine ⟨_, rfl, ?_⟩; replace HO_1 := am (Kd.S_mono (Kd.S_keep (Kd.S_mono (ok := fun k_ => ((((P1_ k_ ∨ w.heap.size ≤ k_)) ∧ k_ ≠ g) ∧ some k_ ≠ (.slice Ao16 y396.length co16 : Value).ownBlock)) (sx HO_1) (fun k_ hk_ => (⟨hk_, hk_.1.2⟩ : _ ∧ k_ ≠ g))) hk (fun _ h => h.2)) (fun _ h => h.1)); replace HO398 := iR HI0 HO398 hk; replace HK := kT HK hk; replace HB := am (hb); replace HI0 := am (hi); (try clear hb)) | (refine gL 36 Tryd.func132 #[.pointer (some ⟨g, 0, none⟩), .int .i64 4] ?_; (with_reducible refine (spec_l20Items.calls k2 g s0_0 t400 4 t401 t404 w0 _ ?side1 ?side2 A11.out).mono ?_); (case side1 => exact iX HI0); (case side2 => exact xBi HB); rintro e w18 ⟨v402, rfl, ho0, hi, hb, hk⟩; refine ⟨_, rfl, ?_⟩; replace HO_1 := am (Kd.S_mono (Kd.S_told (Kd.S_oldK (Kd.S_mono (ok := fun k_ => ((((P1_ k_ ∨ w.heap.size ≤ k_)) ∧ k_ ≠ g) ∧ some k_ ≠ (.slice Ao16 y396.length co16 : Value).ownBlock)) (sx HO_1) (fun k_ hk_ => (⟨hk_, hk_.1.2⟩ : _ ∧ k_ ≠ g))) hk) (Kd.R_base ho0)) (fun _ h_ => h_.1)); replace HO398 := iR HI0 HO398 hk; have HO403 := am (Kd.R_lower (Kd.R_newM (M := fun k_ => (w.heap.size ≤ k_)) ho0 (xZ HK) (fun k_ h_ => h_)) (xZ HK)); replace HK := kT HK hk; replace HB := am (hb); replace HI0 := am (hi); (try clear hb); (try clear ho0); obtain ⟨Ao19, co19, eo19⟩ := Kd.S_slice HO_1.out; subst eo19; obtain ⟨Ao20, co20, eo20⟩ := Kd.R_slice HO403.out; subst eo20) | (refine gL 37 Tryd.func131 #[.slice Ao19 x1_2.length co19, .int .i64 (wrap64 (x7_2 + t399)), .slice Ao20 t401.length co20] ?_; (with_reducible refine (spec_l4Mine.calls k2 (fun k_ => ((((P1_ k_ ∨ w.heap.size ≤ k_) ∧ k_ ≠ g) ∧ some k_ ≠ (.slice Ao16 y396.length co16 : Value).ownBlock) ∧ some k_ ≠ (.slice Ao20 t401.length co20 : Value).ownBlock)) _ _ x1_2 (wrap64 (x7_2 + t399)) _ _ t401 t405 t408 _ ?side1 ?side2 ?side3 A12.out).mono ?_); (case side1 => exact Kd.S_V HO_1.out); (case side2 => exact cr (Kd.R_reads' HO403.out).2.2); (case side3 => exact sl HO403); rintro e w21 ⟨v406, rfl, ho0, hb⟩; refine ⟨_, rfl, ?_⟩; replace HO_1 := am (Kd.S_below (sx HO_1) hb))))
     by_cases c13 : t408 = true
     rotate_left
     ·replace c13 := Bool.eq_false_iff.mpr c13
      subst c13
      try simp only [Bool.not_true, Bool.not_false]
      rw [if_neg (show ¬ (false = true) by decide)] at H
      have H' := Aside0.mk H
      clear H
      replace HO398 := rk HO398 hb
      replace HO403 := rk HO403 hb
      have HO407 := am trivial
      replace HK := kK HK hb
      replace HB := kHi HB hb
      replace HI0 := iK HI0 hb
      (try clear hb)
      (try clear ho0)
      go_wp2
      go_roundg k2
      case measure => have := HJ3.out; have := HK2.out; omega
      case rel => exact ⟨(x1_2), (wrap64 (x7_2 + t399)), (wrap64 (x8_2 - 1)), (t404), xR, xR, H', ⟨by have := HJ3.out; have := HK2.out; omega⟩, ⟨by (with_reducible repeat (first | apply Kd.S_alloc | apply Kd.S_drewN | apply Kd.S_drew)); exact Kd.S_mono HO_1.out (fun _ hk => ⟨hk.1.1.1, hk.1.1.2⟩)⟩, ⟨iX HI0⟩, ⟨xK HK⟩, ⟨xBi HB⟩⟩
     subst c13
     try simp only [Bool.not_true, Bool.not_false]
     rw [if_pos rfl] at H
     have H' := Aside0.mk H
     clear H
     have HO407 := am (Kd.S_lower (Kd.S_mono (ok' := fun k_ => (P1_ k_ ∨ w.heap.size ≤ k_) ∧ some k_ ≠ (.slice Ao16 y396.length co16 : Value).ownBlock ∧ some k_ ≠ (.slice Ao20 t401.length co20 : Value).ownBlock ∧ k_ ≠ g) (ho0 rfl) (fun k_ hk_ => ⟨((fun (hn_ : _ ≤ _) => (.inr (Nat.le_trans (xZ HK) hn_))) hk_), ((fun (hn_ : _ ≤ _) => (Kd.fresh' (Kd.R_lt (ra HO398)) k_ hn_)) hk_), ((fun (hn_ : _ ≤ _) => (Kd.fresh' (Kd.R_lt (ra HO403)) k_ hn_)) hk_), ((fun (hn_ : _ ≤ _) => (IsS111.fresh (iX HI0) k_ hn_)) hk_)⟩)) (Nat.le_trans hb0 (xZ HK)))
     replace HO398 := rk HO398 hb
     replace HO403 := rk HO403 hb
     replace HK := kK HK hb
     replace HB := kHi HB hb
     replace HI0 := iK HI0 hb
     (try clear hb)
     (try clear ho0)
     go_wp2
     go_roundg k2
     case measure => have := HJ3.out; have := HK2.out; omega
     case rel => exact ⟨(t405), (wrap64 (x7_2 + t399)), (wrap64 (x8_2 - 1)), (t404), xR, xR, H', ⟨by have := HJ3.out; have := HK2.out; omega⟩, ⟨by (with_reducible repeat (first | apply Kd.S_alloc | apply Kd.S_drewN | apply Kd.S_drew)); exact Kd.S_mono HO407.out (fun _ hk => ⟨hk.1, hk.2.2.2⟩)⟩, ⟨iX HI0⟩, ⟨xK HK⟩, ⟨xBi HB⟩⟩
def spec_l20Blocks.f (k : Nat) (s0_0 : List Int) (s0_1 : Int) : Option ((List (S142)) × Int) := (spec_l20Rd_one.f k s0_0 s0_1 (([0, 1, 3, 5, 8, 8, 13] : List Int))).bind fun bt415 => ((spec_l20Chain.f k s0_0 bt415.2 (([] : List (S142))) bt415.1).bind fun bt417 => (some (bt417.1, bt417.2)))
theorem spec_l20Blocks.mono : ∀ a0 a1 k, LeO (spec_l20Blocks.f k a0 a1) (spec_l20Blocks.f (k + 1) a0 a1) := by
 intro a0 a1 k
 unfold spec_l20Blocks.f
 exact mo2 spec_l20Chain.mono spec_l20Rd_one.mono
theorem spec_l20Blocks.calls (k : Nat) (g : Nat) (s0_0 : List Int) (s0_1 : Int) (r1 : List (S142)) (r2 : Int) (w0 w : World) (hI : IsS111 w0 w g s0_0 s0_1) (hB : Below w0.heap.size w0 w) (h : spec_l20Blocks.f k s0_0 s0_1 = some (r1, r2)) :
  Calls Tryd.prog 113 #[.pointer (some ⟨g, 0, none⟩)] w fun e w' => ∃ v0_ : Value, e = .returned (v0_) ∧ Kd.S k142 142 w' w.heap.size (fun _ => True) v0_ r1 ∧ IsS111 w0 w' g s0_0 r2 ∧ Below w0.heap.size w0 w' ∧ KeepBut w w' g none := by
 have HI0 := Aside0.mk hI
 have HK := Aside0.mk (KeepBut.refl w g none)
 have HL := Aside0.mk hB.size
 clear hI
 have HW0 := Aside0.mk hB.size
 have HB := Aside0.mk hB
 clear hB
 have H : ((spec_l20Rd_one.f k s0_0 s0_1 (([0, 1, 3, 5, 8, 8, 13] : List Int))).bind fun bt415 => ((spec_l20Chain.f k s0_0 bt415.2 (([] : List (S142))) bt415.1).bind fun bt417 => (some (bt417.1, bt417.2)))) = some (r1, r2) := h
 clear h
 obtain ⟨y409, Ny409⟩ := yA (([] : List (S142)) : List (S142))
 rw [← Ny409.out] at H
 obtain ⟨y412, Ny412⟩ := yA (([0, 1, 3, 5, 8, 8, 13] : List Int) : List Int)
 rw [← Ny412.out] at H
 replace H := Option.bind_eq_some_iff.mp H
 obtain ⟨⟨t415, t416⟩, A20, H⟩ := H
 have A2 := Aside0.mk A20
 clear A20
 replace H := Option.bind_eq_some_iff.mp H
 obtain ⟨⟨t417, t420⟩, A30, H⟩ := H
 have A3 := Aside0.mk A30
 clear A30
 simp only [Option.some.injEq, Prod.mk.injEq] at H
 obtain ⟨rfl, rfl⟩ := H
 go_enter Tryd.func113, Tryd.ntmps113
 go_wp2_with (first | ((with_reducible refine gate_dst (N := 4) rfl ?_); refine Kd.S_lit k142 _ 142 ?hg (N := 4) ?hd (xs := ([] : List (S142))) (inner := []) (ok := fun _ => True) (okp := fun _ => True) ?hr ?hp (fun _ hk => hk) trivial (Below.refl _ _) (Nat.le_refl _) (by simp) ?_; (case hd => rfl); (case hg => rfl); (case hr => first | (go_simp; done) | (go_simp; rfl)); (case hp => exact xP); intro v410 w4 ho5 hb hg_ hnew_; clear hg_ hnew_; (first | rw [← Ny409.out] at ho5 | (simp only [Int.reduceToNat] at ho5; rw [← Ny409.out] at ho5)); have HO411 := am (Kd.S_lower (Kd.S_newM (M := fun k_ => (w.heap.size ≤ k_)) ho5 (xZ HK) (fun k_ h_ => h_)) (xZ HK)); replace HK := kK HK hb; replace HB := kHi HB hb; replace HI0 := iK HI0 hb; clear hb ho5) | ((with_reducible refine gate_dst (N := 6) rfl ?_); refine Kd.R_lit (Kd.int .i64) _ 3 ?hg (N := 6) ?hd (xs := ([0, 1, 3, 5, 8, 8, 13] : List Int)) (inner := [.int .i64 0, .int .i64 1, .int .i64 3, .int .i64 5, .int .i64 8, .int .i64 8, .int .i64 13]) (ok := fun _ => True) (okp := fun _ => True) ?hr ?hp (fun _ hk => hk) trivial (Below.refl _ _) (Nat.le_refl _) (by simp) ?_; (case hd => rfl); (case hg => rfl); (case hr => first | (go_simp; done) | (go_simp; rfl)); (case hp => exact xP); intro v413 w6 ho7 hb hg_ hnew_; clear hg_ hnew_; (first | rw [← Ny412.out] at ho7 | (simp only [Int.reduceToNat] at ho7; rw [← Ny412.out] at ho7)); replace HO411 := am (Kd.S_below (sx HO411) hb); have HO414 := am (Kd.R_lower (Kd.R_newM (M := fun k_ => (w.heap.size ≤ k_)) ho7 (xZ HK) (fun k_ h_ => h_)) (xZ HK)); replace HK := kK HK hb; replace HB := kHi HB hb; replace HI0 := iK HI0 hb; clear hb ho7; obtain ⟨Ao8, co8, eo8⟩ := Kd.R_slice HO414.out; subst eo8) | ((with_reducible refine gg ?_); first | (refine gL 7 Tryd.func84 #[.pointer (some ⟨g, 0, none⟩), .slice Ao8 y412.length co8] ?_; (with_reducible refine (spec_l20Rd_one.calls k g s0_0 s0_1 _ _ y412 t415 t416 w0 _ ?side1 ?side2 ?side3 ?side4 ?side5 A2.out).mono ?_); (case side1 => exact iX HI0); (case side2 => exact xBi HB); (case side3 => exact cr (Kd.R_reads' HO414.out).2.2); (case side4 => exact sl HO414); (case side5 => exact far_slice (IsS111.own_ne HI0.out HO414.out (by decide))); rintro e w9 ⟨rfl, hi, hb, hk⟩; refine ⟨_, rfl, ?_⟩; replace HO411 := am (Kd.S_mono (Kd.S_keep (IsS111.apartS (show IsS111 w0 _ g s0_0 s0_1 from iX HI0) (sx HO411) (by decide)) hk (fun _ h => h.2)) (fun _ h => h.1)); replace HO414 := iR HI0 HO414 hk; replace HK := kT HK hk; replace HB := am (hb); replace HI0 := am (hi); (try clear hb); obtain ⟨Ao10, co10, eo10⟩ := Kd.S_slice HO411.out; subst eo10) | (refine gL 8 Tryd.func127 #[.pointer (some ⟨g, 0, none⟩), .slice Ao10 y409.length co10, .int .i64 t415] ?_; (with_reducible refine (spec_l20Chain.calls k g s0_0 t416 (fun k_ => ((((w.heap.size ≤ k_) ∧ True) ∧ some k_ ≠ (.slice Ao8 y412.length co8 : Value).ownBlock) ∧ k_ ≠ g)) w.heap.size _ _ y409 t415 t417 t420 w0 _ ?side3 ?side1 ?side2 ?side4 A3.out).mono ?_); (case side1 => exact iX HI0); (case side2 => exact xBi HB); (case side3 => exact (xZ HK)); (case side4 => exact Kd.S_mono (IsS111.apartS HI0.out (Kd.S_apart' (HO411.out) (Kd.R_typed HO414.out) (by decide)) (by decide)) (fun k_ hk_ => ⟨hk_, hk_.2⟩)); rintro e w11 ⟨v418, rfl, ho0, hi, hb, hk⟩; refine ⟨_, rfl, ?_⟩; replace HO411 := am (Kd.S_mono (Kd.S_keep (IsS111.apartS (show IsS111 w0 _ g s0_0 t416 from iX HI0) (sx HO411) (by decide)) hk (fun _ h => h.2)) (fun _ h => h.1)); replace HO414 := iR HI0 HO414 hk; have HO419 := am (Kd.S_mono (ok' := fun _ => True) ho0 (fun _ _ => trivial)); replace HK := kT HK hk; replace HB := am (hb); replace HI0 := am (hi); (try clear hb); (try clear ho0))))
 go_ret
 exact ⟨_, xE, by (with_reducible repeat (first | apply Kd.S_alloc | apply Kd.S_drewN | apply Kd.S_drew)); exact Kd.S_mono HO419.out (fun _ hk => trivial), iX HI0, xBi HB, xK HK⟩
def spec_l20AnyItem.f (k : Nat) (s0_0 : List Int) (s0_1 : Int) : Option (ByteArray × Int) := (spec_l20Rd_pick.f k s0_0 s0_1 10).bind fun bt421 => (if bt421.1 = 0 then ((spec_l20Rd_of.f k s0_0 bt421.2 (([(⟨#[]⟩ : ByteArray), (⟨#[65]⟩ : ByteArray), (⟨#[116, 111, 111, 108, 111, 110, 103, 101, 114]⟩ : ByteArray), (⟨#[97, 32, 98]⟩ : ByteArray)] : List ByteArray))).bind fun bt426 => (some (bt426.1, bt426.2))) else ((spec_l20Item.f k s0_0 bt421.2).bind fun bt428 => (some (bt428.1, bt428.2))))
theorem spec_l20AnyItem.mono : ∀ a0 a1 k, LeO (spec_l20AnyItem.f k a0 a1) (spec_l20AnyItem.f (k + 1) a0 a1) := by
 intro a0 a1 k
 unfold spec_l20AnyItem.f
 exact mo3 spec_l20Item.mono spec_l20Rd_of.mono spec_l20Rd_pick.mono
theorem spec_l20AnyItem.calls (k : Nat) (g : Nat) (s0_0 : List Int) (s0_1 : Int) (r1 : ByteArray) (r2 : Int) (w0 w : World) (hI : IsS111 w0 w g s0_0 s0_1) (hB : Below w0.heap.size w0 w) (h : spec_l20AnyItem.f k s0_0 s0_1 = some (r1, r2)) :
  Calls Tryd.prog 114 #[.pointer (some ⟨g, 0, none⟩)] w fun e w' => e = .returned (.string r1) ∧ IsS111 w0 w' g s0_0 r2 ∧ Below w0.heap.size w0 w' ∧ KeepBut w w' g none := by
 have HI0 := Aside0.mk hI
 have HK := Aside0.mk (KeepBut.refl w g none)
 have HL := Aside0.mk hB.size
 clear hI
 have HW0 := Aside0.mk hB.size
 have HB := Aside0.mk hB
 clear hB
 have H : ((spec_l20Rd_pick.f k s0_0 s0_1 10).bind fun bt421 => (if bt421.1 = 0 then ((spec_l20Rd_of.f k s0_0 bt421.2 (([(⟨#[]⟩ : ByteArray), (⟨#[65]⟩ : ByteArray), (⟨#[116, 111, 111, 108, 111, 110, 103, 101, 114]⟩ : ByteArray), (⟨#[97, 32, 98]⟩ : ByteArray)] : List ByteArray))).bind fun bt426 => (some (bt426.1, bt426.2))) else ((spec_l20Item.f k s0_0 bt421.2).bind fun bt428 => (some (bt428.1, bt428.2))))) = some (r1, r2) := h
 clear h
 replace H := Option.bind_eq_some_iff.mp H
 obtain ⟨⟨t421, t422⟩, A20, H⟩ := H
 have A2 := Aside0.mk A20
 clear A20
 go_enter Tryd.func114, Tryd.ntmps114
 go_upto_if 5 with ((with_reducible refine gg ?_); refine gL 4 Tryd.func55 #[.pointer (some ⟨g, 0, none⟩), .int .i64 10] ?_; (with_reducible refine (spec_l20Rd_pick.calls k g s0_0 s0_1 10 t421 t422 w0 _ ?side1 ?side2 A2.out).mono ?_); (case side1 => exact iX HI0); (case side2 => exact xBi HB); rintro e w5 ⟨rfl, hi, hb, hk⟩; refine ⟨_, rfl, ?_⟩; replace HK := kT HK hk; replace HB := am (hb); replace HI0 := am (hi); (try clear hb))
 by_cases c3 : t421 = 0
 rotate_left
 ·rw [if_neg c3] at H
  have c3b0 := beq_eq_false_iff_ne.mpr c3
  have c3b1 := bne_iff_ne.mpr c3
  try simp only [c3b0, c3b1, Bool.not_true, Bool.not_false]
  replace H := Option.bind_eq_some_iff.mp H
  obtain ⟨⟨t428, t429⟩, A100, H⟩ := H
  have A10 := Aside0.mk A100
  clear A100
  simp only [Option.some.injEq, Prod.mk.injEq] at H
  obtain ⟨rfl, rfl⟩ := H
  go_wp2_with ((with_reducible refine gg ?_); refine gL 10 Tryd.func97 #[.pointer (some ⟨g, 0, none⟩)] ?_; (with_reducible refine (spec_l20Item.calls k g s0_0 t422 t428 t429 w0 _ ?side1 ?side2 A10.out).mono ?_); (case side1 => exact iX HI0); (case side2 => exact xBi HB); rintro e w12 ⟨rfl, hi, hb, hk⟩; refine ⟨_, rfl, ?_⟩; replace HK := kT HK hk; replace HB := am (hb); replace HI0 := am (hi); (try clear hb))
  go_ret
  exact ⟨xE, iX HI0, xBi HB, xK HK⟩
 rw [if_pos c3] at H
 have c3b0 := beq_iff_eq.mpr c3
 have c3b1 := bne_eq_false_iff_eq.mpr c3
 try simp only [c3b0, c3b1, Bool.not_true, Bool.not_false]
 clear c3
 obtain ⟨y423, Ny423⟩ := yA (([(⟨#[]⟩ : ByteArray), (⟨#[65]⟩ : ByteArray), (⟨#[116, 111, 111, 108, 111, 110, 103, 101, 114]⟩ : ByteArray), (⟨#[97, 32, 98]⟩ : ByteArray)] : List ByteArray) : List ByteArray)
 rw [← Ny423.out] at H
 replace H := Option.bind_eq_some_iff.mp H
 obtain ⟨⟨t426, t427⟩, A40, H⟩ := H
 have A4 := Aside0.mk A40
 clear A40
 simp only [Option.some.injEq, Prod.mk.injEq] at H
 obtain ⟨rfl, rfl⟩ := H
 go_wp2_with (first | ((with_reducible refine gate_dst (N := 7) rfl ?_); refine Kd.R_lit Kd.string _ 9 ?hg (N := 7) ?hd (xs := ([(⟨#[]⟩ : ByteArray), (⟨#[65]⟩ : ByteArray), (⟨#[116, 111, 111, 108, 111, 110, 103, 101, 114]⟩ : ByteArray), (⟨#[97, 32, 98]⟩ : ByteArray)] : List ByteArray)) (inner := [.string (⟨#[]⟩ : ByteArray), .string (⟨#[65]⟩ : ByteArray), .string (⟨#[116, 111, 111, 108, 111, 110, 103, 101, 114]⟩ : ByteArray), .string (⟨#[97, 32, 98]⟩ : ByteArray)]) (ok := fun _ => True) (okp := fun _ => True) ?hr ?hp (fun _ hk => hk) trivial (Below.refl _ _) (Nat.le_refl _) (by simp) ?_; (case hd => rfl); (case hg => rfl); (case hr => first | (go_simp; done) | (go_simp; rfl)); (case hp => exact xP); intro v424 w6 ho7 hb hg_ hnew_; clear hg_ hnew_; (first | rw [← Ny423.out] at ho7 | (simp only [Int.reduceToNat] at ho7; rw [← Ny423.out] at ho7)); have HO425 := am (Kd.R_lower ho7 (xZ HK)); replace HK := kK HK hb; replace HB := kHi HB hb; replace HI0 := iK HI0 hb; clear hb ho7; obtain ⟨Ao8, co8, eo8⟩ := Kd.R_slice HO425.out; subst eo8) | ((with_reducible refine gg ?_); refine gL 8 Tryd.func86 #[.pointer (some ⟨g, 0, none⟩), .slice Ao8 y423.length co8] ?_; (with_reducible refine (spec_l20Rd_of.calls k g s0_0 t422 _ _ y423 t426 t427 w0 _ ?side1 ?side2 ?side3 ?side4 ?side5 A4.out).mono ?_); (case side1 => exact iX HI0); (case side2 => exact xBi HB); (case side3 => exact cr (Kd.R_reads' HO425.out).2.2); (case side4 => exact sl HO425); (case side5 => exact far_slice (IsS111.own_ne HI0.out HO425.out (by decide))); rintro e w9 ⟨rfl, hi, hb, hk⟩; refine ⟨_, rfl, ?_⟩; replace HO425 := iR HI0 HO425 hk; replace HK := kT HK hk; replace HB := am (hb); replace HI0 := am (hi); (try clear hb)))
 go_ret
 exact ⟨xE, iX HI0, xBi HB, xK HK⟩
end Go.Proofs.YtgjljbaadglpnaaDoor.PFnHeadGet
