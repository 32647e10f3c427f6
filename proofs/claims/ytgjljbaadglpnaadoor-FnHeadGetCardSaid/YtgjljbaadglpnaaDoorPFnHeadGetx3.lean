/- Functions of the program and what each answers: the kit's print, shortened (wip/press2.py). -/
import Derived.Test.YtgjljbaadglpnaaDoorPFnHeadGetx0
namespace Go.Proofs.YtgjljbaadglpnaaDoor.PFnHeadGet
open Go.Proofs.YtgjljbaadglpnaaDoor.Sq Go.RowKit Go.Proofs.YtgjljbaadglpnaaDoorW.PrintWords Go.Proofs.YtgjljbaadglpnaaDoorW.PrintLast Go.Proofs.YtgjljbaadglpnaaDoorW.PrintMore
attribute [local go_sem] max2_int min2_int max_two min_two max_three min_three max_four min_four   -- for this text's walks alone
set_option linter.unusedVariables false
set_option linter.unusedSimpArgs false
set_option maxHeartbeats 64000000
set_option maxRecDepth 100000
mutual
def spec_l1Cut.l0 : Nat → ByteArray → Int → Int → List ByteArray → Int → Int → Option (List ByteArray)
 | 0, _, _, _, _, _, _ => none
 | k + 1, x0, x1, x2, x7, x8, x9 => if x9 < (x0.size : Int) then (spec_l1Cut.j1 k x0 x1 x2 x7 x8 x9 (decide ((x7.length : Int) < x2))) else (spec_l1Cut.j1 k x0 x1 x2 x7 x8 x9 false)
def spec_l1Cut.j1 : Nat → ByteArray → Int → Int → List ByteArray → Int → Int → Bool → Option (List ByteArray)
 | 0, _, _, _, _, _, _, _ => none
 | k + 1, x0, x1, x2, x7, x8, x9, x20 => if x20 = true then (if 0 ≤ x9 then (if x9 < (x0.size : Int) then (if (bt x0 x9) = x1 then (if 0 ≤ x8 then (if x8 ≤ x9 then (if x9 ≤ (x0.size : Int) then (if x7.length < 8796093022208 then (spec_l1Cut.l0 k x0 x1 x2 (x7 ++ [x0.extract (x8 : Int).toNat (x9 : Int).toNat]) (wrap64 (x9 + 1)) (wrap64 (x9 + 1))) else (none)) else (none)) else (none)) else (none)) else (spec_l1Cut.l0 k x0 x1 x2 x7 x8 (wrap64 (x9 + 1)))) else (none)) else (none)) else (if 0 ≤ x8 then (if x8 ≤ (x0.size : Int) then (if x7.length < 8796093022208 then (some (x7 ++ [x0.extract (x8 : Int).toNat x0.size])) else (none)) else (none)) else (none))
end
def spec_l1Cut.f (k : Nat) (a0 : ByteArray) (a1 : Int) (a2 : Int) : Option (List ByteArray) := spec_l1Cut.l0 k a0 a1 a2 (([] : List ByteArray)) 0 0
theorem spec_l1Cut.mono_l : ∀ k, (∀ y0 y1 y2 y3 y4 y5, LeO (spec_l1Cut.l0 k y0 y1 y2 y3 y4 y5) (spec_l1Cut.l0 (k + 1) y0 y1 y2 y3 y4 y5)) ∧ (∀ y0 y1 y2 y3 y4 y5 y6, LeO (spec_l1Cut.j1 k y0 y1 y2 y3 y4 y5 y6) (spec_l1Cut.j1 (k + 1) y0 y1 y2 y3 y4 y5 y6))
 | 0 => ⟨fun _ _ _ _ _ _ r h => by simp [spec_l1Cut.l0] at h, fun _ _ _ _ _ _ _ r h => by simp [spec_l1Cut.j1] at h⟩
 | k + 1 => by
  obtain ⟨ih0, ih1⟩ := spec_l1Cut.mono_l k
  refine ⟨?_, ?_⟩
  ·intro y0 y1 y2 y3 y4 y5
   unfold spec_l1Cut.l0
   exact mo2 ih0 ih1
  ·intro y0 y1 y2 y3 y4 y5 y6
   unfold spec_l1Cut.j1
   exact mo2 ih0 ih1
theorem spec_l1Cut.mono : ∀ a0 a1 a2 k, LeO (spec_l1Cut.f k a0 a1 a2) (spec_l1Cut.f (k + 1) a0 a1 a2) := by
 intro a0 a1 a2 k
 obtain ⟨ih0, ih1⟩ := spec_l1Cut.mono_l k
 unfold spec_l1Cut.f
 exact mo2 ih0 ih1
theorem spec_l1Cut.calls (k : Nat) (a0 : ByteArray) (a1 : Int) (a2 : Int) (r : List ByteArray) (w : World) (h : spec_l1Cut.f k a0 a1 a2 = some r) :
  Calls Tryd.prog 25 #[.string a0, .int .u8 a1, .int .i64 a2] w fun e w' => ∃ v0_ : Value, e = .returned (v0_) ∧ Kd.R Kd.string 9 w' w.heap.size (fun _ => True) v0_ r ∧ Below w.heap.size w w' := by
 have HB := Aside0.mk (Below.refl w.heap.size w)
 have H : (spec_l1Cut.l0 k a0 a1 a2 (([] : List ByteArray)) 0 0) = some r := h
 clear h
 obtain ⟨y114, Ny114⟩ := yA (([] : List ByteArray) : List ByteArray)
 rw [← Ny114.out] at H
 have H' := Aside0.mk H
 clear H
 go_enter Tryd.func25, Tryd.ntmps25
 go_wp2_with ((with_reducible refine gate_dst (N := 10) rfl ?_); (try (refine gate_guard (by rfl) ?_; dsimp only)); refine Kd.R_lit Kd.string _ 9 ?hg (N := 10) ?hd (xs := ([] : List ByteArray)) (inner := []) (ok := fun _ => True) (okp := fun _ => True) ?hr ?hp (fun _ hk => hk) trivial (Below.refl _ _) (Nat.le_refl _) (by simp) ?_; (case hd => rfl); (case hg => rfl); (case hr => first | (go_simp; done) | (go_simp; rfl)); (case hp => exact xP); intro v115 w4 ho5 hb hg_ hnew_; clear hg_ hnew_; (first | rw [← Ny114.out] at ho5 | (simp only [Int.reduceToNat] at ho5; rw [← Ny114.out] at ho5)); have HO116 := am (Kd.R_lower ho5 (below_size (bl HB))); replace HB := kH HB hb; clear hb ho5)
 go_loopg [7, 8, 9] k (fun kq v7 v8 v9 w' => ∃ (x7_1 : List ByteArray) (x8_1 : Int) (x9_1 : Int), v8 = .int .i64 x8_1 ∧ v9 = .int .i64 x9_1 ∧ Aside0 (spec_l1Cut.l0 kq a0 a1 a2 x7_1 x8_1 x9_1 = some r) ∧ Aside0 (kq ≤ k) ∧ Aside0 (Kd.R Kd.string 9 w' w.heap.size (fun _ => True) v7 x7_1) ∧ Aside0 (Below w.heap.size w w'))
 case atStart => exact ⟨(y114), (0), (0), xR, xR, H', ⟨Nat.le_refl _⟩, ⟨ra HO116⟩, ⟨bl HB⟩⟩
 case round =>
  clear H'
  try clear c2
  try clear p2
  obtain ⟨x7_1, x8_1, x9_1, rfl, rfl, HA, HK1, HO_7, HB⟩ := hrel
  cases gk with
  | zero => exact absurd HA.out (by simp [spec_l1Cut.l0])
  | succ k1 =>
   have H := HA.out
   clear HA
   simp only [spec_l1Cut.l0] at H
   have HC6 := Aside0.mk H
   clear H
   go_upto_region 4 with (fail)
   go_cut [20] (fun v20 wc => ∃ (kq : Nat) (x20_5 : Bool), v20 = .bool x20_5 ∧ Aside0 (spec_l1Cut.j1 kq a0 a1 a2 x7_1 x8_1 x9_1 x20_5 = some r) ∧ Aside0 (kq ≤ k1) ∧ Aside0 (Kd.R Kd.string 9 wc w.heap.size (fun _ => True) u7 x7_1) ∧ Aside0 (Below w.heap.size w wc))
   case first =>
    have H := HC6.out
    clear HC6
    by_cases c7 : x9_1 < (a0.size : Int)
    rotate_left
    ·rw [if_neg c7] at H
     have c7b0 := decide_eq_false c7
     clear c7
     (first | rw [c7b0] | rw [c7b1] | (simp only [i64_w, i32_w]; rw [c7b0]) | skip)
     have H' := Aside0.mk H
     clear H
     go_wp2
     go_meet
     case rel => exact ⟨_, (false), xR, H', ⟨xL HK1⟩, ⟨ra HO_7⟩, ⟨bl HB⟩⟩
    rw [if_pos c7] at H
    have c7b0 := decide_eq_true c7
    clear c7
    (first | rw [c7b0] | rw [c7b1] | (simp only [i64_w, i32_w]; rw [c7b0]) | skip)
    have H' := Aside0.mk H
    clear H
    obtain ⟨Ao8, co8, eo8⟩ := Kd.R_slice HO_7.out
    subst eo8
    go_wp2
    go_meet
    case rel => exact ⟨_, (decide ((x7_1.length : Int) < a2)), xR, H', ⟨xL HK1⟩, ⟨ra HO_7⟩, ⟨bl HB⟩⟩
   case rest =>
    clear HC6
    try clear c2
    try clear p2
    try clear c7
    try clear c7b0
    try clear p2
    obtain ⟨kq, x20_5, rfl, HA, HJ5, HO_7, HB⟩ := hcut
    cases kq with
    | zero => exact absurd HA.out (by simp [spec_l1Cut.j1])
    | succ kj5 =>
     have H := HA.out
     clear HA
     simp only [spec_l1Cut.j1] at H
     by_cases c9 : x20_5 = true
     rotate_left
     ·replace c9 := Bool.eq_false_iff.mpr c9
      subst c9
      rw [if_neg (show ¬ (false = true) by decide)] at H
      replace H := ip H
      obtain ⟨c19, H⟩ := H
      have c19b0 := eq_true c19
      have c19b1 := decide_eq_true c19
      clear c19
      replace H := ip H
      obtain ⟨c20, H⟩ := H
      have c20b0 := eq_true c20
      have c20b1 := decide_eq_true c20
      clear c20
      replace H := ipa H
      obtain ⟨LMc21, H⟩ := H
      obtain ⟨y120, hy120⟩ : ∃ y_ : List ByteArray, y_ = (x7_1 ++ [a0.extract (x8_1 : Int).toNat a0.size]) := ⟨_, rfl⟩
      replace H : (some y120) = some r := by first | (rw [hy120]; with_reducible exact H) | (have H2_ := (Option.bind_some _ _).symm.trans H; rw [hy120]; with_reducible exact H2_) | (have H2_ := (Option.bind_some _ _).symm.trans H; with_reducible exact H2_) | with_reducible exact H | (rw [hy120]; exact H) | exact H
      have Ny120 := Aside0.mk hy120
      clear hy120
      obtain rfl := Option.some.inj H
      go_wp2_with ((with_reducible refine gate_builtin (b := .append) (xs := #[.tmp 37, .tmp 41]) rfl ?_); (try (refine gate_guard (by rfl) ?_; dsimp only)); at_builtin; refine Kd.R_append Kd.string (w0 := w) w.heap.size rfl (.tmp 37) (.tmp 41) 56 9 (.string ⟨#[]⟩) 16 rfl Tryd.underlying56 info9 rfl (by decide) (by omega) u7 x7_1 (a0.extract (x8_1 : Int).toNat a0.size) [.string (a0.extract (x8_1 : Int).toNat a0.size)] (fun _ => True) (fun _ => False) rfl rfl ?aP (fun _ hk => hk.elim) ?aF ?aO ?aB ?aS ?aL ?_; (case aP => exact rfl); (case aB => exact (bl HB)); (case aF => exact (fun _ _ => trivial)); (case aO => exact (ra HO_7)); (case aS => exact (below_size (bl HB))); (case aL => have := LMc21.out; omega); intro v121 w22 ho hb hg hat; rw [← Ny120.out] at ho; have n0_ := Aside0.mk (hb); have n1_ := Aside0.mk (ho); clear HB; clear HO_7; have HB := n0_; have HO122 := n1_; clear n0_ n1_; clear ho hb hg hat)
      go_ret
      exact ⟨_, xE, ra HO122, bl HB⟩
     subst c9
     rw [if_pos rfl] at H
     replace H := ipd H
     obtain ⟨c10b0, H⟩ := H
     replace H := ipd H
     obtain ⟨c11b0, H⟩ := H
     by_cases c13 : (bt a0 x9_1) = a1
     rotate_left
     ·rw [if_neg c13] at H
      have c13b0 := beq_eq_false_iff_ne.mpr c13
      have c13b1 := bne_iff_ne.mpr c13
      have H' := Aside0.mk H
      clear H
      have p12 : 0 ≤ (x9_1 : Int) := of_decide_eq_true xA
      have q12 : x9_1 < (a0.size : Int) := of_decide_eq_true xA
      have hx12 := bt_at a0 x9_1
      replace p12 := eq_true p12
      replace q12 := eq_true q12
      go_wp2
      go_roundg kj5
      case measure => have := HK1.out; have := HJ5.out; omega
      case rel => exact ⟨(x7_1), (x8_1), (wrap64 (x9_1 + 1)), xR, xR, H', ⟨by have := HK1.out; have := HJ5.out; omega⟩, ⟨ra HO_7⟩, ⟨bl HB⟩⟩
     rw [if_pos c13] at H
     have c13b0 := beq_iff_eq.mpr c13
     have c13b1 := bne_eq_false_iff_eq.mpr c13
     clear c13
     replace H := ip H
     obtain ⟨c14, H⟩ := H
     have c14b0 := eq_true c14
     have c14b1 := decide_eq_true c14
     clear c14
     replace H := ip H
     obtain ⟨c15, H⟩ := H
     have c15b0 := eq_true c15
     have c15b1 := decide_eq_true c15
     clear c15
     replace H := ip H
     obtain ⟨c16, H⟩ := H
     have c16b0 := eq_true c16
     have c16b1 := decide_eq_true c16
     clear c16
     replace H := ipa H
     obtain ⟨LMc17, H⟩ := H
     obtain ⟨y117, Ny117⟩ := yA (x7_1 ++ [a0.extract (x8_1 : Int).toNat (x9_1 : Int).toNat] : List ByteArray)
     rw [← Ny117.out] at H
     have H' := Aside0.mk H
     clear H
     have p12 : 0 ≤ (x9_1 : Int) := of_decide_eq_true xA
     have q12 : x9_1 < (a0.size : Int) := of_decide_eq_true xA
     have hx12 := bt_at a0 x9_1
     replace p12 := eq_true p12
     replace q12 := eq_true q12
     go_wp2_with ((with_reducible refine gate_builtin (b := .append) (xs := #[.tmp 28, .tmp 33]) rfl ?_); (try (refine gate_guard (by rfl) ?_; dsimp only)); at_builtin; refine Kd.R_append Kd.string (w0 := w) w.heap.size rfl (.tmp 28) (.tmp 33) 56 9 (.string ⟨#[]⟩) 16 rfl Tryd.underlying56 info9 rfl (by decide) (by omega) u7 x7_1 (a0.extract (x8_1 : Int).toNat (x9_1 : Int).toNat) [.string (a0.extract (x8_1 : Int).toNat (x9_1 : Int).toNat)] (fun _ => True) (fun _ => False) rfl rfl ?aP (fun _ hk => hk.elim) ?aF ?aO ?aB ?aS ?aL ?_; (case aP => exact rfl); (case aB => exact (bl HB)); (case aF => exact (fun _ _ => trivial)); (case aO => exact (ra HO_7)); (case aS => exact (below_size (bl HB))); (case aL => have := LMc17.out; omega); intro v118 w18 ho hb hg hat; rw [← Ny117.out] at ho; have n0_ := Aside0.mk (hb); have n1_ := Aside0.mk (ho); clear HB; clear HO_7; have HB := n0_; have HO119 := n1_; clear n0_ n1_; clear ho hb hg hat)
     go_roundg kj5
     case measure => have := HK1.out; have := HJ5.out; omega
     case rel => exact ⟨(y117), (wrap64 (x9_1 + 1)), (wrap64 (x9_1 + 1)), xR, xR, H', ⟨by have := HK1.out; have := HJ5.out; omega⟩, ⟨ra HO119⟩, ⟨bl HB⟩⟩
def spec_l1Figure.f (a0 : Int) : Option (Bool) := if a0 ≥ 48 then (some (decide (a0 ≤ 57))) else (some false)
theorem spec_l1Figure.calls (a0 : Int) (r : Bool) (w : World) (h : spec_l1Figure.f a0 = some r) :
  Calls Tryd.prog 57 #[.int .u8 a0] w fun e w' => e = .returned (.bool r) ∧ Drawn0 w w' := by
 have H : (if a0 ≥ 48 then (some (decide (a0 ≤ 57))) else (some false)) = some r := h
 clear h
 by_cases c2 : a0 ≥ 48
 ·rw [if_pos c2] at H
  have c2b0 := decide_eq_true c2
  clear c2
  obtain rfl := Option.some.inj H
  go_enter Tryd.func57, Tryd.ntmps57
  go_wp2
  go_ret
  exact ⟨xR, xW⟩
 rw [if_neg c2] at H
 have c2b0 := decide_eq_false c2
 clear c2
 obtain rfl := Option.some.inj H
 go_enter Tryd.func57, Tryd.ntmps57
 go_wp2
 go_ret
 exact ⟨xR, xW⟩
def spec_l1Num.l0 : Nat → ByteArray → Int → Int → Option (Int)
 | 0, _, _, _ => none
 | k + 1, x0, x3, x4 => if x4 < (x0.size : Int) then (if 0 ≤ x4 then ((spec_l1Figure.f (bt x0 x4)).bind fun t123 => (if t123 = true then (if x4 ≥ 9 then (some (-1)) else (spec_l1Num.l0 k x0 (wrap64 ((wrap64 (x3 * 10)) + (((bt x0 x4) - 48) % 256))) (wrap64 (x4 + 1)))) else (some (-1)))) else (none)) else (if (x0.size : Int) = 0 then (some (-1)) else (if (x0.size : Int) > 1 then (if 0 < (x0.size : Int) then (if (bt x0 0) = 48 then (some (-1)) else (some x3)) else (none)) else (some x3)))
def spec_l1Num.f (k : Nat) (a0 : ByteArray) : Option (Int) := spec_l1Num.l0 k a0 0 0
theorem spec_l1Num.mono_l : ∀ k, (∀ y0 y1 y2, LeO (spec_l1Num.l0 k y0 y1 y2) (spec_l1Num.l0 (k + 1) y0 y1 y2))
 | 0 => fun _ _ _ r h => by simp [spec_l1Num.l0] at h
 | k + 1 => by
  have ih0 := spec_l1Num.mono_l k
  ·intro y0 y1 y2
   unfold spec_l1Num.l0
   exact mo1 ih0
theorem spec_l1Num.mono : ∀ a0 k, LeO (spec_l1Num.f k a0) (spec_l1Num.f (k + 1) a0) := by
 intro a0 k
 have ih0 := spec_l1Num.mono_l k
 unfold spec_l1Num.f
 exact mo1 ih0
theorem spec_l1Num.calls (k : Nat) (a0 : ByteArray) (r : Int) (w : World) (h : spec_l1Num.f k a0 = some r) :
  Calls Tryd.prog 27 #[.string a0] w fun e w' => e = .returned (.int .i64 r) ∧ Drawn0 w w' := by
 have H : (spec_l1Num.l0 k a0 0 0) = some r := h
 clear h
 have H' := Aside0.mk H
 clear H
 go_enter Tryd.func27, Tryd.ntmps27
 go_wp2
 go_loopg [3, 4] k (fun kq v3 v4 w' => ∃ (x3_1 : Int) (x4_1 : Int), v3 = .int .i64 x3_1 ∧ v4 = .int .i64 x4_1 ∧ Aside0 (spec_l1Num.l0 kq a0 x3_1 x4_1 = some r) ∧ Aside0 (kq ≤ k) ∧ Drawn0 w w')
 case atStart => exact ⟨(0), (0), xR, xR, H', ⟨Nat.le_refl _⟩, xW⟩
 case round =>
  clear H'
  obtain ⟨x3_1, x4_1, rfl, rfl, HA, HK1, ⟨m1, rfl⟩⟩ := hrel
  cases gk with
  | zero => exact absurd HA.out (by simp [spec_l1Num.l0])
  | succ k1 =>
   have H := HA.out
   clear HA
   simp only [spec_l1Num.l0] at H
   by_cases c2 : x4_1 < (a0.size : Int)
   rotate_left
   ·rw [if_neg c2] at H
    have c2b0 := decide_eq_false c2
    clear c2
    by_cases c9 : (a0.size : Int) = 0
    ·rw [if_pos c9] at H
     have c9b0 := beq_iff_eq.mpr c9
     have c9b1 := bne_eq_false_iff_eq.mpr c9
     clear c9
     obtain rfl := Option.some.inj H
     go_wp2
     go_ret
     exact ⟨xR, xW⟩
    rw [if_neg c9] at H
    have c9b0 := beq_eq_false_iff_ne.mpr c9
    have c9b1 := bne_iff_ne.mpr c9
    by_cases c10 : (a0.size : Int) > 1
    rotate_left
    ·rw [if_neg c10] at H
     have c10b0 := decide_eq_false c10
     have c10b1 : decide (1 < a0.size) = false := decide_eq_false (by omega)
     clear c10
     obtain rfl := Option.some.inj H
     go_wp2
     go_ret
     exact ⟨xR, xW⟩
    rw [if_pos c10] at H
    have c10b0 := decide_eq_true c10
    have c10b1 : decide (1 < a0.size) = true := decide_eq_true (by omega)
    clear c10
    replace H := ip H
    obtain ⟨c11, H⟩ := H
    have c11b0 := decide_eq_true c11
    have c11b1 : decide (0 < a0.size) = true := decide_eq_true (by omega)
    clear c11
    have p12 : 0 ≤ (0 : Int) := (by omega)
    have q12 : 0 < a0.size := (by have : (0 : Int) < (a0.size : Int) := of_decide_eq_true xA; omega)
    have hx12 : ∀ h : 0 < a0.size, ((a0[0]'h).toNat : Int) = bt a0 0 := bt_at a0 0
    clear p12
    have qi12 : (0 < (a0.size : Int)) = True := eq_true (of_decide_eq_true xA)
    replace q12 := eq_true q12
    by_cases c13 : (bt a0 0) = 48
    rotate_left
    ·rw [if_neg c13] at H
     have c13b0 := beq_eq_false_iff_ne.mpr c13
     have c13b1 := bne_iff_ne.mpr c13
     obtain rfl := Option.some.inj H
     go_wp2
     go_ret
     exact ⟨xR, xW⟩
    rw [if_pos c13] at H
    have c13b0 := beq_iff_eq.mpr c13
    have c13b1 := bne_eq_false_iff_eq.mpr c13
    clear c13
    obtain rfl := Option.some.inj H
    go_wp2
    go_ret
    exact ⟨xR, xW⟩
   rw [if_pos c2] at H
   have c2b0 := decide_eq_true c2
   clear c2
   replace H := ipd H
   obtain ⟨c3b0, H⟩ := H
   replace H := oa H
   obtain ⟨t123, A5, H⟩ := H
   by_cases c6 : t123 = true
   rotate_left
   ·replace c6 := Bool.eq_false_iff.mpr c6
    subst c6
    rw [if_neg (show ¬ (false = true) by decide)] at H
    obtain rfl := Option.some.inj H
    have p4 : 0 ≤ (x4_1 : Int) := of_decide_eq_true xA
    have q4 : x4_1 < (a0.size : Int) := of_decide_eq_true xA
    have hx4 := bt_at a0 x4_1
    replace p4 := eq_true p4
    replace q4 := eq_true q4
    go_wp2_with ((with_reducible refine gg ?_); refine gL 14 Tryd.func57 #[.int .u8 (bt a0 x4_1)] ?_; (with_reducible refine (spec_l1Figure.calls (bt a0 x4_1) false _ A5.out).mono ?_); rintro e w' ⟨rfl, ⟨nd, rfl⟩⟩; refine ⟨_, rfl, ?_⟩)
    go_ret
    exact ⟨xR, xW⟩
   subst c6
   rw [if_pos rfl] at H
   have p4 : 0 ≤ (x4_1 : Int) := of_decide_eq_true xA
   have q4 : x4_1 < (a0.size : Int) := of_decide_eq_true xA
   have hx4 := bt_at a0 x4_1
   replace p4 := eq_true p4
   replace q4 := eq_true q4
   go_upto_if 19 with ((with_reducible refine gg ?_); refine gL 14 Tryd.func57 #[.int .u8 (bt a0 x4_1)] ?_; (with_reducible refine (spec_l1Figure.calls (bt a0 x4_1) true _ A5.out).mono ?_); rintro e w' ⟨rfl, ⟨nd, rfl⟩⟩; refine ⟨_, rfl, ?_⟩)
   by_cases c7 : x4_1 ≥ 9
   ·rw [if_pos c7] at H
    have c7b0 := decide_eq_true c7
    try simp only [c7b0, Bool.not_true, Bool.not_false]
    clear c7
    obtain rfl := Option.some.inj H
    go_wp2
    go_ret
    exact ⟨xR, xW⟩
   rw [if_neg c7] at H
   have c7b0 := decide_eq_false c7
   try simp only [c7b0, Bool.not_true, Bool.not_false]
   clear c7
   have H' := Aside0.mk H
   clear H
   have p8 : 0 ≤ (x4_1 : Int) := of_decide_eq_true xA
   have q8 : x4_1 < (a0.size : Int) := of_decide_eq_true xA
   have hx8 := bt_at a0 x4_1
   replace p8 := eq_true p8
   replace q8 := eq_true q8
   go_wp2
   go_roundg k1
   case measure => have := HK1.out; omega
   case rel => exact ⟨(wrap64 ((wrap64 (x3_1 * 10)) + (((bt a0 x4_1) - 48) % 256))), (wrap64 (x4_1 + 1)), xR, xR, H', ⟨xL HK1⟩, xW⟩
def spec_l1IsSum.l0 : Nat → ByteArray → Int → Option (Bool)
 | 0, _, _ => none
 | k + 1, x0, x3 => if x3 < (x0.size : Int) then (if 0 ≤ x3 then ((spec_l1Figure.f (bt x0 x3)).bind fun t124 => (if t124 = true then (spec_l1IsSum.l0 k x0 (wrap64 (x3 + 1))) else (if (bt x0 x3) < 97 then (some false) else (if (bt x0 x3) > 102 then (some false) else (spec_l1IsSum.l0 k x0 (wrap64 (x3 + 1))))))) else (none)) else (some ((x0.size : Int) == 16))
def spec_l1IsSum.f (k : Nat) (a0 : ByteArray) : Option (Bool) := spec_l1IsSum.l0 k a0 0
theorem spec_l1IsSum.mono_l : ∀ k, (∀ y0 y1, LeO (spec_l1IsSum.l0 k y0 y1) (spec_l1IsSum.l0 (k + 1) y0 y1))
 | 0 => fun _ _ r h => by simp [spec_l1IsSum.l0] at h
 | k + 1 => by
  have ih0 := spec_l1IsSum.mono_l k
  ·intro y0 y1
   unfold spec_l1IsSum.l0
   exact mo1 ih0
theorem spec_l1IsSum.mono : ∀ a0 k, LeO (spec_l1IsSum.f k a0) (spec_l1IsSum.f (k + 1) a0) := by
 intro a0 k
 have ih0 := spec_l1IsSum.mono_l k
 unfold spec_l1IsSum.f
 exact mo1 ih0
theorem spec_l1IsSum.calls (k : Nat) (a0 : ByteArray) (r : Bool) (w : World) (h : spec_l1IsSum.f k a0 = some r) :
  Calls Tryd.prog 58 #[.string a0] w fun e w' => e = .returned (.bool r) ∧ Drawn0 w w' := by
 have H : (spec_l1IsSum.l0 k a0 0) = some r := h
 clear h
 have H' := Aside0.mk H
 clear H
 go_enter Tryd.func58, Tryd.ntmps58
 go_wp2
 go_loopg [3] k (fun kq v3 w' => ∃ (x3_1 : Int), v3 = .int .i64 x3_1 ∧ Aside0 (spec_l1IsSum.l0 kq a0 x3_1 = some r) ∧ Aside0 (kq ≤ k) ∧ Drawn0 w w')
 case atStart => exact ⟨(0), xR, H', ⟨Nat.le_refl _⟩, xW⟩
 case round =>
  clear H'
  obtain ⟨x3_1, rfl, HA, HK1, ⟨m1, rfl⟩⟩ := hrel
  cases gk with
  | zero => exact absurd HA.out (by simp [spec_l1IsSum.l0])
  | succ k1 =>
   have H := HA.out
   clear HA
   simp only [spec_l1IsSum.l0] at H
   by_cases c2 : x3_1 < (a0.size : Int)
   rotate_left
   ·rw [if_neg c2] at H
    have c2b0 := decide_eq_false c2
    clear c2
    obtain rfl := Option.some.inj H
    go_wp2
    go_ret
    exact ⟨xR, xW⟩
   rw [if_pos c2] at H
   have c2b0 := decide_eq_true c2
   clear c2
   replace H := ipd H
   obtain ⟨c3b0, H⟩ := H
   replace H := oa H
   obtain ⟨t124, A5, H⟩ := H
   by_cases c6 : t124 = true
   ·subst c6
    rw [if_pos rfl] at H
    have H' := Aside0.mk H
    clear H
    have p4 : 0 ≤ (x3_1 : Int) := of_decide_eq_true xA
    have q4 : x3_1 < (a0.size : Int) := of_decide_eq_true xA
    have hx4 := bt_at a0 x3_1
    replace p4 := eq_true p4
    replace q4 := eq_true q4
    go_wp2_with ((with_reducible refine gg ?_); refine gL 13 Tryd.func57 #[.int .u8 (bt a0 x3_1)] ?_; (with_reducible refine (spec_l1Figure.calls (bt a0 x3_1) true _ A5.out).mono ?_); rintro e w' ⟨rfl, ⟨nd, rfl⟩⟩; refine ⟨_, rfl, ?_⟩)
    go_roundg k1
    case measure => have := HK1.out; omega
    case rel => exact ⟨(wrap64 (x3_1 + 1)), xR, H', ⟨xL HK1⟩, xW⟩
   replace c6 := Bool.eq_false_iff.mpr c6
   subst c6
   rw [if_neg (show ¬ (false = true) by decide)] at H
   by_cases c8 : (bt a0 x3_1) < 97
   ·rw [if_pos c8] at H
    have c8b0 := decide_eq_true c8
    clear c8
    obtain rfl := Option.some.inj H
    have p4 : 0 ≤ (x3_1 : Int) := of_decide_eq_true xA
    have q4 : x3_1 < (a0.size : Int) := of_decide_eq_true xA
    have hx4 := bt_at a0 x3_1
    replace p4 := eq_true p4
    replace q4 := eq_true q4
    go_wp2_with ((with_reducible refine gg ?_); refine gL 13 Tryd.func57 #[.int .u8 (bt a0 x3_1)] ?_; (with_reducible refine (spec_l1Figure.calls (bt a0 x3_1) false _ A5.out).mono ?_); rintro e w' ⟨rfl, ⟨nd, rfl⟩⟩; refine ⟨_, rfl, ?_⟩; have p7 : 0 ≤ (x3_1 : Int) := of_decide_eq_true xA; have q7 : x3_1 < (a0.size : Int) := of_decide_eq_true xA; have hx7 := bt_at a0 x3_1; replace p7 := eq_true p7; replace q7 := eq_true q7)
    go_ret
    exact ⟨xR, xW⟩
   rw [if_neg c8] at H
   have c8b0 := decide_eq_false c8
   clear c8
   have p4 : 0 ≤ (x3_1 : Int) := of_decide_eq_true xA
   have q4 : x3_1 < (a0.size : Int) := of_decide_eq_true xA
   have hx4 := bt_at a0 x3_1
   replace p4 := eq_true p4
   replace q4 := eq_true q4
   go_upto_if 26 with ((with_reducible refine gg ?_); refine gL 13 Tryd.func57 #[.int .u8 (bt a0 x3_1)] ?_; (with_reducible refine (spec_l1Figure.calls (bt a0 x3_1) false _ A5.out).mono ?_); rintro e w' ⟨rfl, ⟨nd, rfl⟩⟩; refine ⟨_, rfl, ?_⟩; have p7 : 0 ≤ (x3_1 : Int) := of_decide_eq_true xA; have q7 : x3_1 < (a0.size : Int) := of_decide_eq_true xA; have hx7 := bt_at a0 x3_1; replace p7 := eq_true p7; replace q7 := eq_true q7; have p9 : 0 ≤ (x3_1 : Int) := of_decide_eq_true xA; have q9 : x3_1 < (a0.size : Int) := of_decide_eq_true xA; have hx9 := bt_at a0 x3_1; replace p9 := eq_true p9; replace q9 := eq_true q9)
   by_cases c10 : (bt a0 x3_1) > 102
   ·rw [if_pos c10] at H
    have c10b0 := decide_eq_true c10
    try simp only [c10b0, Bool.not_true, Bool.not_false]
    clear c10
    obtain rfl := Option.some.inj H
    go_wp2
    go_ret
    exact ⟨xR, xW⟩
   rw [if_neg c10] at H
   have c10b0 := decide_eq_false c10
   try simp only [c10b0, Bool.not_true, Bool.not_false]
   clear c10
   have H' := Aside0.mk H
   clear H
   go_wp2
   go_roundg k1
   case measure => have := HK1.out; omega
   case rel => exact ⟨(wrap64 (x3_1 + 1)), xR, H', ⟨xL HK1⟩, xW⟩
def spec_l1In.f (a0 : Int) (a1 : Int) (a2 : Int) : Option (Bool) := if a0 ≥ a1 then (some (decide (a0 ≤ a2))) else (some false)
theorem spec_l1In.calls (a0 : Int) (a1 : Int) (a2 : Int) (r : Bool) (w : World) (h : spec_l1In.f a0 a1 a2 = some r) :
  Calls Tryd.prog 60 #[.int .i64 a0, .int .i64 a1, .int .i64 a2] w fun e w' => e = .returned (.bool r) ∧ Drawn0 w w' := by
 have H : (if a0 ≥ a1 then (some (decide (a0 ≤ a2))) else (some false)) = some r := h
 clear h
 by_cases c4 : a0 ≥ a1
 ·rw [if_pos c4] at H
  have c4b0 := decide_eq_true c4
  clear c4
  obtain rfl := Option.some.inj H
  go_enter Tryd.func60, Tryd.ntmps60
  go_wp2
  go_ret
  exact ⟨xR, xW⟩
 rw [if_neg c4] at H
 have c4b0 := decide_eq_false c4
 clear c4
 obtain rfl := Option.some.inj H
 go_enter Tryd.func60, Tryd.ntmps60
 go_wp2
 go_ret
 exact ⟨xR, xW⟩
def spec_l3Ok.f (k : Nat) (a0_0 : ByteArray) (a0_1 : ByteArray) (a0_2 : Int) (a0_3 : Int) (a0_4 : Int) : Option (Bool) := (spec_l1IsSum.f k a0_0).bind fun t126 => (if t126 = true then ((spec_l1IsSum.f k a0_1).bind fun t127 => (if t127 = true then ((spec_l1In.f a0_2 0 99999).bind fun t128 => (if t128 = true then ((spec_l1In.f a0_3 1 8).bind fun t129 => (if t129 = true then ((spec_l1In.f a0_4 0 400).bind fun t130 => (some t130)) else (some false))) else (some false))) else (some false))) else (some false))
theorem spec_l3Ok.mono : ∀ a0 a1 a2 a3 a4 k, LeO (spec_l3Ok.f k a0 a1 a2 a3 a4) (spec_l3Ok.f (k + 1) a0 a1 a2 a3 a4) := by
 intro a0 a1 a2 a3 a4 k
 unfold spec_l3Ok.f
 exact mo1 spec_l1IsSum.mono
theorem spec_l3Ok.calls (k : Nat) (a0_0 : ByteArray) (a0_1 : ByteArray) (a0_2 : Int) (a0_3 : Int) (a0_4 : Int) (r : Bool) (w : World) (h : spec_l3Ok.f k a0_0 a0_1 a0_2 a0_3 a0_4 = some r) :
  Calls Tryd.prog 43 #[.agg #[.string a0_0, .string a0_1, .int .i64 a0_2, .int .i64 a0_3, .int .i64 a0_4]] w fun e w' => e = .returned (.bool r) ∧ Below w.heap.size w w' := by
 have hu23 := Tryd.underlying23
 have HB := Aside0.mk (Below.refl w.heap.size w)
 have H : ((spec_l1IsSum.f k a0_0).bind fun t126 => (if t126 = true then ((spec_l1IsSum.f k a0_1).bind fun t127 => (if t127 = true then ((spec_l1In.f a0_2 0 99999).bind fun t128 => (if t128 = true then ((spec_l1In.f a0_3 1 8).bind fun t129 => (if t129 = true then ((spec_l1In.f a0_4 0 400).bind fun t130 => (some t130)) else (some false))) else (some false))) else (some false))) else (some false))) = some r := h
 clear h
 replace H := oa H
 obtain ⟨t126, A2, H⟩ := H
 go_enter Tryd.func43, Tryd.ntmps43
 go_upto_region 1 with ((with_reducible refine gg ?_); refine bE 1 #[.string a0_0, .string a0_1, .int .i64 a0_2, .int .i64 a0_3, .int .i64 a0_4] 23 ?_; intro gb125 hg w11 hbox hb; have BK125 := am (hbox); have GW125 := zB hg HB; have GE125 := zB hg HB; replace HB := kH HB hb; clear hb hbox hg; have hz12 := bc5 BK125)
 by_cases c3 : t126 = true
 rotate_left
 ·replace c3 := Bool.eq_false_iff.mpr c3
  subst c3
  try simp only [Bool.not_true, Bool.not_false]
  rw [if_neg (show ¬ (false = true) by decide)] at H
  obtain rfl := Option.some.inj H
  go_wp2_with ((with_reducible refine gg ?_); refine gL 5 Tryd.func58 #[.string a0_0] ?_; (with_reducible refine (spec_l1IsSum.calls k a0_0 false _ A2.out).mono ?_); rintro e w' ⟨rfl, ⟨nd, rfl⟩⟩; refine ⟨_, rfl, ?_⟩)
  go_ret
  exact ⟨xE, xB HB⟩
 subst c3
 try simp only [Bool.not_true, Bool.not_false]
 rw [if_pos rfl] at H
 replace H := oa H
 obtain ⟨t127, A4, H⟩ := H
 by_cases c5 : t127 = true
 rotate_left
 ·replace c5 := Bool.eq_false_iff.mpr c5
  subst c5
  rw [if_neg (show ¬ (false = true) by decide)] at H
  obtain rfl := Option.some.inj H
  go_wp2_with (first | ((with_reducible refine gg ?_); refine gL 5 Tryd.func58 #[.string a0_0] ?_; (with_reducible refine (spec_l1IsSum.calls k a0_0 true _ A2.out).mono ?_); rintro e w' ⟨rfl, ⟨nd, rfl⟩⟩; refine ⟨_, rfl, ?_⟩) | (go_at_call 58; (with_reducible refine (spec_l1IsSum.calls k a0_1 false _ A4.out).mono ?_); rintro e w' ⟨rfl, ⟨nd, rfl⟩⟩))
  go_ret
  exact ⟨xE, xB HB⟩
 subst c5
 rw [if_pos rfl] at H
 replace H := oa H
 obtain ⟨t128, A6, H⟩ := H
 by_cases c7 : t128 = true
 rotate_left
 ·replace c7 := Bool.eq_false_iff.mpr c7
  subst c7
  rw [if_neg (show ¬ (false = true) by decide)] at H
  obtain rfl := Option.some.inj H
  go_wp2_with (first | ((with_reducible refine gg ?_); refine gL 5 Tryd.func58 #[.string a0_0] ?_; (with_reducible refine (spec_l1IsSum.calls k a0_0 true _ A2.out).mono ?_); rintro e w' ⟨rfl, ⟨nd, rfl⟩⟩; refine ⟨_, rfl, ?_⟩) | (go_at_call 58; (with_reducible refine (spec_l1IsSum.calls k a0_1 true _ A4.out).mono ?_); rintro e w' ⟨rfl, ⟨nd, rfl⟩⟩) | (go_at_call 60; (with_reducible refine (spec_l1In.calls a0_2 0 99999 false _ A6.out).mono ?_); rintro e w' ⟨rfl, ⟨nd, rfl⟩⟩))
  go_ret
  exact ⟨xE, xB HB⟩
 subst c7
 rw [if_pos rfl] at H
 replace H := oa H
 obtain ⟨t129, A8, H⟩ := H
 by_cases c9 : t129 = true
 rotate_left
 ·replace c9 := Bool.eq_false_iff.mpr c9
  subst c9
  rw [if_neg (show ¬ (false = true) by decide)] at H
  obtain rfl := Option.some.inj H
  go_wp2_with (first | ((with_reducible refine gg ?_); refine gL 5 Tryd.func58 #[.string a0_0] ?_; (with_reducible refine (spec_l1IsSum.calls k a0_0 true _ A2.out).mono ?_); rintro e w' ⟨rfl, ⟨nd, rfl⟩⟩; refine ⟨_, rfl, ?_⟩) | (go_at_call 58; (with_reducible refine (spec_l1IsSum.calls k a0_1 true _ A4.out).mono ?_); rintro e w' ⟨rfl, ⟨nd, rfl⟩⟩) | (go_at_call 60; (with_reducible refine (spec_l1In.calls a0_2 0 99999 true _ A6.out).mono ?_); rintro e w' ⟨rfl, ⟨nd, rfl⟩⟩) | (go_at_call 60; (with_reducible refine (spec_l1In.calls a0_3 1 8 false _ A8.out).mono ?_); rintro e w' ⟨rfl, ⟨nd, rfl⟩⟩))
  go_ret
  exact ⟨xE, xB HB⟩
 subst c9
 rw [if_pos rfl] at H
 replace H := oa H
 obtain ⟨t130, A10, H⟩ := H
 obtain rfl := Option.some.inj H
 go_wp2_with (first | ((with_reducible refine gg ?_); refine gL 5 Tryd.func58 #[.string a0_0] ?_; (with_reducible refine (spec_l1IsSum.calls k a0_0 true _ A2.out).mono ?_); rintro e w' ⟨rfl, ⟨nd, rfl⟩⟩; refine ⟨_, rfl, ?_⟩) | (go_at_call 58; (with_reducible refine (spec_l1IsSum.calls k a0_1 true _ A4.out).mono ?_); rintro e w' ⟨rfl, ⟨nd, rfl⟩⟩) | (go_at_call 60; (with_reducible refine (spec_l1In.calls a0_2 0 99999 true _ A6.out).mono ?_); rintro e w' ⟨rfl, ⟨nd, rfl⟩⟩) | (go_at_call 60; (with_reducible refine (spec_l1In.calls a0_3 1 8 true _ A8.out).mono ?_); rintro e w' ⟨rfl, ⟨nd, rfl⟩⟩) | (go_at_call 60; (with_reducible refine (spec_l1In.calls a0_4 0 400 t130 _ A10.out).mono ?_); rintro e w' ⟨rfl, ⟨nd, rfl⟩⟩))
 go_ret
 exact ⟨xE, xB HB⟩
end Go.Proofs.YtgjljbaadglpnaaDoor.PFnHeadGet
