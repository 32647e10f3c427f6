/- Functions of the program and what each answers: the kit's print, shortened (wip/press2.py). -/
import Derived.Test.YtgjljbaadglpnaaDoorPFnExactPaidGetx0
namespace Go.Proofs.YtgjljbaadglpnaaDoor.PFnExactPaidGet
open Go.Proofs.YtgjljbaadglpnaaDoor.Sq Go.RowKit Go.Proofs.YtgjljbaadglpnaaDoorW.PrintWords Go.Proofs.YtgjljbaadglpnaaDoorW.PrintLast Go.Proofs.YtgjljbaadglpnaaDoorW.PrintMore
attribute [local go_sem] max2_int min2_int max_two min_two max_three min_three max_four min_four   -- for this text's walks alone
set_option linter.unusedVariables false
set_option linter.unusedSimpArgs false

/-! ### spec_l1Cut: function 25 -/
mutual
def spec_l1Cut.l0 : Nat → ByteArray → Int → Int → List ByteArray → Int → Int → Option (List ByteArray)
 | 0, _, _, _, _, _, _ => none
 | k + 1, x0, x1, x2, x7, x8, x9 => if x9 < (x0.size : Int) then (spec_l1Cut.j1 k x0 x1 x2 x7 x8 x9 (decide ((x7.length : Int) < x2))) else (spec_l1Cut.j1 k x0 x1 x2 x7 x8 x9 false)
def spec_l1Cut.j1 : Nat → ByteArray → Int → Int → List ByteArray → Int → Int → Bool → Option (List ByteArray)
 | 0, _, _, _, _, _, _, _ => none
 | k + 1, x0, x1, x2, x7, x8, x9, x20 => if x20 = true then (if 0 ≤ x9 then (if x9 < (x0.size : Int) then (if (bt x0 x9) = x1 then (if 0 ≤ x8 then (if x8 ≤ x9 then (if x9 ≤ (x0.size : Int) then (if x7.length < 8796093022208 then (spec_l1Cut.l0 k x0 x1 x2 (x7 ++ [x0.extract (x8 : Int).toNat (x9 : Int).toNat]) (wrap64 (x9 + 1)) (wrap64 (x9 + 1))) else (none)) else (none)) else (none)) else (none)) else (spec_l1Cut.l0 k x0 x1 x2 x7 x8 (wrap64 (x9 + 1)))) else (none)) else (none)) else (if 0 ≤ x8 then (if x8 ≤ (x0.size : Int) then (if x7.length < 8796093022208 then (some (x7 ++ [x0.extract (x8 : Int).toNat x0.size])) else (none)) else (none)) else (none))
end
def spec_l1Cut.f (k : Nat) (a0 : ByteArray) (a1 : Int) (a2 : Int) : Option (List ByteArray) := spec_l1Cut.l0 k a0 a1 a2 (([] : List ByteArray)) 0 0
theorem spec_l1Cut.mono_l : ∀ k, (∀ y0 y1 y2 y3 y4 y5, LeO (spec_l1Cut.l0 k y0 y1 y2 y3 y4 y5) (spec_l1Cut.l0 (k + 1) y0 y1 y2 y3 y4 y5)) ∧ (∀ y0 y1 y2 y3 y4 y5 y6, LeO (spec_l1Cut.j1 k y0 y1 y2 y3 y4 y5 y6) (spec_l1Cut.j1 (k + 1) y0 y1 y2 y3 y4 y5 y6))
 | 0 => ⟨fun _ _ _ _ _ _ r h => by simp [spec_l1Cut.l0] at h, fun _ _ _ _ _ _ _ r h => by simp [spec_l1Cut.j1] at h⟩
 | k + 1 => by
  obtain ⟨ih0, ih1⟩ := spec_l1Cut.mono_l k
  refine ⟨?_, ?_⟩
  ·intro y0 y1 y2 y3 y4 y5
   unfold spec_l1Cut.l0
   exact mo2 ih0 ih1
  ·intro y0 y1 y2 y3 y4 y5 y6
   unfold spec_l1Cut.j1
   exact mo2 ih0 ih1
theorem spec_l1Cut.mono : ∀ a0 a1 a2 k, LeO (spec_l1Cut.f k a0 a1 a2) (spec_l1Cut.f (k + 1) a0 a1 a2) := by
 intro a0 a1 a2 k
 obtain ⟨ih0, ih1⟩ := spec_l1Cut.mono_l k
 unfold spec_l1Cut.f
 exact mo2 ih0 ih1
set_option maxHeartbeats 64000000 in
set_option maxRecDepth 100000 in
theorem spec_l1Cut.calls (k : Nat) (a0 : ByteArray) (a1 : Int) (a2 : Int) (r : List ByteArray) (w : World) (h : spec_l1Cut.f k a0 a1 a2 = some r) :
  Calls Tryd.prog 25 #[.string a0, .int .u8 a1, .int .i64 a2] w fun e w' => ∃ v0_ : Value, e = .returned (v0_) ∧ Kd.R Kd.string 9 w' w.heap.size (fun _ => True) v0_ r ∧ Below w.heap.size w w' := by
 have HB := Aside0.mk (Below.refl w.heap.size w)
 have H : (spec_l1Cut.l0 k a0 a1 a2 (([] : List ByteArray)) 0 0) = some r := h
 clear h
 obtain ⟨y101, Ny101⟩ := yA (([] : List ByteArray) : List ByteArray)
 rw [← Ny101.out] at H
 have H' := Aside0.mk H
 clear H
 go_enter Tryd.func25, Tryd.ntmps25
 go_wp2_with ((with_reducible refine gate_dst (N := 10) rfl ?_); (try (refine gate_guard (by rfl) ?_; dsimp only)); refine Kd.R_lit Kd.string _ 9 ?hg (N := 10) ?hd (xs := ([] : List ByteArray)) (inner := []) (ok := fun _ => True) (okp := fun _ => True) ?hr ?hp (fun _ hk => hk) trivial (Below.refl _ _) (Nat.le_refl _) (by simp) ?_; (case hd => rfl); (case hg => rfl); (case hr => first | (go_simp; done) | (go_simp; rfl)); (case hp => exact xP); intro v102 w4 ho5 hb hg_ hnew_; clear hg_ hnew_; (first | rw [← Ny101.out] at ho5 | (simp only [Int.reduceToNat] at ho5; rw [← Ny101.out] at ho5)); have HO103 := am (Kd.R_lower ho5 (below_size (bl HB))); replace HB := kH HB hb; clear hb ho5)
 go_loopg [7, 8, 9] k (fun kq v7 v8 v9 w' => ∃ (x7_1 : List ByteArray) (x8_1 : Int) (x9_1 : Int), v8 = .int .i64 x8_1 ∧ v9 = .int .i64 x9_1 ∧ Aside0 (spec_l1Cut.l0 kq a0 a1 a2 x7_1 x8_1 x9_1 = some r) ∧ Aside0 (kq ≤ k) ∧ Aside0 (Kd.R Kd.string 9 w' w.heap.size (fun _ => True) v7 x7_1) ∧ Aside0 (Below w.heap.size w w'))
 case atStart => exact ⟨(y101), (0), (0), xR, xR, H', ⟨Nat.le_refl _⟩, ⟨ra HO103⟩, ⟨bl HB⟩⟩
 case round =>
  clear H'
  try clear c2
  try clear p2
  obtain ⟨x7_1, x8_1, x9_1, rfl, rfl, HA, HK1, HO_7, HB⟩ := hrel
  cases gk with
  | zero => exact absurd HA.out (by simp [spec_l1Cut.l0])
  | succ k1 =>
   have H := HA.out
   clear HA
   simp only [spec_l1Cut.l0] at H
   have HC6 := Aside0.mk H
   clear H
   go_upto_region 4 with (fail)
   go_cut [20] (fun v20 wc => ∃ (kq : Nat) (x20_5 : Bool), v20 = .bool x20_5 ∧ Aside0 (spec_l1Cut.j1 kq a0 a1 a2 x7_1 x8_1 x9_1 x20_5 = some r) ∧ Aside0 (kq ≤ k1) ∧ Aside0 (Kd.R Kd.string 9 wc w.heap.size (fun _ => True) u7 x7_1) ∧ Aside0 (Below w.heap.size w wc))
   case first =>
    have H := HC6.out
    clear HC6
    by_cases c7 : x9_1 < (a0.size : Int)
    rotate_left
    ·rw [if_neg c7] at H
     have c7b0 := decide_eq_false c7
     clear c7
     (first | rw [c7b0] | (simp only [i64_w, i32_w]; rw [c7b0]) | skip)
     have H' := Aside0.mk H
     clear H
     go_wp2
     go_meet
     case rel => exact ⟨_, (false), xR, H', ⟨xL HK1⟩, ⟨ra HO_7⟩, ⟨bl HB⟩⟩
    rw [if_pos c7] at H
    have c7b0 := decide_eq_true c7
    clear c7
    (first | rw [c7b0] | (simp only [i64_w, i32_w]; rw [c7b0]) | skip)
    have H' := Aside0.mk H
    clear H
    obtain ⟨Ao8, co8, eo8⟩ := Kd.R_slice HO_7.out
    subst eo8
    go_wp2
    go_meet
    case rel => exact ⟨_, (decide ((x7_1.length : Int) < a2)), xR, H', ⟨xL HK1⟩, ⟨ra HO_7⟩, ⟨bl HB⟩⟩
   case rest =>
    clear HC6
    try clear c2
    try clear p2
    try clear c7
    try clear c7b0
    try clear p2
    obtain ⟨kq, x20_5, rfl, HA, HJ5, HO_7, HB⟩ := hcut
    cases kq with
    | zero => exact absurd HA.out (by simp [spec_l1Cut.j1])
    | succ kj5 =>
     have H := HA.out
     clear HA
     simp only [spec_l1Cut.j1] at H
     by_cases c9 : x20_5 = true
     rotate_left
     ·replace c9 := Bool.eq_false_iff.mpr c9
      subst c9
      rw [if_neg (show ¬ (false = true) by decide)] at H
      replace H := ip H
      obtain ⟨c19, H⟩ := H
      have c19b0 := eq_true c19
      have c19b1 := decide_eq_true c19
      clear c19
      replace H := ip H
      obtain ⟨c20, H⟩ := H
      have c20b0 := eq_true c20
      have c20b1 := decide_eq_true c20
      clear c20
      replace H := ipa H
      obtain ⟨LMc21, H⟩ := H
      obtain ⟨y107, hy107⟩ : ∃ y_ : List ByteArray, y_ = (x7_1 ++ [a0.extract (x8_1 : Int).toNat a0.size]) := ⟨_, rfl⟩
      replace H : (some y107) = some r := by first | (rw [hy107]; with_reducible exact H) | (have H2_ := (Option.bind_some _ _).symm.trans H; rw [hy107]; with_reducible exact H2_) | (have H2_ := (Option.bind_some _ _).symm.trans H; with_reducible exact H2_) | with_reducible exact H | (rw [hy107]; exact H) | exact H
      have Ny107 := Aside0.mk hy107
      clear hy107
      obtain rfl := Option.some.inj H
      go_wp2_with ((with_reducible refine gate_builtin (b := .append) (xs := #[.tmp 37, .tmp 41]) rfl ?_); (try (refine gate_guard (by rfl) ?_; dsimp only)); at_builtin; refine Kd.R_append Kd.string (w0 := w) w.heap.size rfl (.tmp 37) (.tmp 41) 56 9 (.string ⟨#[]⟩) 16 rfl Tryd.underlying56 info9 rfl (by decide) (by omega) u7 x7_1 (a0.extract (x8_1 : Int).toNat a0.size) [.string (a0.extract (x8_1 : Int).toNat a0.size)] (fun _ => True) (fun _ => False) rfl rfl ?aP (fun _ hk => hk.elim) ?aF ?aO ?aB ?aS ?aL ?_; (case aP => exact rfl); (case aB => exact (bl HB)); (case aF => exact (fun _ _ => trivial)); (case aO => exact (ra HO_7)); (case aS => exact (below_size (bl HB))); (case aL => have := LMc21.out; omega); intro v108 w22 ho hb hg hat; rw [← Ny107.out] at ho; have n0_ := Aside0.mk (hb); have n1_ := Aside0.mk (ho); clear HB; clear HO_7; have HB := n0_; have HO109 := n1_; clear n0_ n1_; clear ho hb hg hat)
      go_ret
      exact ⟨_, xE, ra HO109, bl HB⟩
     subst c9
     rw [if_pos rfl] at H
     replace H := ipd H
     obtain ⟨c10b0, H⟩ := H
     replace H := ipd H
     obtain ⟨c11b0, H⟩ := H
     by_cases c13 : (bt a0 x9_1) = a1
     rotate_left
     ·rw [if_neg c13] at H
      have c13b0 := beq_eq_false_iff_ne.mpr c13
      have c13b1 := bne_iff_ne.mpr c13
      have H' := Aside0.mk H
      clear H
      have p12 : 0 ≤ (x9_1 : Int) := of_decide_eq_true xA
      have q12 : x9_1 < (a0.size : Int) := of_decide_eq_true xA
      have hx12 := bt_at a0 x9_1
      replace p12 := eq_true p12
      replace q12 := eq_true q12
      go_wp2
      go_roundg kj5
      case measure => have := HK1.out; have := HJ5.out; omega
      case rel => exact ⟨(x7_1), (x8_1), (wrap64 (x9_1 + 1)), xR, xR, H', ⟨by have := HK1.out; have := HJ5.out; omega⟩, ⟨ra HO_7⟩, ⟨bl HB⟩⟩
     rw [if_pos c13] at H
     have c13b0 := beq_iff_eq.mpr c13
     have c13b1 := bne_eq_false_iff_eq.mpr c13
     clear c13
     replace H := ip H
     obtain ⟨c14, H⟩ := H
     have c14b0 := eq_true c14
     have c14b1 := decide_eq_true c14
     clear c14
     replace H := ip H
     obtain ⟨c15, H⟩ := H
     have c15b0 := eq_true c15
     have c15b1 := decide_eq_true c15
     clear c15
     replace H := ip H
     obtain ⟨c16, H⟩ := H
     have c16b0 := eq_true c16
     have c16b1 := decide_eq_true c16
     clear c16
     replace H := ipa H
     obtain ⟨LMc17, H⟩ := H
     obtain ⟨y104, Ny104⟩ := yA (x7_1 ++ [a0.extract (x8_1 : Int).toNat (x9_1 : Int).toNat] : List ByteArray)
     rw [← Ny104.out] at H
     have H' := Aside0.mk H
     clear H
     have p12 : 0 ≤ (x9_1 : Int) := of_decide_eq_true xA
     have q12 : x9_1 < (a0.size : Int) := of_decide_eq_true xA
     have hx12 := bt_at a0 x9_1
     replace p12 := eq_true p12
     replace q12 := eq_true q12
     go_wp2_with ((with_reducible refine gate_builtin (b := .append) (xs := #[.tmp 28, .tmp 33]) rfl ?_); (try (refine gate_guard (by rfl) ?_; dsimp only)); at_builtin; refine Kd.R_append Kd.string (w0 := w) w.heap.size rfl (.tmp 28) (.tmp 33) 56 9 (.string ⟨#[]⟩) 16 rfl Tryd.underlying56 info9 rfl (by decide) (by omega) u7 x7_1 (a0.extract (x8_1 : Int).toNat (x9_1 : Int).toNat) [.string (a0.extract (x8_1 : Int).toNat (x9_1 : Int).toNat)] (fun _ => True) (fun _ => False) rfl rfl ?aP (fun _ hk => hk.elim) ?aF ?aO ?aB ?aS ?aL ?_; (case aP => exact rfl); (case aB => exact (bl HB)); (case aF => exact (fun _ _ => trivial)); (case aO => exact (ra HO_7)); (case aS => exact (below_size (bl HB))); (case aL => have := LMc17.out; omega); intro v105 w18 ho hb hg hat; rw [← Ny104.out] at ho; have n0_ := Aside0.mk (hb); have n1_ := Aside0.mk (ho); clear HB; clear HO_7; have HB := n0_; have HO106 := n1_; clear n0_ n1_; clear ho hb hg hat)
     go_roundg kj5
     case measure => have := HK1.out; have := HJ5.out; omega
     case rel => exact ⟨(y104), (wrap64 (x9_1 + 1)), (wrap64 (x9_1 + 1)), xR, xR, H', ⟨by have := HK1.out; have := HJ5.out; omega⟩, ⟨ra HO106⟩, ⟨bl HB⟩⟩

/-! ### spec_l1Figure: function 57 -/
def spec_l1Figure.f (a0 : Int) : Option (Bool) := if a0 ≥ 48 then (some (decide (a0 ≤ 57))) else (some false)
set_option maxHeartbeats 64000000 in
set_option maxRecDepth 100000 in
theorem spec_l1Figure.calls (a0 : Int) (r : Bool) (w : World) (h : spec_l1Figure.f a0 = some r) :
  Calls Tryd.prog 57 #[.int .u8 a0] w fun e w' => e = .returned (.bool r) ∧ Drawn0 w w' := by
 have H : (if a0 ≥ 48 then (some (decide (a0 ≤ 57))) else (some false)) = some r := h
 clear h
 by_cases c2 : a0 ≥ 48
 ·rw [if_pos c2] at H
  have c2b0 := decide_eq_true c2
  clear c2
  obtain rfl := Option.some.inj H
  go_enter Tryd.func57, Tryd.ntmps57
  go_wp2
  go_ret
  exact ⟨xR, xW⟩
 rw [if_neg c2] at H
 have c2b0 := decide_eq_false c2
 clear c2
 obtain rfl := Option.some.inj H
 go_enter Tryd.func57, Tryd.ntmps57
 go_wp2
 go_ret
 exact ⟨xR, xW⟩

/-! ### spec_l1Num: function 27 -/
def spec_l1Num.l0 : Nat → ByteArray → Int → Int → Option (Int)
 | 0, _, _, _ => none
 | k + 1, x0, x3, x4 => if x4 < (x0.size : Int) then (if 0 ≤ x4 then ((spec_l1Figure.f (bt x0 x4)).bind fun t110 => (if t110 = true then (if x4 ≥ 9 then (some (-1)) else (spec_l1Num.l0 k x0 (wrap64 ((wrap64 (x3 * 10)) + (((bt x0 x4) - 48) % 256))) (wrap64 (x4 + 1)))) else (some (-1)))) else (none)) else (if (x0.size : Int) = 0 then (some (-1)) else (if (x0.size : Int) > 1 then (if 0 < (x0.size : Int) then (if (bt x0 0) = 48 then (some (-1)) else (some x3)) else (none)) else (some x3)))
def spec_l1Num.f (k : Nat) (a0 : ByteArray) : Option (Int) := spec_l1Num.l0 k a0 0 0
theorem spec_l1Num.mono_l : ∀ k, (∀ y0 y1 y2, LeO (spec_l1Num.l0 k y0 y1 y2) (spec_l1Num.l0 (k + 1) y0 y1 y2))
 | 0 => fun _ _ _ r h => by simp [spec_l1Num.l0] at h
 | k + 1 => by
  have ih0 := spec_l1Num.mono_l k
  ·intro y0 y1 y2
   unfold spec_l1Num.l0
   exact mo1 ih0
theorem spec_l1Num.mono : ∀ a0 k, LeO (spec_l1Num.f k a0) (spec_l1Num.f (k + 1) a0) := by
 intro a0 k
 have ih0 := spec_l1Num.mono_l k
 unfold spec_l1Num.f
 exact mo1 ih0
set_option maxHeartbeats 64000000 in
set_option maxRecDepth 100000 in
theorem spec_l1Num.calls (k : Nat) (a0 : ByteArray) (r : Int) (w : World) (h : spec_l1Num.f k a0 = some r) :
  Calls Tryd.prog 27 #[.string a0] w fun e w' => e = .returned (.int .i64 r) ∧ Drawn0 w w' := by
 have H : (spec_l1Num.l0 k a0 0 0) = some r := h
 clear h
 have H' := Aside0.mk H
 clear H
 go_enter Tryd.func27, Tryd.ntmps27
 go_wp2
 go_loopg [3, 4] k (fun kq v3 v4 w' => ∃ (x3_1 : Int) (x4_1 : Int), v3 = .int .i64 x3_1 ∧ v4 = .int .i64 x4_1 ∧ Aside0 (spec_l1Num.l0 kq a0 x3_1 x4_1 = some r) ∧ Aside0 (kq ≤ k) ∧ Drawn0 w w')
 case atStart => exact ⟨(0), (0), xR, xR, H', ⟨Nat.le_refl _⟩, xW⟩
 case round =>
  clear H'
  obtain ⟨x3_1, x4_1, rfl, rfl, HA, HK1, ⟨m1, rfl⟩⟩ := hrel
  cases gk with
  | zero => exact absurd HA.out (by simp [spec_l1Num.l0])
  | succ k1 =>
   have H := HA.out
   clear HA
   simp only [spec_l1Num.l0] at H
   by_cases c2 : x4_1 < (a0.size : Int)
   rotate_left
   ·rw [if_neg c2] at H
    have c2b0 := decide_eq_false c2
    clear c2
    by_cases c9 : (a0.size : Int) = 0
    ·rw [if_pos c9] at H
     have c9b0 := beq_iff_eq.mpr c9
     have c9b1 := bne_eq_false_iff_eq.mpr c9
     clear c9
     obtain rfl := Option.some.inj H
     go_wp2
     go_ret
     exact ⟨xR, xW⟩
    rw [if_neg c9] at H
    have c9b0 := beq_eq_false_iff_ne.mpr c9
    have c9b1 := bne_iff_ne.mpr c9
    by_cases c10 : (a0.size : Int) > 1
    rotate_left
    ·rw [if_neg c10] at H
     have c10b0 := decide_eq_false c10
     have c10b1 : decide (1 < a0.size) = false := decide_eq_false (by omega)
     clear c10
     obtain rfl := Option.some.inj H
     go_wp2
     go_ret
     exact ⟨xR, xW⟩
    rw [if_pos c10] at H
    have c10b0 := decide_eq_true c10
    have c10b1 : decide (1 < a0.size) = true := decide_eq_true (by omega)
    clear c10
    replace H := ip H
    obtain ⟨c11, H⟩ := H
    have c11b0 := decide_eq_true c11
    have c11b1 : decide (0 < a0.size) = true := decide_eq_true (by omega)
    clear c11
    have p12 : 0 ≤ (0 : Int) := (by omega)
    have q12 : 0 < a0.size := (by have : (0 : Int) < (a0.size : Int) := of_decide_eq_true xA; omega)
    have hx12 : ∀ h : 0 < a0.size, ((a0[0]'h).toNat : Int) = bt a0 0 := bt_at a0 0
    clear p12
    have qi12 : (0 < (a0.size : Int)) = True := eq_true (of_decide_eq_true xA)
    replace q12 := eq_true q12
    by_cases c13 : (bt a0 0) = 48
    rotate_left
    ·rw [if_neg c13] at H
     have c13b0 := beq_eq_false_iff_ne.mpr c13
     have c13b1 := bne_iff_ne.mpr c13
     obtain rfl := Option.some.inj H
     go_wp2
     go_ret
     exact ⟨xR, xW⟩
    rw [if_pos c13] at H
    have c13b0 := beq_iff_eq.mpr c13
    have c13b1 := bne_eq_false_iff_eq.mpr c13
    clear c13
    obtain rfl := Option.some.inj H
    go_wp2
    go_ret
    exact ⟨xR, xW⟩
   rw [if_pos c2] at H
   have c2b0 := decide_eq_true c2
   clear c2
   replace H := ipd H
   obtain ⟨c3b0, H⟩ := H
   replace H := oa H
   obtain ⟨t110, A5, H⟩ := H
   by_cases c6 : t110 = true
   rotate_left
   ·replace c6 := Bool.eq_false_iff.mpr c6
    subst c6
    rw [if_neg (show ¬ (false = true) by decide)] at H
    obtain rfl := Option.some.inj H
    have p4 : 0 ≤ (x4_1 : Int) := of_decide_eq_true xA
    have q4 : x4_1 < (a0.size : Int) := of_decide_eq_true xA
    have hx4 := bt_at a0 x4_1
    replace p4 := eq_true p4
    replace q4 := eq_true q4
    go_wp2_with ((with_reducible refine gg ?_); refine gL 14 Tryd.func57 #[.int .u8 (bt a0 x4_1)] ?_; (with_reducible refine (spec_l1Figure.calls (bt a0 x4_1) false _ A5.out).mono ?_); rintro e w' ⟨rfl, ⟨nd, rfl⟩⟩; refine ⟨_, rfl, ?_⟩)
    go_ret
    exact ⟨xR, xW⟩
   subst c6
   rw [if_pos rfl] at H
   have p4 : 0 ≤ (x4_1 : Int) := of_decide_eq_true xA
   have q4 : x4_1 < (a0.size : Int) := of_decide_eq_true xA
   have hx4 := bt_at a0 x4_1
   replace p4 := eq_true p4
   replace q4 := eq_true q4
   go_upto_if 19 with ((with_reducible refine gg ?_); refine gL 14 Tryd.func57 #[.int .u8 (bt a0 x4_1)] ?_; (with_reducible refine (spec_l1Figure.calls (bt a0 x4_1) true _ A5.out).mono ?_); rintro e w' ⟨rfl, ⟨nd, rfl⟩⟩; refine ⟨_, rfl, ?_⟩)
   by_cases c7 : x4_1 ≥ 9
   ·rw [if_pos c7] at H
    have c7b0 := decide_eq_true c7
    try simp only [c7b0]
    clear c7
    obtain rfl := Option.some.inj H
    go_wp2
    go_ret
    exact ⟨xR, xW⟩
   rw [if_neg c7] at H
   have c7b0 := decide_eq_false c7
   try simp only [c7b0]
   clear c7
   have H' := Aside0.mk H
   clear H
   have p8 : 0 ≤ (x4_1 : Int) := of_decide_eq_true xA
   have q8 : x4_1 < (a0.size : Int) := of_decide_eq_true xA
   have hx8 := bt_at a0 x4_1
   replace p8 := eq_true p8
   replace q8 := eq_true q8
   go_wp2
   go_roundg k1
   case measure => have := HK1.out; omega
   case rel => exact ⟨(wrap64 ((wrap64 (x3_1 * 10)) + (((bt a0 x4_1) - 48) % 256))), (wrap64 (x4_1 + 1)), xR, xR, H', ⟨xL HK1⟩, xW⟩

/-! ### spec_l1IsSum: function 58 -/
def spec_l1IsSum.l0 : Nat → ByteArray → Int → Option (Bool)
 | 0, _, _ => none
 | k + 1, x0, x3 => if x3 < (x0.size : Int) then (if 0 ≤ x3 then ((spec_l1Figure.f (bt x0 x3)).bind fun t111 => (if t111 = true then (spec_l1IsSum.l0 k x0 (wrap64 (x3 + 1))) else (if (bt x0 x3) < 97 then (some false) else (if (bt x0 x3) > 102 then (some false) else (spec_l1IsSum.l0 k x0 (wrap64 (x3 + 1))))))) else (none)) else (some ((x0.size : Int) == 16))
def spec_l1IsSum.f (k : Nat) (a0 : ByteArray) : Option (Bool) := spec_l1IsSum.l0 k a0 0
theorem spec_l1IsSum.mono_l : ∀ k, (∀ y0 y1, LeO (spec_l1IsSum.l0 k y0 y1) (spec_l1IsSum.l0 (k + 1) y0 y1))
 | 0 => fun _ _ r h => by simp [spec_l1IsSum.l0] at h
 | k + 1 => by
  have ih0 := spec_l1IsSum.mono_l k
  ·intro y0 y1
   unfold spec_l1IsSum.l0
   exact mo1 ih0
theorem spec_l1IsSum.mono : ∀ a0 k, LeO (spec_l1IsSum.f k a0) (spec_l1IsSum.f (k + 1) a0) := by
 intro a0 k
 have ih0 := spec_l1IsSum.mono_l k
 unfold spec_l1IsSum.f
 exact mo1 ih0
set_option maxHeartbeats 64000000 in
set_option maxRecDepth 100000 in
theorem spec_l1IsSum.calls (k : Nat) (a0 : ByteArray) (r : Bool) (w : World) (h : spec_l1IsSum.f k a0 = some r) :
  Calls Tryd.prog 58 #[.string a0] w fun e w' => e = .returned (.bool r) ∧ Drawn0 w w' := by
 have H : (spec_l1IsSum.l0 k a0 0) = some r := h
 clear h
 have H' := Aside0.mk H
 clear H
 go_enter Tryd.func58, Tryd.ntmps58
 go_wp2
 go_loopg [3] k (fun kq v3 w' => ∃ (x3_1 : Int), v3 = .int .i64 x3_1 ∧ Aside0 (spec_l1IsSum.l0 kq a0 x3_1 = some r) ∧ Aside0 (kq ≤ k) ∧ Drawn0 w w')
 case atStart => exact ⟨(0), xR, H', ⟨Nat.le_refl _⟩, xW⟩
 case round =>
  clear H'
  obtain ⟨x3_1, rfl, HA, HK1, ⟨m1, rfl⟩⟩ := hrel
  cases gk with
  | zero => exact absurd HA.out (by simp [spec_l1IsSum.l0])
  | succ k1 =>
   have H := HA.out
   clear HA
   simp only [spec_l1IsSum.l0] at H
   by_cases c2 : x3_1 < (a0.size : Int)
   rotate_left
   ·rw [if_neg c2] at H
    have c2b0 := decide_eq_false c2
    clear c2
    obtain rfl := Option.some.inj H
    go_wp2
    go_ret
    exact ⟨xR, xW⟩
   rw [if_pos c2] at H
   have c2b0 := decide_eq_true c2
   clear c2
   replace H := ipd H
   obtain ⟨c3b0, H⟩ := H
   replace H := oa H
   obtain ⟨t111, A5, H⟩ := H
   by_cases c6 : t111 = true
   ·subst c6
    rw [if_pos rfl] at H
    have H' := Aside0.mk H
    clear H
    have p4 : 0 ≤ (x3_1 : Int) := of_decide_eq_true xA
    have q4 : x3_1 < (a0.size : Int) := of_decide_eq_true xA
    have hx4 := bt_at a0 x3_1
    replace p4 := eq_true p4
    replace q4 := eq_true q4
    go_wp2_with ((with_reducible refine gg ?_); refine gL 13 Tryd.func57 #[.int .u8 (bt a0 x3_1)] ?_; (with_reducible refine (spec_l1Figure.calls (bt a0 x3_1) true _ A5.out).mono ?_); rintro e w' ⟨rfl, ⟨nd, rfl⟩⟩; refine ⟨_, rfl, ?_⟩)
    go_roundg k1
    case measure => have := HK1.out; omega
    case rel => exact ⟨(wrap64 (x3_1 + 1)), xR, H', ⟨xL HK1⟩, xW⟩
   replace c6 := Bool.eq_false_iff.mpr c6
   subst c6
   rw [if_neg (show ¬ (false = true) by decide)] at H
   by_cases c8 : (bt a0 x3_1) < 97
   ·rw [if_pos c8] at H
    have c8b0 := decide_eq_true c8
    clear c8
    obtain rfl := Option.some.inj H
    have p4 : 0 ≤ (x3_1 : Int) := of_decide_eq_true xA
    have q4 : x3_1 < (a0.size : Int) := of_decide_eq_true xA
    have hx4 := bt_at a0 x3_1
    replace p4 := eq_true p4
    replace q4 := eq_true q4
    go_wp2_with ((with_reducible refine gg ?_); refine gL 13 Tryd.func57 #[.int .u8 (bt a0 x3_1)] ?_; (with_reducible refine (spec_l1Figure.calls (bt a0 x3_1) false _ A5.out).mono ?_); rintro e w' ⟨rfl, ⟨nd, rfl⟩⟩; refine ⟨_, rfl, ?_⟩; have p7 : 0 ≤ (x3_1 : Int) := of_decide_eq_true xA; have q7 : x3_1 < (a0.size : Int) := of_decide_eq_true xA; have hx7 := bt_at a0 x3_1; replace p7 := eq_true p7; replace q7 := eq_true q7)
    go_ret
    exact ⟨xR, xW⟩
   rw [if_neg c8] at H
   have c8b0 := decide_eq_false c8
   clear c8
   have p4 : 0 ≤ (x3_1 : Int) := of_decide_eq_true xA
   have q4 : x3_1 < (a0.size : Int) := of_decide_eq_true xA
   have hx4 := bt_at a0 x3_1
   replace p4 := eq_true p4
   replace q4 := eq_true q4
   go_upto_if 26 with ((with_reducible refine gg ?_); refine gL 13 Tryd.func57 #[.int .u8 (bt a0 x3_1)] ?_; (with_reducible refine (spec_l1Figure.calls (bt a0 x3_1) false _ A5.out).mono ?_); rintro e w' ⟨rfl, ⟨nd, rfl⟩⟩; refine ⟨_, rfl, ?_⟩; have p7 : 0 ≤ (x3_1 : Int) := of_decide_eq_true xA; have q7 : x3_1 < (a0.size : Int) := of_decide_eq_true xA; have hx7 := bt_at a0 x3_1; replace p7 := eq_true p7; replace q7 := eq_true q7; have p9 : 0 ≤ (x3_1 : Int) := of_decide_eq_true xA; have q9 : x3_1 < (a0.size : Int) := of_decide_eq_true xA; have hx9 := bt_at a0 x3_1; replace p9 := eq_true p9; replace q9 := eq_true q9)
   by_cases c10 : (bt a0 x3_1) > 102
   ·rw [if_pos c10] at H
    have c10b0 := decide_eq_true c10
    try simp only [c10b0]
    clear c10
    obtain rfl := Option.some.inj H
    go_wp2
    go_ret
    exact ⟨xR, xW⟩
   rw [if_neg c10] at H
   have c10b0 := decide_eq_false c10
   try simp only [c10b0]
   clear c10
   have H' := Aside0.mk H
   clear H
   go_wp2
   go_roundg k1
   case measure => have := HK1.out; omega
   case rel => exact ⟨(wrap64 (x3_1 + 1)), xR, H', ⟨xL HK1⟩, xW⟩

/-! ### spec_l1In: function 60 -/
def spec_l1In.f (a0 : Int) (a1 : Int) (a2 : Int) : Option (Bool) := if a0 ≥ a1 then (some (decide (a0 ≤ a2))) else (some false)
set_option maxHeartbeats 64000000 in
set_option maxRecDepth 100000 in
theorem spec_l1In.calls (a0 : Int) (a1 : Int) (a2 : Int) (r : Bool) (w : World) (h : spec_l1In.f a0 a1 a2 = some r) :
  Calls Tryd.prog 60 #[.int .i64 a0, .int .i64 a1, .int .i64 a2] w fun e w' => e = .returned (.bool r) ∧ Drawn0 w w' := by
 have H : (if a0 ≥ a1 then (some (decide (a0 ≤ a2))) else (some false)) = some r := h
 clear h
 by_cases c4 : a0 ≥ a1
 ·rw [if_pos c4] at H
  have c4b0 := decide_eq_true c4
  clear c4
  obtain rfl := Option.some.inj H
  go_enter Tryd.func60, Tryd.ntmps60
  go_wp2
  go_ret
  exact ⟨xR, xW⟩
 rw [if_neg c4] at H
 have c4b0 := decide_eq_false c4
 clear c4
 obtain rfl := Option.some.inj H
 go_enter Tryd.func60, Tryd.ntmps60
 go_wp2
 go_ret
 exact ⟨xR, xW⟩

/-! ### spec_l3Ok: function 43 -/
def spec_l3Ok.f (k : Nat) (a0_0 : ByteArray) (a0_1 : ByteArray) (a0_2 : Int) (a0_3 : Int) (a0_4 : Int) : Option (Bool) := (spec_l1IsSum.f k a0_0).bind fun t113 => (if t113 = true then ((spec_l1IsSum.f k a0_1).bind fun t114 => (if t114 = true then ((spec_l1In.f a0_2 0 99999).bind fun t115 => (if t115 = true then ((spec_l1In.f a0_3 1 8).bind fun t116 => (if t116 = true then ((spec_l1In.f a0_4 0 400).bind fun t117 => (some t117)) else (some false))) else (some false))) else (some false))) else (some false))
theorem spec_l3Ok.mono : ∀ a0 a1 a2 a3 a4 k, LeO (spec_l3Ok.f k a0 a1 a2 a3 a4) (spec_l3Ok.f (k + 1) a0 a1 a2 a3 a4) := by
 intro a0 a1 a2 a3 a4 k
 unfold spec_l3Ok.f
 exact mo1 spec_l1IsSum.mono
set_option maxHeartbeats 64000000 in
set_option maxRecDepth 100000 in
theorem spec_l3Ok.calls (k : Nat) (a0_0 : ByteArray) (a0_1 : ByteArray) (a0_2 : Int) (a0_3 : Int) (a0_4 : Int) (r : Bool) (w : World) (h : spec_l3Ok.f k a0_0 a0_1 a0_2 a0_3 a0_4 = some r) :
  Calls Tryd.prog 43 #[.agg #[.string a0_0, .string a0_1, .int .i64 a0_2, .int .i64 a0_3, .int .i64 a0_4]] w fun e w' => e = .returned (.bool r) ∧ Below w.heap.size w w' := by
 have hu23 := Tryd.underlying23
 have HB := Aside0.mk (Below.refl w.heap.size w)
 have H : ((spec_l1IsSum.f k a0_0).bind fun t113 => (if t113 = true then ((spec_l1IsSum.f k a0_1).bind fun t114 => (if t114 = true then ((spec_l1In.f a0_2 0 99999).bind fun t115 => (if t115 = true then ((spec_l1In.f a0_3 1 8).bind fun t116 => (if t116 = true then ((spec_l1In.f a0_4 0 400).bind fun t117 => (some t117)) else (some false))) else (some false))) else (some false))) else (some false))) = some r := h
 clear h
 replace H := oa H
 obtain ⟨t113, A2, H⟩ := H
 go_enter Tryd.func43, Tryd.ntmps43
 go_upto_region 1 with ((with_reducible refine gg ?_); refine bE 1 #[.string a0_0, .string a0_1, .int .i64 a0_2, .int .i64 a0_3, .int .i64 a0_4] 23 ?_; intro gb112 hg w11 hbox hb; have BK112 := am (hbox); have GW112 := zB hg HB; have GE112 := zB hg HB; replace HB := kH HB hb; clear hb hbox hg; have hz12 := bc5 BK112)
 by_cases c3 : t113 = true
 rotate_left
 ·replace c3 := Bool.eq_false_iff.mpr c3
  subst c3
  try simp only [Bool.not_true, Bool.not_false]
  rw [if_neg (show ¬ (false = true) by decide)] at H
  obtain rfl := Option.some.inj H
  go_wp2_with ((with_reducible refine gg ?_); refine gL 5 Tryd.func58 #[.string a0_0] ?_; (with_reducible refine (spec_l1IsSum.calls k a0_0 false _ A2.out).mono ?_); rintro e w' ⟨rfl, ⟨nd, rfl⟩⟩; refine ⟨_, rfl, ?_⟩)
  go_ret
  exact ⟨xE, xB HB⟩
 subst c3
 try simp only [Bool.not_true, Bool.not_false]
 rw [if_pos rfl] at H
 replace H := oa H
 obtain ⟨t114, A4, H⟩ := H
 by_cases c5 : t114 = true
 rotate_left
 ·replace c5 := Bool.eq_false_iff.mpr c5
  subst c5
  rw [if_neg (show ¬ (false = true) by decide)] at H
  obtain rfl := Option.some.inj H
  go_wp2_with (first | ((with_reducible refine gg ?_); refine gL 5 Tryd.func58 #[.string a0_0] ?_; (with_reducible refine (spec_l1IsSum.calls k a0_0 true _ A2.out).mono ?_); rintro e w' ⟨rfl, ⟨nd, rfl⟩⟩; refine ⟨_, rfl, ?_⟩) | (go_at_call 58; (with_reducible refine (spec_l1IsSum.calls k a0_1 false _ A4.out).mono ?_); rintro e w' ⟨rfl, ⟨nd, rfl⟩⟩))
  go_ret
  exact ⟨xE, xB HB⟩
 subst c5
 rw [if_pos rfl] at H
 replace H := oa H
 obtain ⟨t115, A6, H⟩ := H
 by_cases c7 : t115 = true
 rotate_left
 ·replace c7 := Bool.eq_false_iff.mpr c7
  subst c7
  rw [if_neg (show ¬ (false = true) by decide)] at H
  obtain rfl := Option.some.inj H
  go_wp2_with (first | ((with_reducible refine gg ?_); refine gL 5 Tryd.func58 #[.string a0_0] ?_; (with_reducible refine (spec_l1IsSum.calls k a0_0 true _ A2.out).mono ?_); rintro e w' ⟨rfl, ⟨nd, rfl⟩⟩; refine ⟨_, rfl, ?_⟩) | (go_at_call 58; (with_reducible refine (spec_l1IsSum.calls k a0_1 true _ A4.out).mono ?_); rintro e w' ⟨rfl, ⟨nd, rfl⟩⟩) | (go_at_call 60; (with_reducible refine (spec_l1In.calls a0_2 0 99999 false _ A6.out).mono ?_); rintro e w' ⟨rfl, ⟨nd, rfl⟩⟩))
  go_ret
  exact ⟨xE, xB HB⟩
 subst c7
 rw [if_pos rfl] at H
 replace H := oa H
 obtain ⟨t116, A8, H⟩ := H
 by_cases c9 : t116 = true
 rotate_left
 ·replace c9 := Bool.eq_false_iff.mpr c9
  subst c9
  rw [if_neg (show ¬ (false = true) by decide)] at H
  obtain rfl := Option.some.inj H
  go_wp2_with (first | ((with_reducible refine gg ?_); refine gL 5 Tryd.func58 #[.string a0_0] ?_; (with_reducible refine (spec_l1IsSum.calls k a0_0 true _ A2.out).mono ?_); rintro e w' ⟨rfl, ⟨nd, rfl⟩⟩; refine ⟨_, rfl, ?_⟩) | (go_at_call 58; (with_reducible refine (spec_l1IsSum.calls k a0_1 true _ A4.out).mono ?_); rintro e w' ⟨rfl, ⟨nd, rfl⟩⟩) | (go_at_call 60; (with_reducible refine (spec_l1In.calls a0_2 0 99999 true _ A6.out).mono ?_); rintro e w' ⟨rfl, ⟨nd, rfl⟩⟩) | (go_at_call 60; (with_reducible refine (spec_l1In.calls a0_3 1 8 false _ A8.out).mono ?_); rintro e w' ⟨rfl, ⟨nd, rfl⟩⟩))
  go_ret
  exact ⟨xE, xB HB⟩
 subst c9
 rw [if_pos rfl] at H
 replace H := oa H
 obtain ⟨t117, A10, H⟩ := H
 obtain rfl := Option.some.inj H
 go_wp2_with (first | ((with_reducible refine gg ?_); refine gL 5 Tryd.func58 #[.string a0_0] ?_; (with_reducible refine (spec_l1IsSum.calls k a0_0 true _ A2.out).mono ?_); rintro e w' ⟨rfl, ⟨nd, rfl⟩⟩; refine ⟨_, rfl, ?_⟩) | (go_at_call 58; (with_reducible refine (spec_l1IsSum.calls k a0_1 true _ A4.out).mono ?_); rintro e w' ⟨rfl, ⟨nd, rfl⟩⟩) | (go_at_call 60; (with_reducible refine (spec_l1In.calls a0_2 0 99999 true _ A6.out).mono ?_); rintro e w' ⟨rfl, ⟨nd, rfl⟩⟩) | (go_at_call 60; (with_reducible refine (spec_l1In.calls a0_3 1 8 true _ A8.out).mono ?_); rintro e w' ⟨rfl, ⟨nd, rfl⟩⟩) | (go_at_call 60; (with_reducible refine (spec_l1In.calls a0_4 0 400 t117 _ A10.out).mono ?_); rintro e w' ⟨rfl, ⟨nd, rfl⟩⟩))
 go_ret
 exact ⟨xE, xB HB⟩


/-! ### spec_l1Dec: function 62 -/
def spec_l1Dec.f : Nat → Int → Option (ByteArray)
 | 0, _ => none
 | k + 1, a0 => if a0 < (-9223372036854775807) then (some (⟨#[45, 57, 50, 50, 51, 51, 55, 50, 48, 51, 54, 56, 53, 52, 55, 55, 53, 56, 48, 56]⟩ : ByteArray)) else (if a0 < 0 then ((spec_l1Dec.f k (wrap64 (-a0))).bind fun t118 => (if 1 + t118.size ≤ 9223372036854775807 then (some ((⟨#[45]⟩ : ByteArray) ++ t118)) else (none))) else (if a0 < 10 then (some (strOfNums (([(wrap64 (48 + a0)) % 256] : List Int)))) else ((spec_l1Dec.f k (wrap64 (Int.tdiv a0 10))).bind fun t122 => ((some (([(wrap64 (48 + (Int.tmod a0 10))) % 256] : List Int) : List Int)).bind fun y123 => (if t122.size + (strOfNums y123).size ≤ 9223372036854775807 then (some (t122 ++ (strOfNums y123))) else (none))))))
theorem spec_l1Dec.mono_l : ∀ k, (∀ y0, LeO (spec_l1Dec.f k y0) (spec_l1Dec.f (k + 1) y0))
 | 0 => fun _ r h => by simp [spec_l1Dec.f] at h
 | k + 1 => by
  have ih0 := spec_l1Dec.mono_l k
  ·intro y0
   unfold spec_l1Dec.f
   exact mo1 ih0
theorem spec_l1Dec.mono : ∀ a0 k, LeO (spec_l1Dec.f k a0) (spec_l1Dec.f (k + 1) a0) := by
 intro a0 k
 have ih0 := spec_l1Dec.mono_l k
 exact ih0 a0
def spec_l1Dec.T7 : Bool × List (List Nat × List Nat) := (true, [([], []), ([0], [0]), ([1], [1]), ([], []), ([3], [3]), ([4], [4]), ([5], [5]), ([6], [6]), ([7], [7]), ([2, 8], [2, 8]), ([9, 2, 0, 1, 2, 3, 4, 5, 6, 7, 8, 9], [9])])
def spec_l1Dec.B7 : List Nat := [0, 1, 3, 0, 8, 24, 56, 120, 248, 511, 1023]
theorem spec_l1Dec.tab7 : rtab .any (opsOf Tryd.f62 7) = spec_l1Dec.T7 := by kernel_rfl
theorem spec_l1Dec.bits7 : waitsOk spec_l1Dec.T7.2 spec_l1Dec.B7 = true := by kernel_rfl
set_option maxHeartbeats 64000000 in
set_option maxRecDepth 100000 in
theorem spec_l1Dec.calls (k : Nat) : ∀ (a0 : Int) (r : ByteArray) (w : World) (h : spec_l1Dec.f k a0 = some r),
  Calls Tryd.prog 62 #[.int .i64 a0] w fun e w' => e = .returned (.string r) ∧ Below w.heap.size w w' := by
 induction k using Nat.strongRecOn with
 | _ k ih =>
 intro a0 r w h
 cases k with
 | zero => exact absurd h (by simp [spec_l1Dec.f])
 | succ k =>
 simp only [spec_l1Dec.f] at h
 have HB := Aside0.mk (Below.refl w.heap.size w)
 have H : (if a0 < (-9223372036854775807) then (some (⟨#[45, 57, 50, 50, 51, 51, 55, 50, 48, 51, 54, 56, 53, 52, 55, 55, 53, 56, 48, 56]⟩ : ByteArray)) else (if a0 < 0 then ((spec_l1Dec.f k (wrap64 (-a0))).bind fun t118 => (if 1 + t118.size ≤ 9223372036854775807 then (some ((⟨#[45]⟩ : ByteArray) ++ t118)) else (none))) else (if a0 < 10 then (some (strOfNums (([(wrap64 (48 + a0)) % 256] : List Int)))) else ((spec_l1Dec.f k (wrap64 (Int.tdiv a0 10))).bind fun t122 => ((some (([(wrap64 (48 + (Int.tmod a0 10))) % 256] : List Int) : List Int)).bind fun y123 => (if t122.size + (strOfNums y123).size ≤ 9223372036854775807 then (some (t122 ++ (strOfNums y123))) else (none))))))) = some r := h
 clear h
 by_cases c2 : a0 < (-9223372036854775807)
 ·rw [if_pos c2] at H
  have c2b0 := decide_eq_true c2
  clear c2
  obtain rfl := Option.some.inj H
  go_enter Tryd.func62, Tryd.ntmps62
  go_wp2
  go_ret
  exact ⟨xE, bl HB⟩
 rw [if_neg c2] at H
 have c2b0 := decide_eq_false c2
 clear c2
 by_cases c3 : a0 < 0
 ·rw [if_pos c3] at H
  have c3b0 := decide_eq_true c3
  clear c3
  replace H := oa H
  obtain ⟨t118, A4, H⟩ := H
  replace H := ip H
  obtain ⟨c5, H⟩ := H
  have c5b0 := eq_true c5
  have c5b1 := decide_eq_true c5
  have c5b2 := nf c5
  obtain rfl := Option.some.inj H
  go_enter Tryd.func62, Tryd.ntmps62
  go_wp2_with ((with_reducible refine gg ?_); refine gL 9 Tryd.func62 #[.int .i64 (wrap64 (-a0))] ?_; (with_reducible refine (ih k (by omega) (wrap64 (-a0)) t118 _ A4.out).mono ?_); rintro e w6 ⟨rfl, hb⟩; refine ⟨_, rfl, ?_⟩; replace HB := kH HB hb; (try clear hb))
  go_ret
  exact ⟨xE, bl HB⟩
 rw [if_neg c3] at H
 have c3b0 := decide_eq_false c3
 clear c3
 by_cases c7 : a0 < 10
 ·rw [if_pos c7] at H
  have c7b0 := decide_eq_true c7
  clear c7
  obtain ⟨y119, Ny119⟩ := yA (([(wrap64 (48 + a0)) % 256] : List Int) : List Int)
  rw [← Ny119.out] at H
  obtain rfl := Option.some.inj H
  go_enter Tryd.func62, Tryd.ntmps62
  go_wp2_with ((with_reducible refine gate_dst (N := 16) rfl ?_); refine Kd.R_lit (Kd.int .u8) _ 5 ?hg (N := 16) ?hd (xs := ([(wrap64 (48 + a0)) % 256] : List Int)) (inner := [.int .u8 ((wrap64 (48 + a0)) % 256)]) (ok := fun _ => True) (okp := fun _ => True) ?hr ?hp (fun _ hk => hk) trivial (Below.refl _ _) (Nat.le_refl _) (by simp) ?_; (case hd => rfl); (case hg => rfl); (case hr => first | (go_simp; done) | (go_simp; rfl)); (case hp => exact xP); intro v120 w8 ho9 hb hg_ hnew_; clear hg_ hnew_; (first | rw [← Ny119.out] at ho9 | (simp only [Int.reduceToNat] at ho9; rw [← Ny119.out] at ho9)); have HO121 := am (Kd.R_lower ho9 (below_size (bl HB))); replace HB := kH HB hb; clear hb ho9; have hcv10 := own_string (P := Tryd.prog) Tryd.underlying53 Tryd.underlying5 Tryd.underlying9 (Kd.own_of_R HO121.out))
  go_ret
  exact ⟨xE, bl HB⟩
 rw [if_neg c7] at H
 have c7b0 := decide_eq_false c7
 clear c7
 replace H := oa H
 obtain ⟨t122, A11, H⟩ := H
 obtain ⟨y123, Ny123⟩ := yA (([(wrap64 (48 + (Int.tmod a0 10))) % 256] : List Int) : List Int)
 rw [← Ny123.out] at H
 replace H := ip H
 obtain ⟨c12, H⟩ := H
 have c12b0 := eq_true c12
 have c12b1 := decide_eq_true c12
 have c12b2 := nf c12
 obtain rfl := Option.some.inj H
 go_enter Tryd.func62, Tryd.ntmps62
 try go_wp2
 replace HB := am (below_drew1 HB.out)
 refine start_ (n := 11) (S := fun w' => True) (ds := []) (bm 11 0) (by kernel_rfl) rfl rfl trivial (fun hHeld => ?_); refine with_tabW spec_l1Dec.tab7 spec_l1Dec.bits7 (fun HT_ HW_ => ?_)
 generalize w.drew = w13 at HB hHeld ⊢
 refine pA 0 18 (bm 11 1) HT_ ?_
 refine pA 1 19 (bm 11 3) HT_ ?_
 refine pA 3 21 (bm 11 11) HT_ ?_
 refine pA 4 22 (bm 11 27) HT_ ?_
 refine pA 5 23 (bm 11 59) HT_ ?_
 refine pA 6 24 (bm 11 123) HT_ ?_
 refine join_ (σ := Value) 2 (bm 11 511) (fun s_ => [(20, .string t122), (25, s_), (26, .string (strOfNums y123))]) (fun s_ w' => (Kd.R (Kd.int .u8) 5 w' w.heap.size (fun _ => True) s_ y123) ∧ (Below w.heap.size w w')) ?_ ?_
 rotate_left
 ·intro hCont
  refine two_ (i := 2) (j := 7) (Ni := some 20) (Nj := some 25) (bm 11 127) (bm 11 251) rfl rfl rfl rfl (two_of HT_.out (by kernel_rfl)) (by decide) (by decide) (fun K hK => ?_) (fun K hK => ?_)
  ·skip
   refine gA Tryd.func62 #[.int .i64 (wrap64 (Int.tdiv a0 10))] ?_
   with_reducible refine (ih k (by omega) (wrap64 (Int.tdiv a0 10)) t122 _ A11.out).mono ?_
   rintro e w14 ⟨rfl, hb⟩
   refine ⟨_, rfl, ?_⟩
   replace HB := kH HB hb
   (try clear hb)
   (try clear hb2)
   (try clear hk)
   (try clear hi)
   refine hK.out _ _ trivial (fun hHeld => ?_)
   clear hK K
   refine nA (some 20) ?_
   refine oA 7 (some 25) (bm 11 255) HT_ fun K hK => ?_
   refine Kd.R_lit_step (Kd.int .u8) _ 5 ?hg (N := 25) ?hd (xs := ([(wrap64 (48 + (Int.tmod a0 10))) % 256] : List Int)) (inner := [.int .u8 ((wrap64 (48 + (Int.tmod a0 10))) % 256)]) (ok := fun _ => True) (okp := fun _ => True) ?hr ?hp (fun _ hk => hk) trivial (Below.refl _ _) (Nat.le_refl _) (by simp) ?_; (case hd => rfl); (case hg => rfl); (case hr => first | (go_simp; done) | (go_simp; rfl)); (case hp => exact (Reps.one (show Kd.M (Kd.int .u8) _ _ _ ((wrap64 (48 + (Int.tmod a0 10))) % 256) [.int .u8 ((wrap64 (48 + (Int.tmod a0 10))) % 256)] from rfl) (Reps.none _ _)))
   intro v124 w15 ho16 hb hg_ hnew_
   clear hg_ hnew_
   (first | rw [← Ny123.out] at ho16 | (simp only [Int.reduceToNat] at ho16; rw [← Ny123.out] at ho16))
   have HO125 := am (Kd.R_lower ho16 (below_size (bl HB)))
   replace HB := kH HB hb
   clear hb ho16
   refine hK.out _ _ trivial (fun hHeld => ?_)
   clear hK K
   refine nA (some 25) ?_
   refine oA 8 (some 26) (bm 11 511) HT_ fun K hK => ?_
   have hcv17 := own_string (P := Tryd.prog) Tryd.underlying53 Tryd.underlying5 Tryd.underlying9 (Kd.own_of_R HO125.out)
   refine value_ (w1 := ?_) (v := ?_) (by rfl) rfl ?_ ?_
   rotate_left 2
   ·go_simp
    constructor
    ·rfl
    ·rfl
   clear hcv17
   refine hK.out _ _ trivial (fun hHeld => ?_)
   clear hK K
   refine nA (some 26) ?_
   exact norm_ (by simp only [putAll, Act.put, sa, s0, s1]) (hCont (v124) _ ⟨(ra HO125), (bl HB)⟩)
  ·skip
   refine Kd.R_lit_step (Kd.int .u8) _ 5 ?hg (N := 25) ?hd (xs := ([(wrap64 (48 + (Int.tmod a0 10))) % 256] : List Int)) (inner := [.int .u8 ((wrap64 (48 + (Int.tmod a0 10))) % 256)]) (ok := fun _ => True) (okp := fun _ => True) ?hr ?hp (fun _ hk => hk) trivial (Below.refl _ _) (Nat.le_refl _) (by simp) ?_; (case hd => rfl); (case hg => rfl); (case hr => first | (go_simp; done) | (go_simp; rfl)); (case hp => exact (Reps.one (show Kd.M (Kd.int .u8) _ _ _ ((wrap64 (48 + (Int.tmod a0 10))) % 256) [.int .u8 ((wrap64 (48 + (Int.tmod a0 10))) % 256)] from rfl) (Reps.none _ _)))
   intro v124 w14 ho15 hb hg_ hnew_
   clear hg_ hnew_
   (first | rw [← Ny123.out] at ho15 | (simp only [Int.reduceToNat] at ho15; rw [← Ny123.out] at ho15))
   have HO125 := am (Kd.R_lower ho15 (below_size (bl HB)))
   replace HB := kH HB hb
   clear hb ho15
   refine hK.out _ _ trivial (fun hHeld => ?_)
   clear hK K
   refine nA (some 25) ?_
   refine two_ (i := 2) (j := 8) (Ni := some 20) (Nj := some 26) (bm 11 255) (bm 11 507) rfl rfl rfl rfl (two_of HT_.out (by kernel_rfl)) (by decide) (by decide) (fun K hK => ?_) (fun K hK => ?_)
   ·skip
    refine gA Tryd.func62 #[.int .i64 (wrap64 (Int.tdiv a0 10))] ?_
    with_reducible refine (ih k (by omega) (wrap64 (Int.tdiv a0 10)) t122 _ A11.out).mono ?_
    rintro e w16 ⟨rfl, hb⟩
    refine ⟨_, rfl, ?_⟩
    replace HO125 := rk HO125 hb
    replace HB := kH HB hb
    (try clear hb)
    (try clear hb2)
    (try clear hk)
    (try clear hi)
    refine hK.out _ _ trivial (fun hHeld => ?_)
    clear hK K
    refine nA (some 20) ?_
    refine oA 8 (some 26) (bm 11 511) HT_ fun K hK => ?_
    have hcv17 := own_string (P := Tryd.prog) Tryd.underlying53 Tryd.underlying5 Tryd.underlying9 (Kd.own_of_R HO125.out)
    refine value_ (w1 := ?_) (v := ?_) (by rfl) rfl ?_ ?_
    rotate_left 2
    ·go_simp
     constructor
     ·rfl
     ·rfl
    clear hcv17
    refine hK.out _ _ trivial (fun hHeld => ?_)
    clear hK K
    refine nA (some 26) ?_
    exact norm_ (by simp only [putAll, Act.put, sa, s0, s1]) (hCont (v124) _ ⟨(ra HO125), (bl HB)⟩)
   ·skip
    have hcv16 := own_string (P := Tryd.prog) Tryd.underlying53 Tryd.underlying5 Tryd.underlying9 (Kd.own_of_R HO125.out)
    refine value_ (w1 := ?_) (v := ?_) (by rfl) rfl ?_ ?_
    rotate_left 2
    ·go_simp
     constructor
     ·rfl
     ·rfl
    clear hcv16
    refine hK.out _ _ trivial (fun hHeld => ?_)
    clear hK K
    refine nA (some 26) ?_
    refine oA 2 (some 20) (bm 11 511) HT_ fun K hK => ?_
    refine gA Tryd.func62 #[.int .i64 (wrap64 (Int.tdiv a0 10))] ?_
    with_reducible refine (ih k (by omega) (wrap64 (Int.tdiv a0 10)) t122 _ A11.out).mono ?_
    rintro e w17 ⟨rfl, hb⟩
    refine ⟨_, rfl, ?_⟩
    replace HO125 := rk HO125 hb
    replace HB := kH HB hb
    (try clear hb)
    (try clear hb2)
    (try clear hk)
    (try clear hi)
    refine hK.out _ _ trivial (fun hHeld => ?_)
    clear hK K
    refine nA (some 20) ?_
    exact norm_ (by simp only [putAll, Act.put, sa, s0, s1]) (hCont (v124) _ ⟨(ra HO125), (bl HB)⟩)
 rintro v124 w18 ⟨h0_, h1_⟩
 have n0_ : Aside0 (Kd.R (Kd.int .u8) 5 w18 w.heap.size (fun _ => True) v124 y123) := ⟨h0_⟩
 have n1_ : Aside0 (Below w.heap.size w w18) := ⟨h1_⟩
 clear HB
 clear h0_ h1_
 have HO125 := n0_
 have HB := n1_
 clear n0_ n1_
 have hHeld := trivial
 refine norm_ (a' := ?_) ?_ ?_
 rotate_left
 ·simp only [putAll, Act.put, sa, s0, s1]
  rfl
 refine pA 9 27 (bm 11 1023) HT_ ?_
 refine pA 10 2 (bm 11 2047) HT_ ?_
 refine done_ (done_of HT_.out (by kernel_rfl)) ?_
 try go_wp2
 go_ret
 exact ⟨xE, bl HB⟩

/-! ### spec_l3Put: function 44 -/
def spec_l3Put.f (k : Nat) (a0_0 : ByteArray) (a0_1 : ByteArray) (a0_2 : Int) (a0_3 : Int) (a0_4 : Int) : Option (ByteArray) := if a0_0.size + 1 ≤ 9223372036854775807 then (if (a0_0 ++ (⟨#[32]⟩ : ByteArray)).size + a0_1.size ≤ 9223372036854775807 then (if ((a0_0 ++ (⟨#[32]⟩ : ByteArray)) ++ a0_1).size + 1 ≤ 9223372036854775807 then ((spec_l1Dec.f k a0_2).bind fun t127 => (if (((a0_0 ++ (⟨#[32]⟩ : ByteArray)) ++ a0_1) ++ (⟨#[32]⟩ : ByteArray)).size + t127.size ≤ 9223372036854775807 then (if ((((a0_0 ++ (⟨#[32]⟩ : ByteArray)) ++ a0_1) ++ (⟨#[32]⟩ : ByteArray)) ++ t127).size + 1 ≤ 9223372036854775807 then ((spec_l1Dec.f k a0_3).bind fun t128 => (if (((((a0_0 ++ (⟨#[32]⟩ : ByteArray)) ++ a0_1) ++ (⟨#[32]⟩ : ByteArray)) ++ t127) ++ (⟨#[32]⟩ : ByteArray)).size + t128.size ≤ 9223372036854775807 then (if ((((((a0_0 ++ (⟨#[32]⟩ : ByteArray)) ++ a0_1) ++ (⟨#[32]⟩ : ByteArray)) ++ t127) ++ (⟨#[32]⟩ : ByteArray)) ++ t128).size + 1 ≤ 9223372036854775807 then ((spec_l1Dec.f k a0_4).bind fun t129 => (if (((((((a0_0 ++ (⟨#[32]⟩ : ByteArray)) ++ a0_1) ++ (⟨#[32]⟩ : ByteArray)) ++ t127) ++ (⟨#[32]⟩ : ByteArray)) ++ t128) ++ (⟨#[32]⟩ : ByteArray)).size + t129.size ≤ 9223372036854775807 then (some ((((((((a0_0 ++ (⟨#[32]⟩ : ByteArray)) ++ a0_1) ++ (⟨#[32]⟩ : ByteArray)) ++ t127) ++ (⟨#[32]⟩ : ByteArray)) ++ t128) ++ (⟨#[32]⟩ : ByteArray)) ++ t129)) else (none))) else (none)) else (none))) else (none)) else (none))) else (none)) else (none)) else (none)
theorem spec_l3Put.mono : ∀ a0 a1 a2 a3 a4 k, LeO (spec_l3Put.f k a0 a1 a2 a3 a4) (spec_l3Put.f (k + 1) a0 a1 a2 a3 a4) := by
 intro a0 a1 a2 a3 a4 k
 unfold spec_l3Put.f
 exact mo1 spec_l1Dec.mono
def spec_l3Put.T1 : Bool × List (List Nat × List Nat) := (true, [([], []), ([0], [0]), ([1], [1]), ([], []), ([3], [3]), ([2, 4], [2, 4]), ([5], [5]), ([], []), ([7], [7]), ([8], [8]), ([6, 9], [6, 9]), ([10], [10]), ([], []), ([12], [12]), ([13, 9], [13]), ([11, 14], [11, 14]), ([15], [15]), ([], []), ([17], [17]), ([18, 14], [18]), ([16, 19], [16, 19]), ([20, 19, 0, 1, 2, 3, 4, 5, 6, 7, 8, 9, 10, 11, 12, 13, 14, 15, 16, 17, 18, 19, 20], [20])])
def spec_l3Put.B1 : List Nat := [0, 1, 3, 0, 8, 31, 63, 0, 128, 384, 1023, 2047, 0, 4096, 13184, 32767, 65535, 0, 131072, 422784, 1048575, 2097151]
theorem spec_l3Put.tab1 : rtab .any (opsOf Tryd.f44 1) = spec_l3Put.T1 := by kernel_rfl
theorem spec_l3Put.bits1 : waitsOk spec_l3Put.T1.2 spec_l3Put.B1 = true := by kernel_rfl
set_option maxHeartbeats 64000000 in
set_option maxRecDepth 100000 in
theorem spec_l3Put.calls (k : Nat) (a0_0 : ByteArray) (a0_1 : ByteArray) (a0_2 : Int) (a0_3 : Int) (a0_4 : Int) (r : ByteArray) (w : World) (h : spec_l3Put.f k a0_0 a0_1 a0_2 a0_3 a0_4 = some r) :
  Calls Tryd.prog 44 #[.agg #[.string a0_0, .string a0_1, .int .i64 a0_2, .int .i64 a0_3, .int .i64 a0_4]] w fun e w' => e = .returned (.string r) ∧ Below w.heap.size w w' := by
 have hu23 := Tryd.underlying23
 have HB := Aside0.mk (Below.refl w.heap.size w)
 have H : (if a0_0.size + 1 ≤ 9223372036854775807 then (if (a0_0 ++ (⟨#[32]⟩ : ByteArray)).size + a0_1.size ≤ 9223372036854775807 then (if ((a0_0 ++ (⟨#[32]⟩ : ByteArray)) ++ a0_1).size + 1 ≤ 9223372036854775807 then ((spec_l1Dec.f k a0_2).bind fun t127 => (if (((a0_0 ++ (⟨#[32]⟩ : ByteArray)) ++ a0_1) ++ (⟨#[32]⟩ : ByteArray)).size + t127.size ≤ 9223372036854775807 then (if ((((a0_0 ++ (⟨#[32]⟩ : ByteArray)) ++ a0_1) ++ (⟨#[32]⟩ : ByteArray)) ++ t127).size + 1 ≤ 9223372036854775807 then ((spec_l1Dec.f k a0_3).bind fun t128 => (if (((((a0_0 ++ (⟨#[32]⟩ : ByteArray)) ++ a0_1) ++ (⟨#[32]⟩ : ByteArray)) ++ t127) ++ (⟨#[32]⟩ : ByteArray)).size + t128.size ≤ 9223372036854775807 then (if ((((((a0_0 ++ (⟨#[32]⟩ : ByteArray)) ++ a0_1) ++ (⟨#[32]⟩ : ByteArray)) ++ t127) ++ (⟨#[32]⟩ : ByteArray)) ++ t128).size + 1 ≤ 9223372036854775807 then ((spec_l1Dec.f k a0_4).bind fun t129 => (if (((((((a0_0 ++ (⟨#[32]⟩ : ByteArray)) ++ a0_1) ++ (⟨#[32]⟩ : ByteArray)) ++ t127) ++ (⟨#[32]⟩ : ByteArray)) ++ t128) ++ (⟨#[32]⟩ : ByteArray)).size + t129.size ≤ 9223372036854775807 then (some ((((((((a0_0 ++ (⟨#[32]⟩ : ByteArray)) ++ a0_1) ++ (⟨#[32]⟩ : ByteArray)) ++ t127) ++ (⟨#[32]⟩ : ByteArray)) ++ t128) ++ (⟨#[32]⟩ : ByteArray)) ++ t129)) else (none))) else (none)) else (none))) else (none)) else (none))) else (none)) else (none)) else (none)) = some r := h
 clear h
 replace H := ip H
 obtain ⟨c2, H⟩ := H
 have c2b0 := eq_true c2
 have c2b1 := decide_eq_true c2
 have c2b2 := nf c2
 replace H := ip H
 obtain ⟨c3, H⟩ := H
 have c3b0 := eq_true c3
 have c3b1 := decide_eq_true c3
 have c3b2 := nf c3
 try (have c3b3 := c3b2; simp only [ByteArray.size_append, show (⟨#[32]⟩ : ByteArray).size = 1 from rfl] at c3b3)
 replace H := ip H
 obtain ⟨c4, H⟩ := H
 have c4b0 := eq_true c4
 have c4b1 := decide_eq_true c4
 have c4b2 := nf c4
 try (have c4b3 := c4b2; simp only [ByteArray.size_append, show (⟨#[32]⟩ : ByteArray).size = 1 from rfl] at c4b3)
 replace H := oa H
 obtain ⟨t127, A5, H⟩ := H
 replace H := ip H
 obtain ⟨c6, H⟩ := H
 have c6b0 := eq_true c6
 have c6b1 := decide_eq_true c6
 have c6b2 := nf c6
 try (have c6b3 := c6b2; simp only [ByteArray.size_append, show (⟨#[32]⟩ : ByteArray).size = 1 from rfl] at c6b3)
 replace H := ip H
 obtain ⟨c7, H⟩ := H
 have c7b0 := eq_true c7
 have c7b1 := decide_eq_true c7
 have c7b2 := nf c7
 try (have c7b3 := c7b2; simp only [ByteArray.size_append, show (⟨#[32]⟩ : ByteArray).size = 1 from rfl] at c7b3)
 replace H := oa H
 obtain ⟨t128, A8, H⟩ := H
 replace H := ip H
 obtain ⟨c9, H⟩ := H
 have c9b0 := eq_true c9
 have c9b1 := decide_eq_true c9
 have c9b2 := nf c9
 try (have c9b3 := c9b2; simp only [ByteArray.size_append, show (⟨#[32]⟩ : ByteArray).size = 1 from rfl] at c9b3)
 replace H := ip H
 obtain ⟨c10, H⟩ := H
 have c10b0 := eq_true c10
 have c10b1 := decide_eq_true c10
 have c10b2 := nf c10
 try (have c10b3 := c10b2; simp only [ByteArray.size_append, show (⟨#[32]⟩ : ByteArray).size = 1 from rfl] at c10b3)
 replace H := oa H
 obtain ⟨t129, A11, H⟩ := H
 replace H := ip H
 obtain ⟨c12, H⟩ := H
 have c12b0 := eq_true c12
 have c12b1 := decide_eq_true c12
 have c12b2 := nf c12
 try (have c12b3 := c12b2; simp only [ByteArray.size_append, show (⟨#[32]⟩ : ByteArray).size = 1 from rfl] at c12b3)
 obtain rfl := Option.some.inj H
 go_enter Tryd.func44, Tryd.ntmps44
 try go_wp2_with ((with_reducible refine gg ?_); first | (refine bE 1 #[.string a0_0, .string a0_1, .int .i64 a0_2, .int .i64 a0_3, .int .i64 a0_4] 23 ?_; intro gb126 hg w13 hbox hb; have BK126 := am (hbox); have GW126 := zB hg HB; have GE126 := zB hg HB; replace HB := kH HB hb; clear hb hbox hg) | (refine store_event (t := 23) (p := 1) (v := ?vo_) (w1 := ?wo_) ?hg ?ho ?hn ?hr ?_; (case ho => rfl); (case hg => rfl); (case hn => rfl); (case hr => go_simp; rfl); intro wq_ hW_; have BQ_ := am hW_; have hzq_ := am hW_; replace hW_ := am hW_))
 replace BK126 := am (blk_drew BK126.out)
 replace HB := am (below_drew1 HB.out)
 (try (clear hzq_ BQ_; obtain ⟨hW_⟩ := hW_; subst hW_))
 refine start_ (n := 22) (S := cs5 gb126 (.string a0_0) (.string a0_1) (.int .i64 a0_2) (.int .i64 a0_3) (.int .i64 a0_4)) (ds := []) (bm 22 0) (by kernel_rfl) rfl rfl (bz5 BK126) (fun hHeld => ?_); refine with_tabW spec_l3Put.tab1 spec_l3Put.bits1 (fun HT_ HW_ => ?_)
 generalize w13.drew = w14 at BK126 HB hHeld ⊢
 refine pA 0 3 (bm 22 1) HT_ ?_
 refine pA 3 6 (bm 22 9) HT_ ?_
 refine pA 7 10 (bm 22 137) HT_ ?_
 refine pA 12 15 (bm 22 4233) HT_ ?_
 refine pA 17 20 (bm 22 135305) HT_ ?_
 refine tA 1 4 (bm 22 135307) HT_ HW_ hHeld ?_
 refine pA 2 5 (bm 22 135311) HT_ ?_
 refine tA 4 7 (bm 22 135327) HT_ HW_ hHeld ?_
 refine pA 5 8 (bm 22 135359) HT_ ?_
 refine pA 6 9 (bm 22 135423) HT_ ?_
 refine tA 8 11 (bm 22 135679) HT_ HW_ hHeld ?_
 refine tA 13 16 (bm 22 143871) HT_ HW_ hHeld ?_
 refine tA 18 21 (bm 22 406015) HT_ HW_ hHeld ?_
 refine oA 9 (some 12) (bm 22 406527) HT_ fun K hK => ?_
 refine gA Tryd.func62 #[.int .i64 a0_2] ?_
 with_reducible refine (spec_l1Dec.calls k a0_2 t127 _ A5.out).mono ?_
 rintro e w15 ⟨rfl, hb⟩
 refine ⟨_, rfl, ?_⟩
 replace BK126 := kP _ BK126 hb
 replace HB := kH HB hb
 (try clear hb)
 (try clear hb2)
 (try clear hk)
 (try clear hi)
 refine hK.out _ _ (bz5 BK126) (fun hHeld => ?_)
 clear hK K
 refine nA (some 12) ?_
 refine pA 10 13 (bm 22 407551) HT_ ?_
 refine pA 11 14 (bm 22 409599) HT_ ?_
 refine oA 14 (some 17) (bm 22 425983) HT_ fun K hK => ?_
 refine gA Tryd.func62 #[.int .i64 a0_3] ?_
 with_reducible refine (spec_l1Dec.calls k a0_3 t128 _ A8.out).mono ?_
 rintro e w16 ⟨rfl, hb⟩
 refine ⟨_, rfl, ?_⟩
 replace BK126 := kP _ BK126 hb
 replace HB := kH HB hb
 (try clear hb)
 (try clear hb2)
 (try clear hk)
 (try clear hi)
 refine hK.out _ _ (bz5 BK126) (fun hHeld => ?_)
 clear hK K
 refine nA (some 17) ?_
 refine pA 15 18 (bm 22 458751) HT_ ?_
 refine pA 16 19 (bm 22 524287) HT_ ?_
 refine oA 19 (some 22) (bm 22 1048575) HT_ fun K hK => ?_
 refine gA Tryd.func62 #[.int .i64 a0_4] ?_
 with_reducible refine (spec_l1Dec.calls k a0_4 t129 _ A11.out).mono ?_
 rintro e w17 ⟨rfl, hb⟩
 refine ⟨_, rfl, ?_⟩
 replace BK126 := kP _ BK126 hb
 replace HB := kH HB hb
 (try clear hb)
 (try clear hb2)
 (try clear hk)
 (try clear hi)
 refine hK.out _ _ (bz5 BK126) (fun hHeld => ?_)
 clear hK K
 refine nA (some 22) ?_
 refine pA 20 23 (bm 22 2097151) HT_ ?_
 refine pA 21 2 (bm 22 4194303) HT_ ?_
 refine done_ (done_of HT_.out (by kernel_rfl)) ?_
 try go_wp2
 (try (clear hzq_ BQ_; obtain ⟨hW_⟩ := hW_; subst hW_))
 go_ret
 exact ⟨xE, xB HB⟩


/-! ### spec_HeadGet: function 17 -/
def spec_HeadGet.f (k : Nat) (a0 : ByteArray) : Option (ByteArray × ByteArray × Int × Int × Int × Bool) := (spec_l1Cut.f k a0 32 5).bind fun t131 => (if (t131.length : Int) = 5 then (if 0 < (t131.length : Int) then (if 1 < (t131.length : Int) then (if 2 < (t131.length : Int) then ((spec_l1Num.f k (rdOf ByteArray.empty t131 2)).bind fun t137 => (if 3 < (t131.length : Int) then ((spec_l1Num.f k (rdOf ByteArray.empty t131 3)).bind fun t139 => (if 4 < (t131.length : Int) then ((spec_l1Num.f k (rdOf ByteArray.empty t131 4)).bind fun t141 => ((spec_l3Ok.f k (rdOf ByteArray.empty t131 0) (rdOf ByteArray.empty t131 1) t137 t139 t141).bind fun t143 => (if t143 = true then ((spec_l3Put.f k (rdOf ByteArray.empty t131 0) (rdOf ByteArray.empty t131 1) t137 t139 t141).bind fun t144 => (if t144.toList = a0.toList then (some (rdOf ByteArray.empty t131 0, rdOf ByteArray.empty t131 1, t137, t139, t141, true)) else (some ((⟨#[]⟩ : ByteArray), (⟨#[]⟩ : ByteArray), 0, 0, 0, false)))) else (some ((⟨#[]⟩ : ByteArray), (⟨#[]⟩ : ByteArray), 0, 0, 0, false))))) else (none))) else (none))) else (none)) else (none)) else (none)) else (some ((⟨#[]⟩ : ByteArray), (⟨#[]⟩ : ByteArray), 0, 0, 0, false)))
theorem spec_HeadGet.mono : ∀ a0 k, LeO (spec_HeadGet.f k a0) (spec_HeadGet.f (k + 1) a0) := by
 intro a0 k
 unfold spec_HeadGet.f
 exact mo4 spec_l1Cut.mono spec_l1Num.mono spec_l3Ok.mono spec_l3Put.mono
def spec_HeadGet.T4 : Bool × List (List Nat × List Nat) := (true, [([], []), ([0], [0]), ([1], [1]), ([], []), ([3], [3]), ([4], [4]), ([], []), ([6], [6]), ([7], [7]), ([8], [8]), ([], []), ([10], [10]), ([11], [11]), ([12, 9], [12]), ([], []), ([14], [14]), ([15], [15]), ([16, 13], [16]), ([2, 5, 9, 13, 17], [2, 5, 9, 13, 17]), ([], []), ([19, 18, 17, 0, 1, 2, 3, 4, 5, 6, 7, 8, 9, 10, 11, 12, 13, 14, 15, 16, 17, 18, 19], [18, 19])])
def spec_HeadGet.B4 : List Nat := [0, 1, 3, 0, 8, 24, 0, 64, 192, 448, 0, 1024, 3072, 8128, 0, 16384, 49152, 131008, 262143, 0, 1048575]
theorem spec_HeadGet.tab4 : rtab .any (opsOf Tryd.f17 4) = spec_HeadGet.T4 := by kernel_rfl
theorem spec_HeadGet.bits4 : waitsOk spec_HeadGet.T4.2 spec_HeadGet.B4 = true := by kernel_rfl
set_option maxHeartbeats 64000000 in
set_option maxRecDepth 100000 in
theorem spec_HeadGet.calls (k : Nat) (a0 : ByteArray) (r1 : ByteArray) (r2 : ByteArray) (r3 : Int) (r4 : Int) (r5 : Int) (r6 : Bool) (w : World) (h : spec_HeadGet.f k a0 = some (r1, r2, r3, r4, r5, r6)) :
  Calls Tryd.prog 17 #[.string a0] w fun e w' => e = .returned (.tuple #[.agg #[.string r1, .string r2, .int .i64 r3, .int .i64 r4, .int .i64 r5], .bool r6]) ∧ Below w.heap.size w w' := by
 have hu23 := Tryd.underlying23
 have HB := Aside0.mk (Below.refl w.heap.size w)
 have H : ((spec_l1Cut.f k a0 32 5).bind fun t131 => (if (t131.length : Int) = 5 then (if 0 < (t131.length : Int) then (if 1 < (t131.length : Int) then (if 2 < (t131.length : Int) then ((spec_l1Num.f k (rdOf ByteArray.empty t131 2)).bind fun t137 => (if 3 < (t131.length : Int) then ((spec_l1Num.f k (rdOf ByteArray.empty t131 3)).bind fun t139 => (if 4 < (t131.length : Int) then ((spec_l1Num.f k (rdOf ByteArray.empty t131 4)).bind fun t141 => ((spec_l3Ok.f k (rdOf ByteArray.empty t131 0) (rdOf ByteArray.empty t131 1) t137 t139 t141).bind fun t143 => (if t143 = true then ((spec_l3Put.f k (rdOf ByteArray.empty t131 0) (rdOf ByteArray.empty t131 1) t137 t139 t141).bind fun t144 => (if t144.toList = a0.toList then (some (rdOf ByteArray.empty t131 0, rdOf ByteArray.empty t131 1, t137, t139, t141, true)) else (some ((⟨#[]⟩ : ByteArray), (⟨#[]⟩ : ByteArray), 0, 0, 0, false)))) else (some ((⟨#[]⟩ : ByteArray), (⟨#[]⟩ : ByteArray), 0, 0, 0, false))))) else (none))) else (none))) else (none)) else (none)) else (none)) else (some ((⟨#[]⟩ : ByteArray), (⟨#[]⟩ : ByteArray), 0, 0, 0, false)))) = some (r1, r2, r3, r4, r5, r6) := h
 clear h
 replace H := oa H
 obtain ⟨t131, A2, H⟩ := H
 go_enter Tryd.func17, Tryd.ntmps17
 go_upto_if 10 with ((with_reducible refine gg ?_); first | (refine bE 2 #[.string (⟨#[]⟩ : ByteArray), .string (⟨#[]⟩ : ByteArray), .int .i64 0, .int .i64 0, .int .i64 0] 23 ?_; intro gb130 hg w16 hbox hb; have BK130 := am (hbox); have GW130 := zB hg HB; have GE130 := zB hg HB; replace HB := kH HB hb; clear hb hbox hg) | (refine gL 7 Tryd.func25 #[.string a0, .int .u8 32, .int .i64 5] ?_; (with_reducible refine (spec_l1Cut.calls k a0 32 5 t131 _ A2.out).mono ?_); rintro e w17 ⟨v132, rfl, ho0, hb⟩; refine ⟨_, rfl, ?_⟩; have HO133 := am (Kd.R_lower ho0 (below_size (xB HB))); replace BK130 := kP _ BK130 hb; replace HB := kH HB hb; (try clear hb); (try clear ho0); obtain ⟨Ao18, co18, eo18⟩ := Kd.R_slice HO133.out; subst eo18))
 by_cases c3 : (t131.length : Int) = 5
 rotate_left
 ·rw [if_neg c3] at H
  have c3b0 := beq_eq_false_iff_ne.mpr c3
  have c3b1 := bne_iff_ne.mpr c3
  try simp only [c3b0, c3b1]
  simp only [Option.some.injEq, Prod.mk.injEq] at H
  obtain ⟨rfl, rfl, rfl, rfl, rfl, rfl⟩ := H
  have hz69 := bc5 BK130
  go_wp2
  refine bodyPost_ret (results_ct rfl _ _ gb130 23 #[.string (⟨#[]⟩ : ByteArray), .string (⟨#[]⟩ : ByteArray), .int .i64 0, .int .i64 0, .int .i64 0] (0, 0) _ rfl (fb BK130) Tryd.underlying23 rfl (by kernel_rfl)) rfl ?_
  exact ⟨xE, xB HB⟩
 rw [if_pos c3] at H
 have c3b0 := beq_iff_eq.mpr c3
 have c3b1 := bne_eq_false_iff_eq.mpr c3
 try simp only [c3b0, c3b1]
 clear c3
 replace H := ip H
 obtain ⟨c4, H⟩ := H
 have c4b0 := decide_eq_true c4
 have c4b1 : decide (0 < t131.length) = true := decide_eq_true (by omega)
 clear c4
 replace H := ip H
 obtain ⟨c5, H⟩ := H
 have c5b0 := decide_eq_true c5
 have c5b1 : decide (1 < t131.length) = true := decide_eq_true (by omega)
 clear c5
 replace H := ip H
 obtain ⟨c6, H⟩ := H
 have c6b0 := decide_eq_true c6
 have c6b1 : decide (2 < t131.length) = true := decide_eq_true (by omega)
 clear c6
 replace H := oa H
 obtain ⟨t137, A7, H⟩ := H
 replace H := ip H
 obtain ⟨c8, H⟩ := H
 have c8b0 := decide_eq_true c8
 have c8b1 : decide (3 < t131.length) = true := decide_eq_true (by omega)
 clear c8
 replace H := oa H
 obtain ⟨t139, A9, H⟩ := H
 replace H := ip H
 obtain ⟨c10, H⟩ := H
 have c10b0 := decide_eq_true c10
 have c10b1 : decide (4 < t131.length) = true := decide_eq_true (by omega)
 clear c10
 replace H := oa H
 obtain ⟨t141, A11, H⟩ := H
 replace H := oa H
 obtain ⟨t143, A12, H⟩ := H
 try go_wp2
 replace HO133 := am (Kd.R_drew HO133.out)
 replace BK130 := am (blk_drew BK130.out)
 replace HB := am (below_drew1 HB.out)
 have p134 : 0 ≤ (0 : Int) := (by omega)
 have q134 : 0 < (t131.length : Int) := of_decide_eq_true xA
 obtain ⟨ad134, e134, hx134_0⟩ := Kd.at_string (Kd.R_reads' HO133.out).2.2 0 p134 q134
 cases e134
 have qi134 : (0 < t131.length) = True := eq_true (by omega)
 (try rw [show ((0 : Int)).toNat = 0 from rfl] at hx134_0)
 (try rw [Addr.add_zero'] at hx134_0)
 replace p134 := eq_true p134
 replace q134 := eq_true q134
 have p135 : 0 ≤ (1 : Int) := (by omega)
 have q135 : 1 < (t131.length : Int) := of_decide_eq_true xA
 obtain ⟨ad135, e135, hx135_0⟩ := Kd.at_string (Kd.R_reads' HO133.out).2.2 1 p135 q135
 obtain rfl : ad134 = ad135 := (by injection e135)
 (try simp only [show (1 : Int).toNat = 1 from rfl, Nat.reduceMul, Nat.reduceEqDiff, Go.Addr.add, ↓reduceIte] at hx135_0)
 have qi135 : (1 < t131.length) = True := eq_true (by omega)
 (try rw [show ((1 : Int)).toNat = 1 from rfl] at hx135_0)
 replace p135 := eq_true p135
 replace q135 := eq_true q135
 have p136 : 0 ≤ (2 : Int) := (by omega)
 have q136 : 2 < (t131.length : Int) := of_decide_eq_true xA
 obtain ⟨ad136, e136, hx136_0⟩ := Kd.at_string (Kd.R_reads' HO133.out).2.2 2 p136 q136
 obtain rfl : ad134 = ad136 := (by injection e136)
 (try simp only [show (2 : Int).toNat = 2 from rfl, Nat.reduceMul, Nat.reduceEqDiff, Go.Addr.add, ↓reduceIte] at hx136_0)
 have qi136 : (2 < t131.length) = True := eq_true (by omega)
 (try rw [show ((2 : Int)).toNat = 2 from rfl] at hx136_0)
 replace p136 := eq_true p136
 replace q136 := eq_true q136
 have p138 : 0 ≤ (3 : Int) := (by omega)
 have q138 : 3 < (t131.length : Int) := of_decide_eq_true xA
 obtain ⟨ad138, e138, hx138_0⟩ := Kd.at_string (Kd.R_reads' HO133.out).2.2 3 p138 q138
 obtain rfl : ad134 = ad138 := (by injection e138)
 (try simp only [show (3 : Int).toNat = 3 from rfl, Nat.reduceMul, Nat.reduceEqDiff, Go.Addr.add, ↓reduceIte] at hx138_0)
 have qi138 : (3 < t131.length) = True := eq_true (by omega)
 (try rw [show ((3 : Int)).toNat = 3 from rfl] at hx138_0)
 replace p138 := eq_true p138
 replace q138 := eq_true q138
 have p140 : 0 ≤ (4 : Int) := (by omega)
 have q140 : 4 < (t131.length : Int) := of_decide_eq_true xA
 obtain ⟨ad140, e140, hx140_0⟩ := Kd.at_string (Kd.R_reads' HO133.out).2.2 4 p140 q140
 obtain rfl : ad134 = ad140 := (by injection e140)
 (try simp only [show (4 : Int).toNat = 4 from rfl, Nat.reduceMul, Nat.reduceEqDiff, Go.Addr.add, ↓reduceIte] at hx140_0)
 have qi140 : (4 < t131.length) = True := eq_true (by omega)
 (try rw [show ((4 : Int)).toNat = 4 from rfl] at hx140_0)
 replace p140 := eq_true p140
 replace q140 := eq_true q140
 refine start_ (n := 21) (S := fun w' => w'.cell? ad134 = some (.string (rdOf ByteArray.empty t131 0)) ∧ w'.cell? ⟨ad134.block, ad134.off + 1, none⟩ = some (.string (rdOf ByteArray.empty t131 1)) ∧ w'.cell? ⟨ad134.block, ad134.off + 2, none⟩ = some (.string (rdOf ByteArray.empty t131 2)) ∧ w'.cell? ⟨ad134.block, ad134.off + 3, none⟩ = some (.string (rdOf ByteArray.empty t131 3)) ∧ w'.cell? ⟨ad134.block, ad134.off + 4, none⟩ = some (.string (rdOf ByteArray.empty t131 4))) (ds := []) (bm 21 0) (by kernel_rfl) rfl rfl ⟨hx134_0, hx135_0, hx136_0, hx138_0, hx140_0⟩ (fun hHeld => ?_); refine with_tabW spec_HeadGet.tab4 spec_HeadGet.bits4 (fun HT_ HW_ => ?_)
 generalize w17.drew = w19 at HO133 BK130 HB hx134_0 hx135_0 hx136_0 hx138_0 hx140_0 hHeld ⊢
 refine pA 0 12 (bm 21 1) HT_ ?_
 refine pA 1 13 (bm 21 3) HT_ ?_
 refine pA 3 15 (bm 21 11) HT_ ?_
 refine pA 4 16 (bm 21 27) HT_ ?_
 refine pA 6 18 (bm 21 91) HT_ ?_
 refine pA 7 19 (bm 21 219) HT_ ?_
 refine pA 10 22 (bm 21 1243) HT_ ?_
 refine pA 11 23 (bm 21 3291) HT_ ?_
 refine pA 14 26 (bm 21 19675) HT_ ?_
 refine pA 15 27 (bm 21 52443) HT_ ?_
 refine tA 2 14 (bm 21 52447) HT_ HW_ hHeld ?_
 refine tA 5 17 (bm 21 52479) HT_ HW_ hHeld ?_
 refine tA 8 20 (bm 21 52735) HT_ HW_ hHeld ?_
 refine tA 12 24 (bm 21 56831) HT_ HW_ hHeld ?_
 refine tA 16 28 (bm 21 122367) HT_ HW_ hHeld ?_
 refine join_ (σ := Nat) 1 (bm 21 1048575) (fun s_ => [(21, .int .i64 t137), (25, .int .i64 t139), (29, .int .i64 t141), (5, .pointer (some ⟨s_, 0, none⟩)), (30, .agg #[.string (rdOf ByteArray.empty t131 0), .string (rdOf ByteArray.empty t131 1), .int .i64 t137, .int .i64 t139, .int .i64 t141])]) (fun s_ w' => (w'.cell? ad134 = some (.string (rdOf ByteArray.empty t131 0)) ∧ w'.cell? ⟨ad134.block, ad134.off + 1, none⟩ = some (.string (rdOf ByteArray.empty t131 1)) ∧ w'.cell? ⟨ad134.block, ad134.off + 2, none⟩ = some (.string (rdOf ByteArray.empty t131 2)) ∧ w'.cell? ⟨ad134.block, ad134.off + 3, none⟩ = some (.string (rdOf ByteArray.empty t131 3)) ∧ w'.cell? ⟨ad134.block, ad134.off + 4, none⟩ = some (.string (rdOf ByteArray.empty t131 4))) ∧ (Kd.R Kd.string 9 w' w.heap.size (fun _ => True) (.slice (some ad134) t131.length co18) t131) ∧ (w'.heap[gb130]? = some (.cells #[.string (⟨#[]⟩ : ByteArray), .string (⟨#[]⟩ : ByteArray), .int .i64 0, .int .i64 0, .int .i64 0] 23 (0, 0))) ∧ (w'.heap[s_]? = some (.cells #[.string (⟨#[]⟩ : ByteArray), .string (⟨#[]⟩ : ByteArray), .int .i64 0, .int .i64 0, .int .i64 0] 23 (0, 0))) ∧ (w.heap.size ≤ s_) ∧ (w.heap.size ≤ s_) ∧ (gb130 ≠ s_) ∧ (s_ ≠ gb130) ∧ (Below w.heap.size w w')) ?_ ?_
 rotate_left
 ·intro hCont
  refine two_ (i := 9) (j := 19) (Ni := some 21) (Nj := some 5) (bm 21 122879) (bm 21 646655) rfl rfl rfl rfl (two_of HT_.out (by kernel_rfl)) (by decide) (by decide) (fun K hK => ?_) (fun K hK => ?_)
  ·skip
   refine gA Tryd.func27 #[.string (rdOf ByteArray.empty t131 2)] ?_
   with_reducible refine (spec_l1Num.calls k (rdOf ByteArray.empty t131 2) t137 _ A7.out).mono ?_
   rintro e w' ⟨rfl, ⟨nd, rfl⟩⟩
   refine ⟨_, rfl, ?_⟩
   refine hK.out _ _ ⟨hHeld.1, hHeld.2.1, hHeld.2.2.1, hHeld.2.2.2.1, hHeld.2.2.2.2⟩ (fun hHeld => ?_)
   clear hK K
   refine nA (some 21) ?_
   refine two_ (i := 13) (j := 19) (Ni := some 25) (Nj := some 5) (bm 21 131071) (bm 21 647167) rfl rfl rfl rfl (two_of HT_.out (by kernel_rfl)) (by decide) (by decide) (fun K hK => ?_) (fun K hK => ?_)
   ·skip
    refine gA Tryd.func27 #[.string (rdOf ByteArray.empty t131 3)] ?_
    with_reducible refine (spec_l1Num.calls k (rdOf ByteArray.empty t131 3) t139 _ A9.out).mono ?_
    rintro e w' ⟨rfl, ⟨nd, rfl⟩⟩
    refine ⟨_, rfl, ?_⟩
    refine hK.out _ _ ⟨hHeld.1, hHeld.2.1, hHeld.2.2.1, hHeld.2.2.2.1, hHeld.2.2.2.2⟩ (fun hHeld => ?_)
    clear hK K
    refine nA (some 25) ?_
    refine two_ (i := 17) (j := 19) (Ni := some 29) (Nj := some 5) (bm 21 262143) (bm 21 655359) rfl rfl rfl rfl (two_of HT_.out (by kernel_rfl)) (by decide) (by decide) (fun K hK => ?_) (fun K hK => ?_)
    ·skip
     refine gA Tryd.func27 #[.string (rdOf ByteArray.empty t131 4)] ?_
     with_reducible refine (spec_l1Num.calls k (rdOf ByteArray.empty t131 4) t141 _ A11.out).mono ?_
     rintro e w' ⟨rfl, ⟨nd, rfl⟩⟩
     refine ⟨_, rfl, ?_⟩
     refine hK.out _ _ ⟨hHeld.1, hHeld.2.1, hHeld.2.2.1, hHeld.2.2.2.1, hHeld.2.2.2.2⟩ (fun hHeld => ?_)
     clear hK K
     refine nA (some 29) ?_
     refine pA 18 30 (bm 21 524287) HT_ ?_
     refine oA 19 (some 5) (bm 21 1048575) HT_ fun K hK => ?_
     refine bS 5 #[.string (⟨#[]⟩ : ByteArray), .string (⟨#[]⟩ : ByteArray), .int .i64 0, .int .i64 0, .int .i64 0] 23 ?_
     intro gb142 hg w20 hbox hb
     have HS0_ := (hb.cell (World.block_lt_of_cell? _ _ (hHeld.1))).trans (hHeld.1)
     have HS1_ := (hb.cell (World.block_lt_of_cell? _ _ (hHeld.2.1))).trans (hHeld.2.1)
     have HS2_ := (hb.cell (World.block_lt_of_cell? _ _ (hHeld.2.2.1))).trans (hHeld.2.2.1)
     have HS3_ := (hb.cell (World.block_lt_of_cell? _ _ (hHeld.2.2.2.1))).trans (hHeld.2.2.2.1)
     have HS4_ := (hb.cell (World.block_lt_of_cell? _ _ (hHeld.2.2.2.2))).trans (hHeld.2.2.2.2)
     replace HO133 := rk HO133 hb
     have BK142 := am (hbox)
     have GW142 := zB hg HB
     have GE142 := zB hg HB
     replace HB := kH HB hb
     have NB130_142 := nl hg (kb BK130)
     have NB142_130 := ng hg (kb BK130)
     replace BK130 := kP _ BK130 hb
     clear hb hbox hg
     refine hK.out _ _ ⟨HS0_, HS1_, HS2_, HS3_, HS4_⟩ (fun hHeld => ?_)
     clear hK K
     refine nA (some 5) ?_
     exact norm_ (by simp only [putAll, Act.put, sa, s0, s1]) (hCont (gb142) _ ⟨hHeld, (ra HO133), (kb BK130), (kb BK142), GW142.out, GE142.out, NB130_142.out, NB142_130.out, (xB HB)⟩)
    ·skip
     refine bS 5 #[.string (⟨#[]⟩ : ByteArray), .string (⟨#[]⟩ : ByteArray), .int .i64 0, .int .i64 0, .int .i64 0] 23 ?_
     intro gb142 hg w20 hbox hb
     have HS0_ := (hb.cell (World.block_lt_of_cell? _ _ (hHeld.1))).trans (hHeld.1)
     have HS1_ := (hb.cell (World.block_lt_of_cell? _ _ (hHeld.2.1))).trans (hHeld.2.1)
     have HS2_ := (hb.cell (World.block_lt_of_cell? _ _ (hHeld.2.2.1))).trans (hHeld.2.2.1)
     have HS3_ := (hb.cell (World.block_lt_of_cell? _ _ (hHeld.2.2.2.1))).trans (hHeld.2.2.2.1)
     have HS4_ := (hb.cell (World.block_lt_of_cell? _ _ (hHeld.2.2.2.2))).trans (hHeld.2.2.2.2)
     replace HO133 := rk HO133 hb
     have BK142 := am (hbox)
     have GW142 := zB hg HB
     have GE142 := zB hg HB
     replace HB := kH HB hb
     have NB130_142 := nl hg (kb BK130)
     have NB142_130 := ng hg (kb BK130)
     replace BK130 := kP _ BK130 hb
     clear hb hbox hg
     refine hK.out _ _ ⟨HS0_, HS1_, HS2_, HS3_, HS4_⟩ (fun hHeld => ?_)
     clear hK K
     refine nA (some 5) ?_
     refine oA 17 (some 29) (bm 21 786431) HT_ fun K hK => ?_
     refine gA Tryd.func27 #[.string (rdOf ByteArray.empty t131 4)] ?_
     with_reducible refine (spec_l1Num.calls k (rdOf ByteArray.empty t131 4) t141 _ A11.out).mono ?_
     rintro e w' ⟨rfl, ⟨nd, rfl⟩⟩
     refine ⟨_, rfl, ?_⟩
     refine hK.out _ _ ⟨hHeld.1, hHeld.2.1, hHeld.2.2.1, hHeld.2.2.2.1, hHeld.2.2.2.2⟩ (fun hHeld => ?_)
     clear hK K
     refine nA (some 29) ?_
     refine pA 18 30 (bm 21 1048575) HT_ ?_
     exact norm_ (by simp only [putAll, Act.put, sa, s0, s1]) (hCont (gb142) _ ⟨hHeld, (ra HO133), (kb BK130), (kb BK142), GW142.out, GE142.out, NB130_142.out, NB142_130.out, (xB HB)⟩)
   ·skip
    refine bS 5 #[.string (⟨#[]⟩ : ByteArray), .string (⟨#[]⟩ : ByteArray), .int .i64 0, .int .i64 0, .int .i64 0] 23 ?_
    intro gb142 hg w20 hbox hb
    have HS0_ := (hb.cell (World.block_lt_of_cell? _ _ (hHeld.1))).trans (hHeld.1)
    have HS1_ := (hb.cell (World.block_lt_of_cell? _ _ (hHeld.2.1))).trans (hHeld.2.1)
    have HS2_ := (hb.cell (World.block_lt_of_cell? _ _ (hHeld.2.2.1))).trans (hHeld.2.2.1)
    have HS3_ := (hb.cell (World.block_lt_of_cell? _ _ (hHeld.2.2.2.1))).trans (hHeld.2.2.2.1)
    have HS4_ := (hb.cell (World.block_lt_of_cell? _ _ (hHeld.2.2.2.2))).trans (hHeld.2.2.2.2)
    replace HO133 := rk HO133 hb
    have BK142 := am (hbox)
    have GW142 := zB hg HB
    have GE142 := zB hg HB
    replace HB := kH HB hb
    have NB130_142 := nl hg (kb BK130)
    have NB142_130 := ng hg (kb BK130)
    replace BK130 := kP _ BK130 hb
    clear hb hbox hg
    refine hK.out _ _ ⟨HS0_, HS1_, HS2_, HS3_, HS4_⟩ (fun hHeld => ?_)
    clear hK K
    refine nA (some 5) ?_
    refine oA 13 (some 25) (bm 21 655359) HT_ fun K hK => ?_
    refine gA Tryd.func27 #[.string (rdOf ByteArray.empty t131 3)] ?_
    with_reducible refine (spec_l1Num.calls k (rdOf ByteArray.empty t131 3) t139 _ A9.out).mono ?_
    rintro e w' ⟨rfl, ⟨nd, rfl⟩⟩
    refine ⟨_, rfl, ?_⟩
    refine hK.out _ _ ⟨hHeld.1, hHeld.2.1, hHeld.2.2.1, hHeld.2.2.2.1, hHeld.2.2.2.2⟩ (fun hHeld => ?_)
    clear hK K
    refine nA (some 25) ?_
    refine oA 17 (some 29) (bm 21 786431) HT_ fun K hK => ?_
    refine gA Tryd.func27 #[.string (rdOf ByteArray.empty t131 4)] ?_
    with_reducible refine (spec_l1Num.calls k (rdOf ByteArray.empty t131 4) t141 _ A11.out).mono ?_
    rintro e w' ⟨rfl, ⟨nd, rfl⟩⟩
    refine ⟨_, rfl, ?_⟩
    refine hK.out _ _ ⟨hHeld.1, hHeld.2.1, hHeld.2.2.1, hHeld.2.2.2.1, hHeld.2.2.2.2⟩ (fun hHeld => ?_)
    clear hK K
    refine nA (some 29) ?_
    refine pA 18 30 (bm 21 1048575) HT_ ?_
    exact norm_ (by simp only [putAll, Act.put, sa, s0, s1]) (hCont (gb142) _ ⟨hHeld, (ra HO133), (kb BK130), (kb BK142), GW142.out, GE142.out, NB130_142.out, NB142_130.out, (xB HB)⟩)
  ·skip
   refine bS 5 #[.string (⟨#[]⟩ : ByteArray), .string (⟨#[]⟩ : ByteArray), .int .i64 0, .int .i64 0, .int .i64 0] 23 ?_
   intro gb142 hg w20 hbox hb
   have HS0_ := (hb.cell (World.block_lt_of_cell? _ _ (hHeld.1))).trans (hHeld.1)
   have HS1_ := (hb.cell (World.block_lt_of_cell? _ _ (hHeld.2.1))).trans (hHeld.2.1)
   have HS2_ := (hb.cell (World.block_lt_of_cell? _ _ (hHeld.2.2.1))).trans (hHeld.2.2.1)
   have HS3_ := (hb.cell (World.block_lt_of_cell? _ _ (hHeld.2.2.2.1))).trans (hHeld.2.2.2.1)
   have HS4_ := (hb.cell (World.block_lt_of_cell? _ _ (hHeld.2.2.2.2))).trans (hHeld.2.2.2.2)
   replace HO133 := rk HO133 hb
   have BK142 := am (hbox)
   have GW142 := zB hg HB
   have GE142 := zB hg HB
   replace HB := kH HB hb
   have NB130_142 := nl hg (kb BK130)
   have NB142_130 := ng hg (kb BK130)
   replace BK130 := kP _ BK130 hb
   clear hb hbox hg
   refine hK.out _ _ ⟨HS0_, HS1_, HS2_, HS3_, HS4_⟩ (fun hHeld => ?_)
   clear hK K
   refine nA (some 5) ?_
   refine oA 9 (some 21) (bm 21 647167) HT_ fun K hK => ?_
   refine gA Tryd.func27 #[.string (rdOf ByteArray.empty t131 2)] ?_
   with_reducible refine (spec_l1Num.calls k (rdOf ByteArray.empty t131 2) t137 _ A7.out).mono ?_
   rintro e w' ⟨rfl, ⟨nd, rfl⟩⟩
   refine ⟨_, rfl, ?_⟩
   refine hK.out _ _ ⟨hHeld.1, hHeld.2.1, hHeld.2.2.1, hHeld.2.2.2.1, hHeld.2.2.2.2⟩ (fun hHeld => ?_)
   clear hK K
   refine nA (some 21) ?_
   refine oA 13 (some 25) (bm 21 655359) HT_ fun K hK => ?_
   refine gA Tryd.func27 #[.string (rdOf ByteArray.empty t131 3)] ?_
   with_reducible refine (spec_l1Num.calls k (rdOf ByteArray.empty t131 3) t139 _ A9.out).mono ?_
   rintro e w' ⟨rfl, ⟨nd, rfl⟩⟩
   refine ⟨_, rfl, ?_⟩
   refine hK.out _ _ ⟨hHeld.1, hHeld.2.1, hHeld.2.2.1, hHeld.2.2.2.1, hHeld.2.2.2.2⟩ (fun hHeld => ?_)
   clear hK K
   refine nA (some 25) ?_
   refine oA 17 (some 29) (bm 21 786431) HT_ fun K hK => ?_
   refine gA Tryd.func27 #[.string (rdOf ByteArray.empty t131 4)] ?_
   with_reducible refine (spec_l1Num.calls k (rdOf ByteArray.empty t131 4) t141 _ A11.out).mono ?_
   rintro e w' ⟨rfl, ⟨nd, rfl⟩⟩
   refine ⟨_, rfl, ?_⟩
   refine hK.out _ _ ⟨hHeld.1, hHeld.2.1, hHeld.2.2.1, hHeld.2.2.2.1, hHeld.2.2.2.2⟩ (fun hHeld => ?_)
   clear hK K
   refine nA (some 29) ?_
   refine pA 18 30 (bm 21 1048575) HT_ ?_
   exact norm_ (by simp only [putAll, Act.put, sa, s0, s1]) (hCont (gb142) _ ⟨hHeld, (ra HO133), (kb BK130), (kb BK142), GW142.out, GE142.out, NB130_142.out, NB142_130.out, (xB HB)⟩)
 rintro gb142 w21 ⟨hS_, h0_, h1_, h2_, h3_, h4_, h5_, h6_, h7_⟩
 have n0_ : Aside0 (Kd.R Kd.string 9 w21 w.heap.size (fun _ => True) (.slice (some ad134) t131.length co18) t131) := ⟨h0_⟩
 have n1_ : Aside0 (w21.heap[gb130]? = some (.cells #[.string (⟨#[]⟩ : ByteArray), .string (⟨#[]⟩ : ByteArray), .int .i64 0, .int .i64 0, .int .i64 0] 23 (0, 0))) := ⟨h1_⟩
 have n2_ : Aside0 (w21.heap[gb142]? = some (.cells #[.string (⟨#[]⟩ : ByteArray), .string (⟨#[]⟩ : ByteArray), .int .i64 0, .int .i64 0, .int .i64 0] 23 (0, 0))) := ⟨h2_⟩
 have n3_ : Aside0 (w.heap.size ≤ gb142) := ⟨h3_⟩
 have n4_ : Aside0 (w.heap.size ≤ gb142) := ⟨h4_⟩
 have n5_ : Aside0 (gb130 ≠ gb142) := ⟨h5_⟩
 have n6_ : Aside0 (gb142 ≠ gb130) := ⟨h6_⟩
 have n7_ : Aside0 (Below w.heap.size w w21) := ⟨h7_⟩
 clear HO133
 clear BK130
 clear HB
 clear h0_ h1_ h2_ h3_ h4_ h5_ h6_ h7_
 have HO133 := n0_
 have BK130 := n1_
 have BK142 := n2_
 have GW142 := n3_
 have GE142 := n4_
 have NB130_142 := n5_
 have NB142_130 := n6_
 have HB := n7_
 clear n0_ n1_ n2_ n3_ n4_ n5_ n6_ n7_
 have hHeld : w21.cell? ad134 = some (.string (rdOf ByteArray.empty t131 0)) ∧ w21.cell? ⟨ad134.block, ad134.off + 1, none⟩ = some (.string (rdOf ByteArray.empty t131 1)) ∧ w21.cell? ⟨ad134.block, ad134.off + 2, none⟩ = some (.string (rdOf ByteArray.empty t131 2)) ∧ w21.cell? ⟨ad134.block, ad134.off + 3, none⟩ = some (.string (rdOf ByteArray.empty t131 3)) ∧ w21.cell? ⟨ad134.block, ad134.off + 4, none⟩ = some (.string (rdOf ByteArray.empty t131 4)) := hS_
 refine norm_ (a' := ?_) ?_ ?_
 rotate_left
 ·simp only [putAll, Act.put, sa, s0, s1]
  rfl
 refine oA 20 none (bm 21 2097151) HT_ fun K hK => ?_
 have hs22 : w21.cell? ⟨gb142, 0, none⟩ = some (.string (⟨#[]⟩ : ByteArray)) := (blk_cell BK142.out 0).trans rfl
 have hfs22 := blk_frozen BK142.out 0
 have hns22_0 := NB130_142.out
 have hms22_0 := NB142_130.out
 have hs23 : w21.cell? ⟨gb142, 1, none⟩ = some (.string (⟨#[]⟩ : ByteArray)) := (blk_cell BK142.out 1).trans rfl
 have hfs23 := blk_frozen BK142.out 1
 have hns23_0 := NB130_142.out
 have hms23_0 := NB142_130.out
 have hs24 : w21.cell? ⟨gb142, 2, none⟩ = some (.int .i64 0) := (blk_cell BK142.out 2).trans rfl
 have hfs24 := blk_frozen BK142.out 2
 have hns24_0 := NB130_142.out
 have hms24_0 := NB142_130.out
 have hs25 : w21.cell? ⟨gb142, 3, none⟩ = some (.int .i64 0) := (blk_cell BK142.out 3).trans rfl
 have hfs25 := blk_frozen BK142.out 3
 have hns25_0 := NB130_142.out
 have hms25_0 := NB142_130.out
 have hs26 : w21.cell? ⟨gb142, 4, none⟩ = some (.int .i64 0) := (blk_cell BK142.out 4).trans rfl
 have hfs26 := blk_frozen BK142.out 4
 have hns26_0 := NB130_142.out
 have hms26_0 := NB142_130.out
 refine skip_ (w1 := ?_) (by rfl) rfl ?_ ?_
 rotate_left
 ·go_simp
  rfl
 have hne_ := Kd.own_blk (Kd.R_ne HO133.out BK142.out (by decide))
 refine hK.out _ _ ⟨(cf hne_ hHeld.1), (cf hne_ hHeld.2.1), (cf hne_ hHeld.2.2.1), (cf hne_ hHeld.2.2.2.1), (cf hne_ hHeld.2.2.2.2)⟩ (fun hHeld => ?_)
 clear hK K
 refine done_ (done_of HT_.out (by kernel_rfl)) ?_
 have hnb27 := NB142_130.out
 have hnc27 := NB130_142.out
 have hz28 := bc5 BK142
 by_cases c13 : t143 = true
 rotate_left
 ·replace c13 := Bool.eq_false_iff.mpr c13
  subst c13
  try simp only [Bool.not_true, Bool.not_false]
  rw [if_neg (show ¬ (false = true) by decide)] at H
  simp only [Option.some.injEq, Prod.mk.injEq] at H
  obtain ⟨rfl, rfl, rfl, rfl, rfl, rfl⟩ := H
  try go_wp2_with ((with_reducible refine gg ?_); refine gL 32 Tryd.func43 #[.agg #[.string (rdOf ByteArray.empty t131 0), .string (rdOf ByteArray.empty t131 1), .int .i64 t137, .int .i64 t139, .int .i64 t141]] ?_; (with_reducible refine (spec_l3Ok.calls k (rdOf ByteArray.empty t131 0) (rdOf ByteArray.empty t131 1) t137 t139 t141 false _ A12.out).mono ?_); rintro e w64 ⟨rfl, hb⟩; refine ⟨_, rfl, ?_⟩; replace HO133 := am (Kd.R_below (rf HO133 BK142) hb); replace BK130 := kP _ BK130 hb; replace BK142 := kP (.cells #[.string (rdOf ByteArray.empty t131 0), .string (rdOf ByteArray.empty t131 1), .int .i64 t137, .int .i64 t139, .int .i64 t141] 23 (0, 0)) BK142 hb; replace HB := kH HB hb; (try clear hb); have hz65 := bc5 BK130)
  refine bodyPost_ret (results_ct rfl _ _ gb130 23 #[.string (⟨#[]⟩ : ByteArray), .string (⟨#[]⟩ : ByteArray), .int .i64 0, .int .i64 0, .int .i64 0] (0, 0) _ rfl (fb BK130) Tryd.underlying23 rfl (by kernel_rfl)) rfl ?_
  exact ⟨xE, xB HB⟩
 subst c13
 try simp only [Bool.not_true, Bool.not_false]
 rw [if_pos rfl] at H
 replace H := oa H
 obtain ⟨t144, A14, H⟩ := H
 go_upto_if 39 with (first | ((with_reducible refine gg ?_); refine gL 32 Tryd.func43 #[.agg #[.string (rdOf ByteArray.empty t131 0), .string (rdOf ByteArray.empty t131 1), .int .i64 t137, .int .i64 t139, .int .i64 t141]] ?_; (with_reducible refine (spec_l3Ok.calls k (rdOf ByteArray.empty t131 0) (rdOf ByteArray.empty t131 1) t137 t139 t141 true _ A12.out).mono ?_); rintro e w29 ⟨rfl, hb⟩; refine ⟨_, rfl, ?_⟩; replace HO133 := am (Kd.R_below (rf HO133 BK142) hb); replace BK130 := kP _ BK130 hb; replace BK142 := kP (.cells #[.string (rdOf ByteArray.empty t131 0), .string (rdOf ByteArray.empty t131 1), .int .i64 t137, .int .i64 t139, .int .i64 t141] 23 (0, 0)) BK142 hb; replace HB := kH HB hb; (try clear hb); have hz30 := bc5 BK142) | (go_at_call 44; (with_reducible refine (spec_l3Put.calls k (rdOf ByteArray.empty t131 0) (rdOf ByteArray.empty t131 1) t137 t139 t141 t144 _ A14.out).mono ?_); rintro e w31 ⟨rfl, hb⟩; replace HO133 := rk HO133 hb; replace BK130 := kP _ BK130 hb; replace BK142 := kP _ BK142 hb; replace HB := kH HB hb; (try clear hb)))
 by_cases c15 : t144.toList = a0.toList
 rotate_left
 ·rw [if_neg c15] at H
  have c15b0 := beq_eq_false_iff_ne.mpr c15
  have c15b1 := bne_iff_ne.mpr c15
  try simp only [c15b0, c15b1]
  simp only [Option.some.injEq, Prod.mk.injEq] at H
  obtain ⟨rfl, rfl, rfl, rfl, rfl, rfl⟩ := H
  have hz50 := bc5 BK130
  try go_wp2
  refine bodyPost_ret (results_ct rfl _ _ gb130 23 #[.string (⟨#[]⟩ : ByteArray), .string (⟨#[]⟩ : ByteArray), .int .i64 0, .int .i64 0, .int .i64 0] (0, 0) _ rfl (fb BK130) Tryd.underlying23 rfl (by kernel_rfl)) rfl ?_
  exact ⟨xE, xB HB⟩
 rw [if_pos c15] at H
 have c15b0 := beq_iff_eq.mpr c15
 have c15b1 := bne_eq_false_iff_eq.mpr c15
 try simp only [c15b0, c15b1]
 clear c15
 simp only [Option.some.injEq, Prod.mk.injEq] at H
 obtain ⟨rfl, rfl, rfl, rfl, rfl, rfl⟩ := H
 have hz32 := bc5 BK142
 have hz33 := bc5 BK130
 try go_wp2
 refine bodyPost_ret (results_ct rfl _ _ gb130 23 #[.string (rdOf ByteArray.empty t131 0), .string (rdOf ByteArray.empty t131 1), .int .i64 t137, .int .i64 t139, .int .i64 t141] (0, 0) _ rfl (fb BK130) Tryd.underlying23 rfl (by kernel_rfl)) rfl ?_
 exact ⟨xE, xB HB⟩

end Go.Proofs.YtgjljbaadglpnaaDoor.PFnExactPaidGet
