/- Functions of the program and what each answers: the kit's print, shortened (wip/press2.py). -/
import Derived.Test.YtgjljbaadglpnaaDoorPFnHeadGetx0
import Derived.Test.YtgjljbaadglpnaaDoorPFnHeadGetx4
import Derived.Test.YtgjljbaadglpnaaDoorPFnHeadGetx11
namespace Go.Proofs.YtgjljbaadglpnaaDoor.PFnHeadGet
open Go.Proofs.YtgjljbaadglpnaaDoor.Sq Go.RowKit Go.Proofs.YtgjljbaadglpnaaDoorW.PrintWords Go.Proofs.YtgjljbaadglpnaaDoorW.PrintLast Go.Proofs.YtgjljbaadglpnaaDoorW.PrintMore
attribute [local go_sem] max2_int min2_int max_two min_two max_three min_three max_four min_four   -- for this text's walks alone
set_option linter.unusedVariables false
set_option linter.unusedSimpArgs false
set_option maxHeartbeats 64000000
set_option maxRecDepth 100000
def spec_l4Diff.j0 : Nat → Int → Int → Bool → Option (Int)
 | 0, _, _, _ => none
 | k + 1, x4, x5, x38 => if x38 = true then (some (wrap64 (x4 + 1))) else (if x5 > 60 then (if x4 > 1 then (some (wrap64 (x4 - 1))) else (some x4)) else (some x4))
def spec_l4Diff.f (k : Nat) (l0 : List (S23)) : Option (Int) := if (l0.length : Int) = 0 then (some 1) else (if 0 ≤ (wrap64 ((l0.length : Int) - 1)) then (if (wrap64 ((l0.length : Int) - 1)) < (l0.length : Int) then (if ((l0.length : Int) % 4) = 0 then (if 0 ≤ (wrap64 ((l0.length : Int) - 4)) then (if (wrap64 ((l0.length : Int) - 4)) < (l0.length : Int) then (if (wrap64 (((rd_T23 l0 (wrap64 ((l0.length : Int) - 1))).f2) - ((rd_T23 l0 (wrap64 ((l0.length : Int) - 4))).f2))) < 20 then (spec_l4Diff.j0 k ((rd_T23 l0 (wrap64 ((l0.length : Int) - 1))).f3) (wrap64 (((rd_T23 l0 (wrap64 ((l0.length : Int) - 1))).f2) - ((rd_T23 l0 (wrap64 ((l0.length : Int) - 4))).f2))) (decide (((rd_T23 l0 (wrap64 ((l0.length : Int) - 1))).f3) < 8))) else (spec_l4Diff.j0 k ((rd_T23 l0 (wrap64 ((l0.length : Int) - 1))).f3) (wrap64 (((rd_T23 l0 (wrap64 ((l0.length : Int) - 1))).f2) - ((rd_T23 l0 (wrap64 ((l0.length : Int) - 4))).f2))) false)) else (none)) else (none)) else (some ((rd_T23 l0 (wrap64 ((l0.length : Int) - 1))).f3))) else (none)) else (none))
theorem spec_l4Diff.mono_l : ∀ k, (∀ y0 y1 y2, LeO (spec_l4Diff.j0 k y0 y1 y2) (spec_l4Diff.j0 (k + 1) y0 y1 y2))
 | 0 => fun _ _ _ r h => by simp [spec_l4Diff.j0] at h
 | k + 1 => by
  have ih0 := spec_l4Diff.mono_l k
  ·intro y0 y1 y2
   unfold spec_l4Diff.j0
   exact mo1 ih0
theorem spec_l4Diff.mono : ∀ a0 k, LeO (spec_l4Diff.f k a0) (spec_l4Diff.f (k + 1) a0) := by
 intro a0 k
 have ih0 := spec_l4Diff.mono_l k
 unfold spec_l4Diff.f
 exact mo1 ih0
theorem spec_l4Diff.calls (k : Nat) (A0 : Option Addr) (c0 : Nat) (l0 : List (S23)) (r : Int) (w : World) (hr0 : Kd.C k23 w A0 l0.length l0) (hc0 : l0.length ≤ c0) (h : spec_l4Diff.f k l0 = some r) :
  Calls Tryd.prog 135 #[.slice A0 l0.length c0] w fun e w' => e = .returned (.int .i64 r) ∧ Drawn0 w w' := by
 have HR0 := Aside0.mk hr0
 have HC0 := Aside0.mk hc0
 clear hr0 hc0
 have H : (if (l0.length : Int) = 0 then (some 1) else (if 0 ≤ (wrap64 ((l0.length : Int) - 1)) then (if (wrap64 ((l0.length : Int) - 1)) < (l0.length : Int) then (if ((l0.length : Int) % 4) = 0 then (if 0 ≤ (wrap64 ((l0.length : Int) - 4)) then (if (wrap64 ((l0.length : Int) - 4)) < (l0.length : Int) then (if (wrap64 (((rd_T23 l0 (wrap64 ((l0.length : Int) - 1))).f2) - ((rd_T23 l0 (wrap64 ((l0.length : Int) - 4))).f2))) < 20 then (spec_l4Diff.j0 k ((rd_T23 l0 (wrap64 ((l0.length : Int) - 1))).f3) (wrap64 (((rd_T23 l0 (wrap64 ((l0.length : Int) - 1))).f2) - ((rd_T23 l0 (wrap64 ((l0.length : Int) - 4))).f2))) (decide (((rd_T23 l0 (wrap64 ((l0.length : Int) - 1))).f3) < 8))) else (spec_l4Diff.j0 k ((rd_T23 l0 (wrap64 ((l0.length : Int) - 1))).f3) (wrap64 (((rd_T23 l0 (wrap64 ((l0.length : Int) - 1))).f2) - ((rd_T23 l0 (wrap64 ((l0.length : Int) - 4))).f2))) false)) else (none)) else (none)) else (some ((rd_T23 l0 (wrap64 ((l0.length : Int) - 1))).f3))) else (none)) else (none))) = some r := h
 clear h
 by_cases c2 : (l0.length : Int) = 0
 ·rw [if_pos c2] at H
  have c2b0 := beq_iff_eq.mpr c2
  have c2b1 := bne_eq_false_iff_eq.mpr c2
  clear c2
  obtain rfl := Option.some.inj H
  go_enter Tryd.func135, Tryd.ntmps135
  go_wp2
  repeat (go_quiet (fail); try go_wp2)
  go_ret
  exact ⟨xR, xW⟩
 rw [if_neg c2] at H
 have c2b0 := beq_eq_false_iff_ne.mpr c2
 have c2b1 := bne_iff_ne.mpr c2
 have c2b2 : ¬ (l0 = []) := fun h_ => c2 (by rw [h_]; rfl)
 obtain ⟨ji3, hji3⟩ := je (wrap64 ((l0.length : Int) - 1))
 first | rw [hji3] at H | simp only [hji3] at H
 have hji3w : (IntKind.i64.wrap ((l0.length : Int) - 1)) = ji3 := (i64_w _).trans hji3
 replace H := ipd H
 obtain ⟨c4b0, H⟩ := H
 replace H := ipd H
 obtain ⟨c5b0, H⟩ := H
 by_cases c6 : ((l0.length : Int) % 4) = 0
 rotate_left
 ·rw [if_neg c6] at H
  have c6b0 := beq_eq_false_iff_ne.mpr c6
  have c6b1 := bne_iff_ne.mpr c6
  obtain rfl := Option.some.inj H
  have p329 : 0 ≤ ((ji3) : Int) := of_decide_eq_true xA
  have q329 : (ji3) < (l0.length : Int) := of_decide_eq_true xA
  obtain ⟨ad329, e329, hx329_0, hx329_1, hx329_2, hx329_3, hx329_4⟩ := at_T23 HR0.out (ji3) p329 q329
  cases e329
  replace p329 := eq_true p329
  replace q329 := eq_true q329
  go_enter Tryd.func135, Tryd.ntmps135
  go_wp2
  repeat (go_quiet (fail); try go_wp2)
  go_ret
  exact ⟨by first | rfl | (simp; done) | (simp only [← hji3] <;> (first | rfl | simp)) | (simp [*]; done), xW⟩
 rw [if_pos c6] at H
 have c6b0 := beq_iff_eq.mpr c6
 have c6b1 := bne_eq_false_iff_eq.mpr c6
 clear c6
 obtain ⟨ji7, hji7⟩ := je (wrap64 ((l0.length : Int) - 4))
 first | rw [hji7] at H | simp only [hji7] at H
 have hji7w : (IntKind.i64.wrap ((l0.length : Int) - 4)) = ji7 := (i64_w _).trans hji7
 replace H := ipd H
 obtain ⟨c8b0, H⟩ := H
 replace H := ipd H
 obtain ⟨c9b0, H⟩ := H
 have HC10 := Aside0.mk H
 clear H
 have p329 : 0 ≤ ((ji3) : Int) := of_decide_eq_true xA
 have q329 : (ji3) < (l0.length : Int) := of_decide_eq_true xA
 obtain ⟨ad329, e329, hx329_0, hx329_1, hx329_2, hx329_3, hx329_4⟩ := at_T23 HR0.out (ji3) p329 q329
 cases e329
 replace p329 := eq_true p329
 replace q329 := eq_true q329
 have p330 : 0 ≤ ((ji3) : Int) := of_decide_eq_true xA
 have q330 : (ji3) < (l0.length : Int) := of_decide_eq_true xA
 obtain ⟨ad330, e330, hx330_0, hx330_1, hx330_2, hx330_3, hx330_4⟩ := at_T23 HR0.out (ji3) p330 q330
 obtain rfl : ad329 = ad330 := (by injection e330)
 replace p330 := eq_true p330
 replace q330 := eq_true q330
 have p331 : 0 ≤ ((ji7) : Int) := of_decide_eq_true xA
 have q331 : (ji7) < (l0.length : Int) := of_decide_eq_true xA
 obtain ⟨ad331, e331, hx331_0, hx331_1, hx331_2, hx331_3, hx331_4⟩ := at_T23 HR0.out (ji7) p331 q331
 obtain rfl : ad329 = ad331 := (by injection e331)
 replace p331 := eq_true p331
 replace q331 := eq_true q331
 go_enter Tryd.func135, Tryd.ntmps135
 go_upto_region 8 with (fail)
 repeat (go_quiet (fail); go_upto_region 8 with (fail))
 go_cut [38] (fun v38 wc => ∃ (kq : Nat) (x38_9 : Bool), v38 = .bool x38_9 ∧ Aside0 (spec_l4Diff.j0 kq ((rd_T23 l0 (ji3)).f3) (wrap64 (((rd_T23 l0 (ji3)).f2) - ((rd_T23 l0 (ji7)).f2))) x38_9 = some r) ∧ Aside0 (kq ≤ k) ∧ Drawn0 w wc)
 case first =>
  have H := HC10.out
  clear HC10
  by_cases c11 : (wrap64 (((rd_T23 l0 (ji3)).f2) - ((rd_T23 l0 (ji7)).f2))) < 20
  rotate_left
  ·rw [if_neg c11] at H
   have c11b0 := decide_eq_false c11
   clear c11
   (first | rw [c11b0] | rw [c11b1] | (simp only [i64_w, i32_w]; rw [c11b0]) | skip)
   have H' := Aside0.mk H
   clear H
   go_wp2
   repeat (go_quiet (fail); try go_wp2)
   go_meet
   case rel => exact ⟨_, (false), xR, H', ⟨xO⟩, xW⟩
  rw [if_pos c11] at H
  have c11b0 := decide_eq_true c11
  clear c11
  (first | rw [c11b0] | rw [c11b1] | (simp only [i64_w, i32_w]; rw [c11b0]) | skip)
  have H' := Aside0.mk H
  clear H
  go_wp2
  repeat (go_quiet (fail); try go_wp2)
  go_meet
  case rel => exact ⟨_, (decide (((rd_T23 l0 (ji3)).f3) < 8)), (by first | rfl | (simp; done) | (simp only [← hji3] <;> (first | rfl | simp)) | (simp [*]; done)), H', ⟨xO⟩, xW⟩
 case rest =>
  clear HC10
  try clear c1
  try clear c2
  try clear c2b0
  try clear c2b1
  try clear c2b2
  try clear p2
  try clear p3
  try clear q3
  try clear hx3
  try clear c4
  try clear c4b0
  try clear c5
  try clear c5b0
  try clear c6
  try clear c6b0
  try clear c6b1
  try clear p6
  try clear c8
  try clear c8b0
  try clear c9
  try clear c9b0
  try clear c11
  try clear c11b0
  try clear hx329_0
  try clear hx329_1
  try clear hx329_2
  try clear hx329_3
  try clear hx329_4
  try clear hx330_0
  try clear hx330_1
  try clear hx330_2
  try clear hx330_3
  try clear hx330_4
  try clear hx331_0
  try clear hx331_1
  try clear hx331_2
  try clear hx331_3
  try clear hx331_4
  try clear p329
  try clear p330
  try clear p331
  try clear q329
  try clear q330
  try clear q331
  obtain ⟨kq, x38_9, rfl, HA, HJ9, ⟨mc9, rfl⟩⟩ := hcut
  cases kq with
  | zero => exact absurd HA.out (by simp [spec_l4Diff.j0])
  | succ kj9 =>
   have H := HA.out
   clear HA
   simp only [spec_l4Diff.j0] at H
   by_cases c12 : x38_9 = true
   ·subst c12
    rw [if_pos rfl] at H
    obtain rfl := Option.some.inj H
    go_wp2
    repeat (go_quiet (fail); try go_wp2)
    go_ret
    exact ⟨by first | rfl | (simp; done) | (simp only [← hji3, ← hji7] <;> (first | rfl | simp)) | (simp [*]; done), xW⟩
   replace c12 := Bool.eq_false_iff.mpr c12
   subst c12
   rw [if_neg (show ¬ (false = true) by decide)] at H
   by_cases c13 : (wrap64 (((rd_T23 l0 (ji3)).f2) - ((rd_T23 l0 (ji7)).f2))) > 60
   rotate_left
   ·rw [if_neg c13] at H
    have c13b0 := decide_eq_false c13
    clear c13
    obtain rfl := Option.some.inj H
    go_wp2
    repeat (go_quiet (fail); try go_wp2)
    go_ret
    exact ⟨by first | rfl | (simp; done) | (simp only [← hji3, ← hji7] <;> (first | rfl | simp)) | (simp [*]; done), xW⟩
   rw [if_pos c13] at H
   have c13b0 := decide_eq_true c13
   clear c13
   by_cases c14 : ((rd_T23 l0 (ji3)).f3) > 1
   ·rw [if_pos c14] at H
    have c14b0 := decide_eq_true c14
    clear c14
    obtain rfl := Option.some.inj H
    go_wp2
    repeat (go_quiet (fail); try go_wp2)
    go_ret
    exact ⟨by first | rfl | (simp; done) | (simp only [← hji3, ← hji7] <;> (first | rfl | simp)) | (simp [*]; done), xW⟩
   rw [if_neg c14] at H
   have c14b0 := decide_eq_false c14
   clear c14
   obtain rfl := Option.some.inj H
   go_wp2
   repeat (go_quiet (fail); try go_wp2)
   go_ret
   exact ⟨by first | rfl | (simp; done) | (simp only [← hji3, ← hji7] <;> (first | rfl | simp)) | (simp [*]; done), xW⟩
def spec_l3Sum.f (k : Nat) (a0_0 : ByteArray) (a0_1 : ByteArray) (a0_2 : Int) (a0_3 : Int) (a0_4 : Int) : Option (ByteArray) := (spec_l3Put.f k a0_0 a0_1 a0_2 a0_3 a0_4).bind fun t333 => (if 5 + t333.size ≤ 9223372036854775807 then ((spec_l1Sum.f k ((⟨#[104, 101, 97, 100, 32]⟩ : ByteArray) ++ t333)).bind fun t334 => (some t334)) else (none))
theorem spec_l3Sum.mono : ∀ a0 a1 a2 a3 a4 k, LeO (spec_l3Sum.f k a0 a1 a2 a3 a4) (spec_l3Sum.f (k + 1) a0 a1 a2 a3 a4) := by
 intro a0 a1 a2 a3 a4 k
 unfold spec_l3Sum.f
 exact mo2 spec_l1Sum.mono spec_l3Put.mono
theorem spec_l3Sum.calls (k : Nat) (a0_0 : ByteArray) (a0_1 : ByteArray) (a0_2 : Int) (a0_3 : Int) (a0_4 : Int) (r : ByteArray) (w : World) (h : spec_l3Sum.f k a0_0 a0_1 a0_2 a0_3 a0_4 = some r) :
  Calls Tryd.prog 136 #[.agg #[.string a0_0, .string a0_1, .int .i64 a0_2, .int .i64 a0_3, .int .i64 a0_4]] w fun e w' => e = .returned (.string r) ∧ Below w.heap.size w w' := by
 have hu23 := Tryd.underlying23
 have HB := Aside0.mk (Below.refl w.heap.size w)
 have H : ((spec_l3Put.f k a0_0 a0_1 a0_2 a0_3 a0_4).bind fun t333 => (if 5 + t333.size ≤ 9223372036854775807 then ((spec_l1Sum.f k ((⟨#[104, 101, 97, 100, 32]⟩ : ByteArray) ++ t333)).bind fun t334 => (some t334)) else (none))) = some r := h
 clear h
 replace H := oa H
 obtain ⟨t333, A2, H⟩ := H
 replace H := ip H
 obtain ⟨c3, H⟩ := H
 have c3b0 := eq_true c3
 have c3b1 := decide_eq_true c3
 have c3b2 := nf c3
 replace H := oa H
 obtain ⟨t334, A4, H⟩ := H
 obtain rfl := Option.some.inj H
 go_enter Tryd.func136, Tryd.ntmps136
 go_wp2_with ((with_reducible refine gg ?_); first | (refine bE 1 #[.string a0_0, .string a0_1, .int .i64 a0_2, .int .i64 a0_3, .int .i64 a0_4] 23 ?_; intro gb332 hg w5 hbox hb; have BK332 := am (hbox); have GW332 := zB hg HB; have GE332 := zB hg HB; replace HB := kH HB hb; clear hb hbox hg; have hz6 := bc5 BK332) | (refine gL 4 Tryd.func44 #[.agg #[.string a0_0, .string a0_1, .int .i64 a0_2, .int .i64 a0_3, .int .i64 a0_4]] ?_; (with_reducible refine (spec_l3Put.calls k a0_0 a0_1 a0_2 a0_3 a0_4 t333 _ A2.out).mono ?_); rintro e w7 ⟨rfl, hb⟩; refine ⟨_, rfl, ?_⟩; replace BK332 := kP _ BK332 hb; replace HB := kH HB hb; (try clear hb)) | (refine gL 6 Tryd.func96 #[.string ((⟨#[104, 101, 97, 100, 32]⟩ : ByteArray) ++ t333)] ?_; (with_reducible refine (spec_l1Sum.calls k ((⟨#[104, 101, 97, 100, 32]⟩ : ByteArray) ++ t333) t334 _ A4.out).mono ?_); rintro e w8 ⟨rfl, hb⟩; refine ⟨_, rfl, ?_⟩; replace BK332 := kP _ BK332 hb; replace HB := kH HB hb; (try clear hb)))
 go_ret
 exact ⟨xE, xB HB⟩
def spec_l1Head.l0 : Nat → ByteArray → Int → Int → Option (Int)
 | 0, _, _, _ => none
 | k + 1, x0, x3, x4 => if x4 < 8 then (if 0 ≤ x4 then (if x4 < (x0.size : Int) then (if (bt x0 x4) ≥ 97 then (spec_l1Head.l0 k x0 (wrap64 ((wrap64 (x3 * 16)) + ((((bt x0 x4) - 97) % 256) + 10))) (wrap64 (x4 + 1))) else (spec_l1Head.l0 k x0 (wrap64 ((wrap64 (x3 * 16)) + (((bt x0 x4) - 48) % 256))) (wrap64 (x4 + 1)))) else (none)) else (none)) else (some (wrap64 (Int.tdiv x3 2)))
def spec_l1Head.f (k : Nat) (a0 : ByteArray) : Option (Int) := spec_l1Head.l0 k a0 0 0
theorem spec_l1Head.mono_l : ∀ k, (∀ y0 y1 y2, LeO (spec_l1Head.l0 k y0 y1 y2) (spec_l1Head.l0 (k + 1) y0 y1 y2))
 | 0 => fun _ _ _ r h => by simp [spec_l1Head.l0] at h
 | k + 1 => by
  have ih0 := spec_l1Head.mono_l k
  ·intro y0 y1 y2
   unfold spec_l1Head.l0
   exact mo1 ih0
theorem spec_l1Head.mono : ∀ a0 k, LeO (spec_l1Head.f k a0) (spec_l1Head.f (k + 1) a0) := by
 intro a0 k
 have ih0 := spec_l1Head.mono_l k
 unfold spec_l1Head.f
 exact mo1 ih0
theorem spec_l1Head.calls (k : Nat) (a0 : ByteArray) (r : Int) (w : World) (h : spec_l1Head.f k a0 = some r) :
  Calls Tryd.prog 142 #[.string a0] w fun e w' => e = .returned (.int .i64 r) ∧ Drawn0 w w' := by
 have H : (spec_l1Head.l0 k a0 0 0) = some r := h
 clear h
 have H' := Aside0.mk H
 clear H
 go_enter Tryd.func142, Tryd.ntmps142
 go_wp2
 go_loopg [3, 4] k (fun kq v3 v4 w' => ∃ (x3_1 : Int) (x4_1 : Int), v3 = .int .i64 x3_1 ∧ v4 = .int .i64 x4_1 ∧ Aside0 (spec_l1Head.l0 kq a0 x3_1 x4_1 = some r) ∧ Aside0 (kq ≤ k) ∧ Drawn0 w w')
 case atStart => exact ⟨(0), (0), xR, xR, H', ⟨Nat.le_refl _⟩, xW⟩
 case round =>
  clear H'
  try clear c1
  obtain ⟨x3_1, x4_1, rfl, rfl, HA, HK1, ⟨m1, rfl⟩⟩ := hrel
  cases gk with
  | zero => exact absurd HA.out (by simp [spec_l1Head.l0])
  | succ k1 =>
   have H := HA.out
   clear HA
   simp only [spec_l1Head.l0] at H
   by_cases c2 : x4_1 < 8
   rotate_left
   ·rw [if_neg c2] at H
    have c2b0 := decide_eq_false c2
    clear c2
    obtain rfl := Option.some.inj H
    go_wp2
    go_ret
    exact ⟨xR, xW⟩
   rw [if_pos c2] at H
   have c2b0 := decide_eq_true c2
   clear c2
   replace H := ipd H
   obtain ⟨c3b0, H⟩ := H
   replace H := ipd H
   obtain ⟨c4b0, H⟩ := H
   have p5 : 0 ≤ (x4_1 : Int) := of_decide_eq_true xA
   have q5 : x4_1 < (a0.size : Int) := of_decide_eq_true xA
   have hx5 := bt_at a0 x4_1
   replace p5 := eq_true p5
   replace q5 := eq_true q5
   have p6 : 0 ≤ (x4_1 : Int) := of_decide_eq_true xA
   have q6 : x4_1 < (a0.size : Int) := of_decide_eq_true xA
   have hx6 := bt_at a0 x4_1
   replace p6 := eq_true p6
   replace q6 := eq_true q6
   by_cases c7 : (bt a0 x4_1) ≥ 97
   rotate_left
   ·rw [if_neg c7] at H
    have c7b0 := decide_eq_false c7
    clear c7
    have H' := Aside0.mk H
    clear H
    go_wp2
    go_roundg k1
    case measure => have := HK1.out; omega
    case rel => exact ⟨(wrap64 ((wrap64 (x3_1 * 16)) + (((bt a0 x4_1) - 48) % 256))), (wrap64 (x4_1 + 1)), xR, xR, H', ⟨xL HK1⟩, xW⟩
   rw [if_pos c7] at H
   have c7b0 := decide_eq_true c7
   clear c7
   have H' := Aside0.mk H
   clear H
   have p8 : 0 ≤ (x4_1 : Int) := of_decide_eq_true xA
   have q8 : x4_1 < (a0.size : Int) := of_decide_eq_true xA
   have hx8 := bt_at a0 x4_1
   replace p8 := eq_true p8
   replace q8 := eq_true q8
   go_wp2
   go_roundg k1
   case measure => have := HK1.out; omega
   case rel => exact ⟨(wrap64 ((wrap64 (x3_1 * 16)) + ((((bt a0 x4_1) - 97) % 256) + 10))), (wrap64 (x4_1 + 1)), xR, xR, H', ⟨xL HK1⟩, xW⟩
def spec_l3Meets.f (k : Nat) (a0_0 : ByteArray) (a0_1 : ByteArray) (a0_2 : Int) (a0_3 : Int) (a0_4 : Int) : Option (Bool) := (spec_l3Sum.f k a0_0 a0_1 a0_2 a0_3 a0_4).bind fun t336 => ((spec_l1Head.f k t336).bind fun t337 => (some (decide ((wrap64 ((wrap64 (Int.tdiv t337 65536)) * a0_3)) < 32768))))
theorem spec_l3Meets.mono : ∀ a0 a1 a2 a3 a4 k, LeO (spec_l3Meets.f k a0 a1 a2 a3 a4) (spec_l3Meets.f (k + 1) a0 a1 a2 a3 a4) := by
 intro a0 a1 a2 a3 a4 k
 unfold spec_l3Meets.f
 exact mo2 spec_l1Head.mono spec_l3Sum.mono
def spec_l3Meets.T1 : Bool × List (List Nat × List Nat) := (true, [([], []), ([0], [0]), ([1, 1], [1]), ([2], [2]), ([], []), ([4], [4]), ([3, 5], [3, 5]), ([6], [6]), ([7, 2, 0, 1, 2, 3, 4, 5, 6, 7], [7])])
def spec_l3Meets.B1 : List Nat := [0, 1, 3, 7, 0, 16, 63, 127, 255]
theorem spec_l3Meets.tab1 : rtab .any (opsOf Tryd.f141 1) = spec_l3Meets.T1 := by kernel_rfl
theorem spec_l3Meets.bits1 : waitsOk spec_l3Meets.T1.2 spec_l3Meets.B1 = true := by kernel_rfl
theorem spec_l3Meets.calls (k : Nat) (a0_0 : ByteArray) (a0_1 : ByteArray) (a0_2 : Int) (a0_3 : Int) (a0_4 : Int) (r : Bool) (w : World) (h : spec_l3Meets.f k a0_0 a0_1 a0_2 a0_3 a0_4 = some r) :
  Calls Tryd.prog 141 #[.agg #[.string a0_0, .string a0_1, .int .i64 a0_2, .int .i64 a0_3, .int .i64 a0_4]] w fun e w' => e = .returned (.bool r) ∧ Below w.heap.size w w' := by
 have hu23 := Tryd.underlying23
 have HB := Aside0.mk (Below.refl w.heap.size w)
 have H : ((spec_l3Sum.f k a0_0 a0_1 a0_2 a0_3 a0_4).bind fun t336 => ((spec_l1Head.f k t336).bind fun t337 => (some (decide ((wrap64 ((wrap64 (Int.tdiv t337 65536)) * a0_3)) < 32768))))) = some r := h
 clear h
 replace H := oa H
 obtain ⟨t336, A2, H⟩ := H
 replace H := oa H
 obtain ⟨t337, A3, H⟩ := H
 obtain rfl := Option.some.inj H
 go_enter Tryd.func141, Tryd.ntmps141
 try go_wp2_with ((with_reducible refine gg ?_); first | (refine bE 1 #[.string a0_0, .string a0_1, .int .i64 a0_2, .int .i64 a0_3, .int .i64 a0_4] 23 ?_; intro gb335 hg w4 hbox hb; have BK335 := am (hbox); have GW335 := zB hg HB; have GE335 := zB hg HB; replace HB := kH HB hb; clear hb hbox hg) | (refine store_event (t := 23) (p := 1) (v := ?vo_) (w1 := ?wo_) ?hg ?ho ?hn ?hr ?_; (case ho => rfl); (case hg => rfl); (case hn => rfl); (case hr => go_simp; rfl); intro wq_ hW_; have BQ_ := am hW_; have hzq_ := am hW_; replace hW_ := am hW_))
 replace BK335 := am (blk_drew BK335.out)
 replace HB := am (below_drew1 HB.out)
 (try (clear hzq_ BQ_; obtain ⟨hW_⟩ := hW_; subst hW_))
 refine start_ (n := 9) (S := cs5 gb335 (.string a0_0) (.string a0_1) (.int .i64 a0_2) (.int .i64 a0_3) (.int .i64 a0_4)) (ds := []) (bm 9 0) (by kernel_rfl) rfl rfl (bz5 BK335) (fun hHeld => ?_); refine with_tabW spec_l3Meets.tab1 spec_l3Meets.bits1 (fun HT_ HW_ => ?_)
 generalize w4.drew = w5 at BK335 HB hHeld ⊢
 refine pA 4 7 (bm 9 16) HT_ ?_
 refine tA 0 3 (bm 9 17) HT_ HW_ hHeld ?_
 refine tA 5 8 (bm 9 49) HT_ HW_ hHeld ?_
 refine oA 1 (some 4) (bm 9 51) HT_ fun K hK => ?_
 refine gA Tryd.func136 #[.agg #[.string a0_0, .string a0_1, .int .i64 a0_2, .int .i64 a0_3, .int .i64 a0_4]] ?_
 with_reducible refine (spec_l3Sum.calls k a0_0 a0_1 a0_2 a0_3 a0_4 t336 _ A2.out).mono ?_
 rintro e w6 ⟨rfl, hb⟩
 refine ⟨_, rfl, ?_⟩
 replace BK335 := kP _ BK335 hb
 replace HB := kH HB hb
 (try clear hb)
 (try clear hb2)
 (try clear hk)
 (try clear hi)
 refine hK.out _ _ (bz5 BK335) (fun hHeld => ?_)
 clear hK K
 refine nA (some 4) ?_
 refine oA 2 (some 5) (bm 9 55) HT_ fun K hK => ?_
 refine gA Tryd.func142 #[.string t336] ?_
 with_reducible refine (spec_l1Head.calls k t336 t337 _ A3.out).mono ?_
 rintro e w' ⟨rfl, ⟨nd, rfl⟩⟩
 refine ⟨_, rfl, ?_⟩
 refine hK.out _ _ (bz5 BK335) (fun hHeld => ?_)
 clear hK K
 refine nA (some 5) ?_
 refine pA 3 6 (bm 9 63) HT_ ?_
 refine pA 6 9 (bm 9 127) HT_ ?_
 refine pA 7 10 (bm 9 255) HT_ ?_
 refine pA 8 2 (bm 9 511) HT_ ?_
 refine done_ (done_of HT_.out (by kernel_rfl)) ?_
 try go_wp2
 (try (clear hzq_ BQ_; obtain ⟨hW_⟩ := hW_; subst hW_))
 go_ret
 exact ⟨xE, xB HB⟩
def spec_l3Mine.l0 : Nat → ByteArray → ByteArray → Int → Int → Int → Option (ByteArray × ByteArray × Int × Int × Int × Bool)
 | 0, _, _, _, _, _ => none
 | k + 1, x339000, x339001, x339002, x339003, x339004 => if x339004 ≤ 400 then ((spec_l3Meets.f k x339000 x339001 x339002 x339003 x339004).bind fun t340 => (if t340 = true then (some (x339000, x339001, x339002, x339003, x339004, true)) else (spec_l3Mine.l0 k x339000 x339001 x339002 x339003 (wrap64 (x339004 + 1))))) else (some ((⟨#[]⟩ : ByteArray), (⟨#[]⟩ : ByteArray), 0, 0, 0, false))
def spec_l3Mine.f (k : Nat) (a0_0 : ByteArray) (a0_1 : ByteArray) (a0_2 : Int) (a0_3 : Int) (a0_4 : Int) : Option (ByteArray × ByteArray × Int × Int × Int × Bool) := spec_l3Mine.l0 k a0_0 a0_1 a0_2 a0_3 0
theorem spec_l3Mine.mono_l : ∀ k, (∀ y0 y1 y2 y3 y4, LeO (spec_l3Mine.l0 k y0 y1 y2 y3 y4) (spec_l3Mine.l0 (k + 1) y0 y1 y2 y3 y4))
 | 0 => fun _ _ _ _ _ r h => by simp [spec_l3Mine.l0] at h
 | k + 1 => by
  have ih0 := spec_l3Mine.mono_l k
  ·intro y0 y1 y2 y3 y4
   unfold spec_l3Mine.l0
   exact mo2 ih0 spec_l3Meets.mono
theorem spec_l3Mine.mono : ∀ a0 a1 a2 a3 a4 k, LeO (spec_l3Mine.f k a0 a1 a2 a3 a4) (spec_l3Mine.f (k + 1) a0 a1 a2 a3 a4) := by
 intro a0 a1 a2 a3 a4 k
 have ih0 := spec_l3Mine.mono_l k
 unfold spec_l3Mine.f
 exact mo2 ih0 spec_l3Meets.mono
theorem spec_l3Mine.calls (k : Nat) (a0_0 : ByteArray) (a0_1 : ByteArray) (a0_2 : Int) (a0_3 : Int) (a0_4 : Int) (r1 : ByteArray) (r2 : ByteArray) (r3 : Int) (r4 : Int) (r5 : Int) (r6 : Bool) (w : World) (h : spec_l3Mine.f k a0_0 a0_1 a0_2 a0_3 a0_4 = some (r1, r2, r3, r4, r5, r6)) :
  Calls Tryd.prog 137 #[.agg #[.string a0_0, .string a0_1, .int .i64 a0_2, .int .i64 a0_3, .int .i64 a0_4]] w fun e w' => e = .returned (.tuple #[.agg #[.string r1, .string r2, .int .i64 r3, .int .i64 r4, .int .i64 r5], .bool r6]) ∧ Below w.heap.size w w' := by
 have hu23 := Tryd.underlying23
 have HB := Aside0.mk (Below.refl w.heap.size w)
 have H : (spec_l3Mine.l0 k a0_0 a0_1 a0_2 a0_3 0) = some (r1, r2, r3, r4, r5, r6) := h
 clear h
 have H' := Aside0.mk H
 clear H
 go_enter Tryd.func137, Tryd.ntmps137
 go_wp2_with ((with_reducible refine gg ?_); first | (refine bE 1 #[.string a0_0, .string a0_1, .int .i64 a0_2, .int .i64 a0_3, .int .i64 a0_4] 23 ?_; intro gb338 hg w2 hbox hb; have BK338 := am (hbox); have GW338 := zB hg HB; have GE338 := zB hg HB; replace HB := kH HB hb; clear hb hbox hg) | (refine bE 2 #[.string (⟨#[]⟩ : ByteArray), .string (⟨#[]⟩ : ByteArray), .int .i64 0, .int .i64 0, .int .i64 0] 23 ?_; intro gb339 hg w3 hbox hb; have BK339 := am (hbox); have GW339 := zB hg HB; have GE339 := zB hg HB; replace HB := kH HB hb; have NB338_339 := nl hg (kb BK338); have NB339_338 := ng hg (kb BK338); replace BK338 := kP _ BK338 hb; clear hb hbox hg; have hnb4 := NB338_339.out; have hnc4 := NB339_338.out; have hz5 := bc5 BK338))
 go_loopg [] k (fun kq w' => ∃ (x339004_1 : Int) (x340000_1 : ByteArray) (x340001_1 : ByteArray) (x340002_1 : Int) (x340003_1 : Int) (x340004_1 : Int), Aside0 (spec_l3Mine.l0 kq a0_0 a0_1 a0_2 a0_3 x339004_1 = some (r1, r2, r3, r4, r5, r6)) ∧ Aside0 (kq ≤ k) ∧ Aside0 (w'.heap[gb338]? = some (.cells #[.string a0_0, .string a0_1, .int .i64 a0_2, .int .i64 a0_3, .int .i64 x339004_1] 23 (0, 0))) ∧ Aside0 (w'.heap[gb339]? = some (.cells #[.string x340000_1, .string x340001_1, .int .i64 x340002_1, .int .i64 x340003_1, .int .i64 x340004_1] 23 (0, 0))) ∧ Aside0 (Below w.heap.size w w'))
 case atStart => exact ⟨(0), ((⟨#[]⟩ : ByteArray)), ((⟨#[]⟩ : ByteArray)), (0), (0), (0), H', ⟨Nat.le_refl _⟩, ⟨fb BK338⟩, ⟨fb BK339⟩, ⟨xB HB⟩⟩
 case round =>
  clear H'
  try clear c1
  try clear p2
  try clear c4
  try clear hz5
  obtain ⟨x339004_1, x340000_1, x340001_1, x340002_1, x340003_1, x340004_1, HA, HK1, BK338, BK339, HB⟩ := hrel
  cases gk with
  | zero => exact absurd HA.out (by simp [spec_l3Mine.l0])
  | succ k1 =>
   have H := HA.out
   clear HA
   simp only [spec_l3Mine.l0] at H
   by_cases c6 : x339004_1 ≤ 400
   rotate_left
   ·rw [if_neg c6] at H
    have c6b0 := decide_eq_false c6
    clear c6
    simp only [Option.some.injEq, Prod.mk.injEq] at H
    obtain ⟨rfl, rfl, rfl, rfl, rfl, rfl⟩ := H
    have hnb18 := NB338_339.out
    have hnc18 := NB339_338.out
    have hz19 := bc5 BK338
    have hz20 := bc5 BK339
    go_wp2
    refine bodyPost_ret (results_ct rfl _ _ gb339 23 #[.string (⟨#[]⟩ : ByteArray), .string (⟨#[]⟩ : ByteArray), .int .i64 0, .int .i64 0, .int .i64 0] (0, 0) _ rfl (fb BK339) Tryd.underlying23 rfl (by kernel_rfl)) rfl ?_
    exact ⟨xE, xB HB⟩
   rw [if_pos c6] at H
   have c6b0 := decide_eq_true c6
   clear c6
   replace H := oa H
   obtain ⟨t340, A7, H⟩ := H
   have hnb9 := NB338_339.out
   have hnc9 := NB339_338.out
   have hz10 := bc5 BK338
   go_upto_if 13 with ((with_reducible refine gg ?_); refine gL 13 Tryd.func141 #[.agg #[.string a0_0, .string a0_1, .int .i64 a0_2, .int .i64 a0_3, .int .i64 x339004_1]] ?_; (with_reducible refine (spec_l3Meets.calls k1 a0_0 a0_1 a0_2 a0_3 x339004_1 t340 _ A7.out).mono ?_); rintro e w11 ⟨rfl, hb⟩; refine ⟨_, rfl, ?_⟩; replace BK338 := kP _ BK338 hb; replace BK339 := kP _ BK339 hb; replace HB := kH HB hb; (try clear hb); have hz12 := bc5 BK338)
   by_cases c8 : t340 = true
   rotate_left
   ·replace c8 := Bool.eq_false_iff.mpr c8
    subst c8
    try simp only [Bool.not_true, Bool.not_false]
    rw [if_neg (show ¬ (false = true) by decide)] at H
    have H' := Aside0.mk H
    clear H
    go_wp2
    go_roundg k1
    case measure => have := HK1.out; omega
    case rel => exact ⟨(wrap64 (x339004_1 + 1)), (x340000_1), (x340001_1), (x340002_1), (x340003_1), (x340004_1), H', ⟨xL HK1⟩, ⟨fb BK338⟩, ⟨fb BK339⟩, ⟨xB HB⟩⟩
   subst c8
   try simp only [Bool.not_true, Bool.not_false]
   rw [if_pos rfl] at H
   simp only [Option.some.injEq, Prod.mk.injEq] at H
   obtain ⟨rfl, rfl, rfl, rfl, rfl, rfl⟩ := H
   have hz13 := bc5 BK339
   go_wp2
   refine bodyPost_ret (results_ct rfl _ _ gb339 23 #[.string a0_0, .string a0_1, .int .i64 a0_2, .int .i64 a0_3, .int .i64 x339004_1] (0, 0) _ rfl (fb BK339) Tryd.underlying23 rfl (by kernel_rfl)) rfl ?_
   exact ⟨xE, xB HB⟩
end Go.Proofs.YtgjljbaadglpnaaDoor.PFnHeadGet
