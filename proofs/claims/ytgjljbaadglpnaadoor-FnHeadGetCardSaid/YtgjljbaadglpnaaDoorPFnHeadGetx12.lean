/- Functions of the program and what each answers: the kit's print, shortened (wip/press2.py). -/
import Derived.Test.YtgjljbaadglpnaaDoorPFnHeadGetx0
import Derived.Test.YtgjljbaadglpnaaDoorPFnHeadGetx11
namespace Go.Proofs.YtgjljbaadglpnaaDoor.PFnHeadGet
open Go.Proofs.YtgjljbaadglpnaaDoor.Sq Go.RowKit Go.Proofs.YtgjljbaadglpnaaDoorW.PrintWords Go.Proofs.YtgjljbaadglpnaaDoorW.PrintLast Go.Proofs.YtgjljbaadglpnaaDoorW.PrintMore
attribute [local go_sem] max2_int min2_int max_two min_two max_three min_three max_four min_four   -- for this text's walks alone
set_option linter.unusedVariables false
set_option linter.unusedSimpArgs false
set_option maxHeartbeats 64000000
set_option maxRecDepth 100000
def spec_l3Row.l0 : Nat → List ByteArray → List ByteArray → Int → Option (List ByteArray)
 | 0, _, _, _ => none
 | k + 1, x0, x3, x4 => if x4 < (x0.length : Int) then (if 0 ≤ x4 then (if 5 + (rdOf ByteArray.empty x0 x4).size ≤ 9223372036854775807 then ((spec_l1Sum.f k ((⟨#[105, 116, 101, 109, 32]⟩ : ByteArray) ++ (rdOf ByteArray.empty x0 x4))).bind fun t304 => (if x3.length < 8796093022208 then (spec_l3Row.l0 k x0 (x3 ++ [t304]) (wrap64 (x4 + 1))) else (none))) else (none)) else (none)) else (some x3)
def spec_l3Row.f (k : Nat) (l0 : List ByteArray) : Option (List ByteArray) := spec_l3Row.l0 k l0 (([] : List ByteArray)) 0
theorem spec_l3Row.mono_l : ∀ k, (∀ y0 y1 y2, LeO (spec_l3Row.l0 k y0 y1 y2) (spec_l3Row.l0 (k + 1) y0 y1 y2))
 | 0 => fun _ _ _ r h => by simp [spec_l3Row.l0] at h
 | k + 1 => by
  have ih0 := spec_l3Row.mono_l k
  ·intro y0 y1 y2
   unfold spec_l3Row.l0
   exact mo2 ih0 spec_l1Sum.mono
theorem spec_l3Row.mono : ∀ a0 k, LeO (spec_l3Row.f k a0) (spec_l3Row.f (k + 1) a0) := by
 intro a0 k
 have ih0 := spec_l3Row.mono_l k
 unfold spec_l3Row.f
 exact mo2 ih0 spec_l1Sum.mono
theorem spec_l3Row.calls (k : Nat) (A0 : Option Addr) (c0 : Nat) (l0 : List ByteArray) (r : List ByteArray) (w : World) (hr0 : Kd.C Kd.string w A0 l0.length l0) (hc0 : l0.length ≤ c0) (h : spec_l3Row.f k l0 = some r) :
  Calls Tryd.prog 139 #[.slice A0 l0.length c0] w fun e w' => ∃ v0_ : Value, e = .returned (v0_) ∧ Kd.R Kd.string 9 w' w.heap.size (fun _ => True) v0_ r ∧ Below w.heap.size w w' := by
 have HR0 := Aside0.mk hr0
 have HC0 := Aside0.mk hc0
 clear hr0 hc0
 have HB := Aside0.mk (Below.refl w.heap.size w)
 have H : (spec_l3Row.l0 k l0 (([] : List ByteArray)) 0) = some r := h
 clear h
 obtain ⟨y300, Ny300⟩ := yA (([] : List ByteArray) : List ByteArray)
 rw [← Ny300.out] at H
 have H' := Aside0.mk H
 clear H
 go_enter Tryd.func139, Tryd.ntmps139
 go_wp2_with ((with_reducible refine gate_dst (N := 5) rfl ?_); refine Kd.R_lit Kd.string _ 9 ?hg (N := 5) ?hd (xs := ([] : List ByteArray)) (inner := []) (ok := fun _ => True) (okp := fun _ => True) ?hr ?hp (fun _ hk => hk) trivial (Below.refl _ _) (Nat.le_refl _) (by simp) ?_; (case hd => rfl); (case hg => rfl); (case hr => first | (go_simp; done) | (go_simp; rfl)); (case hp => exact xP); intro v301 w2 ho3 hb hg_ hnew_; clear hg_ hnew_; (first | rw [← Ny300.out] at ho3 | (simp only [Int.reduceToNat] at ho3; rw [← Ny300.out] at ho3)); have HO302 := am (Kd.R_lower ho3 (below_size (bl HB))); replace HB := kH HB hb; clear hb ho3)
 go_loopg [3, 4] k (fun kq v3 v4 w' => ∃ (x3_1 : List ByteArray) (x4_1 : Int), v4 = .int .i64 x4_1 ∧ Aside0 (spec_l3Row.l0 kq l0 x3_1 x4_1 = some r) ∧ Aside0 (kq ≤ k) ∧ Aside0 (Kd.R Kd.string 9 w' w.heap.size (fun _ => True) v3 x3_1) ∧ Aside0 (Below w.heap.size w w'))
 case atStart => exact ⟨(y300), (0), xR, H', ⟨Nat.le_refl _⟩, ⟨ra HO302⟩, ⟨bl HB⟩⟩
 case round =>
  clear H'
  try clear c1
  try clear p2
  obtain ⟨x3_1, x4_1, rfl, HA, HK1, HO_3, HB⟩ := hrel
  cases gk with
  | zero => exact absurd HA.out (by simp [spec_l3Row.l0])
  | succ k1 =>
   have H := HA.out
   clear HA
   simp only [spec_l3Row.l0] at H
   by_cases c4 : x4_1 < (l0.length : Int)
   rotate_left
   ·rw [if_neg c4] at H
    have c4b0 := decide_eq_false c4
    clear c4
    obtain rfl := Option.some.inj H
    go_wp2
    go_ret
    exact ⟨_, xE, ra HO_3, bl HB⟩
   rw [if_pos c4] at H
   have c4b0 := decide_eq_true c4
   clear c4
   replace H := ipd H
   obtain ⟨c5b0, H⟩ := H
   replace H := ip H
   obtain ⟨c6, H⟩ := H
   have c6b0 := eq_true c6
   have c6b1 := decide_eq_true c6
   have c6b2 := nf c6
   replace H := oa H
   obtain ⟨t304, A7, H⟩ := H
   replace H := ipa H
   obtain ⟨LMc8, H⟩ := H
   obtain ⟨y305, Ny305⟩ := yA (x3_1 ++ [t304] : List ByteArray)
   rw [← Ny305.out] at H
   have H' := Aside0.mk H
   clear H
   have p303 : 0 ≤ (x4_1 : Int) := of_decide_eq_true xA
   have q303 : x4_1 < (l0.length : Int) := of_decide_eq_true xA
   obtain ⟨ad303, e303, hx303_0⟩ := Kd.at_string HR0.out x4_1 p303 q303
   cases e303
   replace hx303_0 := hc HB hx303_0
   replace p303 := eq_true p303
   replace q303 := eq_true q303
   go_wp2_with (first | ((with_reducible refine gg ?_); refine gL 18 Tryd.func96 #[.string ((⟨#[105, 116, 101, 109, 32]⟩ : ByteArray) ++ (rdOf ByteArray.empty l0 x4_1))] ?_; (with_reducible refine (spec_l1Sum.calls k1 ((⟨#[105, 116, 101, 109, 32]⟩ : ByteArray) ++ (rdOf ByteArray.empty l0 x4_1)) t304 _ A7.out).mono ?_); rintro e w9 ⟨rfl, hb⟩; refine ⟨_, rfl, ?_⟩; replace HO_3 := rk HO_3 hb; replace HB := kH HB hb; (try clear hb)) | ((with_reducible refine gate_builtin (b := .append) (xs := #[.tmp 12, .tmp 19]) rfl ?_); at_builtin; refine Kd.R_append Kd.string (w0 := w) w.heap.size rfl (.tmp 12) (.tmp 19) 56 9 (.string ⟨#[]⟩) 16 rfl Tryd.underlying56 info9 rfl (by decide) (by omega) u3 x3_1 t304 [.string t304] (fun _ => True) (fun _ => False) rfl rfl ?aP (fun _ hk => hk.elim) ?aF ?aO ?aB ?aS ?aL ?_; (case aP => exact rfl); (case aB => exact (bl HB)); (case aF => exact (fun _ _ => trivial)); (case aO => exact (ra HO_3)); (case aS => exact (below_size (bl HB))); (case aL => have := LMc8.out; omega); intro v306 w10 ho hb hg hat; rw [← Ny305.out] at ho; have n0_ := Aside0.mk (hb); have n1_ := Aside0.mk (ho); clear HB; clear HO_3; have HB := n0_; have HO307 := n1_; clear n0_ n1_; clear ho hb hg hat))
   go_roundg k1
   case measure => have := HK1.out; omega
   case rel => exact ⟨(y305), (wrap64 (x4_1 + 1)), xR, H', ⟨xL HK1⟩, ⟨ra HO307⟩, ⟨bl HB⟩⟩
def spec_l3Up.l0 : Nat → List ByteArray → List ByteArray → Int → Option (List ByteArray)
 | 0, _, _, _ => none
 | k + 1, x0, x3, x4 => if x4 < (x0.length : Int) then (if (wrap64 (x4 + 1)) < (x0.length : Int) then (if 0 ≤ x4 then (if 5 + (rdOf ByteArray.empty x0 x4).size ≤ 9223372036854775807 then (if ((⟨#[98, 111, 116, 104, 32]⟩ : ByteArray) ++ (rdOf ByteArray.empty x0 x4)).size + 1 ≤ 9223372036854775807 then (if 0 ≤ (wrap64 (x4 + 1)) then (if (((⟨#[98, 111, 116, 104, 32]⟩ : ByteArray) ++ (rdOf ByteArray.empty x0 x4)) ++ (⟨#[32]⟩ : ByteArray)).size + (rdOf ByteArray.empty x0 (wrap64 (x4 + 1))).size ≤ 9223372036854775807 then ((spec_l1Sum.f k ((((⟨#[98, 111, 116, 104, 32]⟩ : ByteArray) ++ (rdOf ByteArray.empty x0 x4)) ++ (⟨#[32]⟩ : ByteArray)) ++ (rdOf ByteArray.empty x0 (wrap64 (x4 + 1))))).bind fun t313 => (if x3.length < 8796093022208 then (spec_l3Up.l0 k x0 (x3 ++ [t313]) (wrap64 (x4 + 2))) else (none))) else (none)) else (none)) else (none)) else (none)) else (none)) else (if 0 ≤ x4 then (if x3.length < 8796093022208 then (spec_l3Up.l0 k x0 (x3 ++ [rdOf ByteArray.empty x0 x4]) (wrap64 (x4 + 2))) else (none)) else (none))) else (some x3)
def spec_l3Up.f (k : Nat) (l0 : List ByteArray) : Option (List ByteArray) := spec_l3Up.l0 k l0 (([] : List ByteArray)) 0
theorem spec_l3Up.mono_l : ∀ k, (∀ y0 y1 y2, LeO (spec_l3Up.l0 k y0 y1 y2) (spec_l3Up.l0 (k + 1) y0 y1 y2))
 | 0 => fun _ _ _ r h => by simp [spec_l3Up.l0] at h
 | k + 1 => by
  have ih0 := spec_l3Up.mono_l k
  ·intro y0 y1 y2
   unfold spec_l3Up.l0
   exact mo2 ih0 spec_l1Sum.mono
theorem spec_l3Up.mono : ∀ a0 k, LeO (spec_l3Up.f k a0) (spec_l3Up.f (k + 1) a0) := by
 intro a0 k
 have ih0 := spec_l3Up.mono_l k
 unfold spec_l3Up.f
 exact mo2 ih0 spec_l1Sum.mono
def spec_l3Up.T6 : Bool × List (List Nat × List Nat) := (true, [([], []), ([], []), ([], []), ([1, 2], [1, 2]), ([3], [3]), ([4], [4]), ([5], [5]), ([], []), ([], []), ([8], [8]), ([7, 9], [7, 9]), ([10], [10]), ([6, 11], [6, 11]), ([12], [12]), ([13], [13]), ([0, 14, 13], [0, 14]), ([15, 15, 0, 1, 2, 3, 4, 5, 6, 7, 8, 9, 10, 11, 12, 13, 14, 15], [0, 15])])
def spec_l3Up.B6 : List Nat := [0, 0, 0, 6, 14, 30, 62, 0, 0, 256, 896, 1920, 4094, 8190, 16382, 32767, 65535]
theorem spec_l3Up.tab6 : rtab .any (opsOf Tryd.f140 6) = spec_l3Up.T6 := by kernel_rfl
theorem spec_l3Up.bits6 : waitsOk spec_l3Up.T6.2 spec_l3Up.B6 = true := by kernel_rfl
theorem spec_l3Up.calls (k : Nat) (A0 : Option Addr) (c0 : Nat) (l0 : List ByteArray) (r : List ByteArray) (w : World) (hr0 : Kd.C Kd.string w A0 l0.length l0) (hc0 : l0.length ≤ c0) (h : spec_l3Up.f k l0 = some r) :
  Calls Tryd.prog 140 #[.slice A0 l0.length c0] w fun e w' => ∃ v0_ : Value, e = .returned (v0_) ∧ Kd.R Kd.string 9 w' w.heap.size (fun _ => True) v0_ r ∧ Below w.heap.size w w' := by
 have HR0 := Aside0.mk hr0
 have HC0 := Aside0.mk hc0
 clear hr0 hc0
 have HB := Aside0.mk (Below.refl w.heap.size w)
 have H : (spec_l3Up.l0 k l0 (([] : List ByteArray)) 0) = some r := h
 clear h
 obtain ⟨y308, Ny308⟩ := yA (([] : List ByteArray) : List ByteArray)
 rw [← Ny308.out] at H
 have H' := Aside0.mk H
 clear H
 go_enter Tryd.func140, Tryd.ntmps140
 go_wp2_with ((with_reducible refine gate_dst (N := 5) rfl ?_); refine Kd.R_lit Kd.string _ 9 ?hg (N := 5) ?hd (xs := ([] : List ByteArray)) (inner := []) (ok := fun _ => True) (okp := fun _ => True) ?hr ?hp (fun _ hk => hk) trivial (Below.refl _ _) (Nat.le_refl _) (by simp) ?_; (case hd => rfl); (case hg => rfl); (case hr => first | (go_simp; done) | (go_simp; rfl)); (case hp => exact xP); intro v309 w2 ho3 hb hg_ hnew_; clear hg_ hnew_; (first | rw [← Ny308.out] at ho3 | (simp only [Int.reduceToNat] at ho3; rw [← Ny308.out] at ho3)); have HO310 := am (Kd.R_lower ho3 (below_size (bl HB))); replace HB := kH HB hb; clear hb ho3)
 go_loopg [3, 4] k (fun kq v3 v4 w' => ∃ (x3_1 : List ByteArray) (x4_1 : Int), v4 = .int .i64 x4_1 ∧ Aside0 (spec_l3Up.l0 kq l0 x3_1 x4_1 = some r) ∧ Aside0 (kq ≤ k) ∧ Aside0 (Kd.R Kd.string 9 w' w.heap.size (fun _ => True) v3 x3_1) ∧ Aside0 (Below w.heap.size w w'))
 case atStart => exact ⟨(y308), (0), xR, H', ⟨Nat.le_refl _⟩, ⟨ra HO310⟩, ⟨bl HB⟩⟩
 case round =>
  clear H'
  try clear c1
  try clear p2
  obtain ⟨x3_1, x4_1, rfl, HA, HK1, HO_3, HB⟩ := hrel
  cases gk with
  | zero => exact absurd HA.out (by simp [spec_l3Up.l0])
  | succ k1 =>
   have H := HA.out
   clear HA
   simp only [spec_l3Up.l0] at H
   by_cases c4 : x4_1 < (l0.length : Int)
   rotate_left
   ·rw [if_neg c4] at H
    have c4b0 := decide_eq_false c4
    clear c4
    obtain rfl := Option.some.inj H
    go_wp2
    go_ret
    exact ⟨_, xE, ra HO_3, bl HB⟩
   rw [if_pos c4] at H
   have c4b0 := decide_eq_true c4
   clear c4
   by_cases c5 : (wrap64 (x4_1 + 1)) < (l0.length : Int)
   rotate_left
   ·rw [if_neg c5] at H
    have c5b0 := decide_eq_false c5
    clear c5
    replace H := ipd H
    obtain ⟨c17b0, H⟩ := H
    replace H := ipa H
    obtain ⟨LMc18, H⟩ := H
    obtain ⟨y318, Ny318⟩ := yA (x3_1 ++ [rdOf ByteArray.empty l0 x4_1] : List ByteArray)
    rw [← Ny318.out] at H
    have H' := Aside0.mk H
    clear H
    have p317 : 0 ≤ (x4_1 : Int) := of_decide_eq_true xA
    have q317 : x4_1 < (l0.length : Int) := of_decide_eq_true xA
    obtain ⟨ad317, e317, hx317_0⟩ := Kd.at_string HR0.out x4_1 p317 q317
    cases e317
    replace hx317_0 := hc HB hx317_0
    replace p317 := eq_true p317
    replace q317 := eq_true q317
    go_wp2_with ((with_reducible refine gate_builtin (b := .append) (xs := #[.tmp 33, .tmp 38]) rfl ?_); at_builtin; refine Kd.R_append Kd.string (w0 := w) w.heap.size rfl (.tmp 33) (.tmp 38) 56 9 (.string ⟨#[]⟩) 16 rfl Tryd.underlying56 info9 rfl (by decide) (by omega) u3 x3_1 (rdOf ByteArray.empty l0 x4_1) [.string (rdOf ByteArray.empty l0 x4_1)] (fun _ => True) (fun _ => False) rfl rfl ?aP (fun _ hk => hk.elim) ?aF ?aO ?aB ?aS ?aL ?_; (case aP => exact rfl); (case aB => exact (bl HB)); (case aF => exact (fun _ _ => trivial)); (case aO => exact (ra HO_3)); (case aS => exact (below_size (bl HB))); (case aL => have := LMc18.out; omega); intro v319 w19 ho hb hg hat; rw [← Ny318.out] at ho; have n0_ := Aside0.mk (hb); have n1_ := Aside0.mk (ho); clear HB; clear HO_3; have HB := n0_; have HO320 := n1_; clear n0_ n1_; clear ho hb hg hat)
    go_roundg k1
    case measure => have := HK1.out; omega
    case rel => exact ⟨(y318), (wrap64 (x4_1 + 2)), xR, H', ⟨xL HK1⟩, ⟨ra HO320⟩, ⟨bl HB⟩⟩
   rw [if_pos c5] at H
   have c5b0 := decide_eq_true c5
   clear c5
   replace H := ipd H
   obtain ⟨c6b0, H⟩ := H
   replace H := ip H
   obtain ⟨c7, H⟩ := H
   have c7b0 := eq_true c7
   have c7b1 := decide_eq_true c7
   have c7b2 := nf c7
   replace H := ip H
   obtain ⟨c8, H⟩ := H
   have c8b0 := eq_true c8
   have c8b1 := decide_eq_true c8
   have c8b2 := nf c8
   try (have c8b3 := c8b2; simp only [ByteArray.size_append, show (⟨#[98, 111, 116, 104, 32]⟩ : ByteArray).size = 5 from rfl] at c8b3)
   obtain ⟨ji9, hji9⟩ := je (wrap64 (x4_1 + 1))
   first | rw [hji9] at H | simp only [hji9] at H
   (try rw [hji9] at c5b0)
   have hji9w : (IntKind.i64.wrap (x4_1 + 1)) = ji9 := (i64_w _).trans hji9
   replace H := ipd H
   obtain ⟨c10b0, H⟩ := H
   replace H := ip H
   obtain ⟨c11, H⟩ := H
   have c11b0 := eq_true c11
   have c11b1 := decide_eq_true c11
   have c11b2 := nf c11
   try (have c11b3 := c11b2; simp only [ByteArray.size_append, show (⟨#[32]⟩ : ByteArray).size = 1 from rfl, show (⟨#[98, 111, 116, 104, 32]⟩ : ByteArray).size = 5 from rfl] at c11b3)
   replace H := oa H
   obtain ⟨t313, A12, H⟩ := H
   replace H := ipa H
   obtain ⟨LMc13, H⟩ := H
   obtain ⟨y314, Ny314⟩ := yA (x3_1 ++ [t313] : List ByteArray)
   rw [← Ny314.out] at H
   have H' := Aside0.mk H
   clear H
   try go_wp2
   replace HO_3 := am (Kd.R_drew HO_3.out)
   replace HB := am (below_drew1 HB.out)
   have p311 : 0 ≤ (x4_1 : Int) := of_decide_eq_true xA
   have q311 : x4_1 < (l0.length : Int) := of_decide_eq_true xA
   obtain ⟨ad311, e311, hx311_0⟩ := Kd.at_string HR0.out x4_1 p311 q311
   have hw311_0 := hx311_0
   cases e311
   replace hx311_0 := hc HB hx311_0
   replace p311 := eq_true p311
   replace q311 := eq_true q311
   have p312 : 0 ≤ ((ji9) : Int) := of_decide_eq_true xA
   have q312 : (ji9) < (l0.length : Int) := of_decide_eq_true xA
   obtain ⟨ad312, e312, hx312_0⟩ := Kd.at_string HR0.out (ji9) p312 q312
   have hw312_0 := hx312_0
   obtain rfl : ad311 = ad312 := (by injection e312)
   replace hx312_0 := hc HB hx312_0
   replace p312 := eq_true p312
   replace q312 := eq_true q312
   refine start_ (n := 17) (S := fun w' => w'.cell? (ad311.add (x4_1).toNat) = some (.string (rdOf ByteArray.empty l0 x4_1)) ∧ w'.cell? (ad311.add ((ji9)).toNat) = some (.string (rdOf ByteArray.empty l0 (ji9)))) (ds := []) (bm 17 0) (by kernel_rfl) rfl rfl ⟨(hd HB hw311_0), (hd HB hw312_0)⟩ (fun hHeld => ?_); refine with_tabW spec_l3Up.tab6 spec_l3Up.bits6 (fun HT_ HW_ => ?_)
   generalize wr.drew = w14 at HO_3 HB hx311_0 hx312_0 hHeld ⊢
   refine pA 0 17 (bm 17 1) HT_ ?_
   refine pA 1 18 (bm 17 3) HT_ ?_
   refine pA 2 19 (bm 17 7) HT_ ?_
   refine pA 3 20 (bm 17 15) HT_ ?_
   refine pA 7 24 (bm 17 143) HT_ ?_
   refine pA 8 25 (bm 17 399) HT_ ?_
   refine pA 9 26 (bm 17 911) HT_ ?_
   refine pA 10 27 (bm 17 1935) HT_ ?_
   refine tA 4 21 (bm 17 1951) HT_ HW_ hHeld ?_
   refine pA 5 22 (bm 17 1983) HT_ ?_
   refine pA 6 23 (bm 17 2047) HT_ ?_
   refine tA 11 28 (bm 17 4095) HT_ HW_ hHeld ?_
   refine pA 12 29 (bm 17 8191) HT_ ?_
   refine oA 13 (some 30) (bm 17 16383) HT_ fun K hK => ?_
   refine goes_ Tryd.func96 (by kernel_rfl) rfl #[.string ((((⟨#[98, 111, 116, 104, 32]⟩ : ByteArray) ++ (rdOf ByteArray.empty l0 x4_1)) ++ (⟨#[32]⟩ : ByteArray)) ++ (rdOf ByteArray.empty l0 (ji9)))] (by rfl) rfl rfl (by (try simp only [List.map_toArray, List.map_cons, List.map_nil]); first | done | (simp only [hji9]; rfl) | rfl | (simp only [List.length_drop, List.length_take]; rfl)) ?_
   with_reducible refine (spec_l1Sum.calls k1 ((((⟨#[98, 111, 116, 104, 32]⟩ : ByteArray) ++ (rdOf ByteArray.empty l0 x4_1)) ++ (⟨#[32]⟩ : ByteArray)) ++ (rdOf ByteArray.empty l0 (ji9))) t313 _ A12.out).mono ?_
   rintro e w15 ⟨rfl, hb⟩
   refine ⟨_, rfl, ?_⟩
   replace HO_3 := rk HO_3 hb
   replace HB := kH HB hb
   (try clear hb)
   (try clear hb2)
   (try clear hk)
   (try clear hi)
   refine hK.out _ _ ⟨(hd HB hw311_0), (hd HB hw312_0)⟩ (fun hHeld => ?_)
   clear hK K
   refine nA (some 30) ?_
   refine oA 14 (some 31) (bm 17 32767) HT_ fun K hK => ?_
   refine value_ (w1 := ?_) (v := ?_) (by rfl) rfl ?_ ?_
   rotate_left 2
   ·go_simp
    constructor
    ·rfl
    ·rfl
   refine hK.out _ _ ⟨ca (hd HB hw311_0), ca (hd HB hw312_0)⟩ (fun hHeld => ?_)
   clear hK K
   refine nA (some 31) ?_
   refine oA 15 (some 32) (bm 17 65535) HT_ fun K hK => ?_
   refine Kd.R_append_step Kd.string (w0 := w) w.heap.size (by rfl) (.tmp 17) (.tmp 31) 56 9 (.string ⟨#[]⟩) 16 rfl Tryd.underlying56 info9 rfl (by decide) (by omega) u3 x3_1 t313 [.string t313] (fun _ => True) (fun _ => False) rfl rfl ?aP (fun _ hk => hk.elim) ?aF ?aO ?aB ?aS ?aL ?_
   (case aP => exact rfl)
   (case aB => exact (bl HB))
   (case aF => exact (fun _ _ => trivial))
   (case aO => exact (ra HO_3))
   (case aS => exact (below_size (bl HB)))
   (case aL => have := LMc13.out; omega)
   intro v315 w16 ho hb hg hat
   rw [← Ny314.out] at ho
   have n0_ := Aside0.mk (hb)
   have n1_ := Aside0.mk (ho)
   clear HB
   clear HO_3
   have HB := n0_
   have HO316 := n1_
   clear n0_ n1_
   clear ho hb hg hat
   refine hK.out _ _ ⟨(hd HB hw311_0), (hd HB hw312_0)⟩ (fun hHeld => ?_)
   clear hK K
   refine nA (some 32) ?_
   refine pA 16 3 (bm 17 131071) HT_ ?_
   refine done_ (done_of HT_.out (by kernel_rfl)) ?_
   try go_wp2
   go_roundg k1
   case measure => have := HK1.out; omega
   case rel => exact ⟨(y314), (wrap64 (x4_1 + 2)), xR, H', ⟨xL HK1⟩, ⟨ra HO316⟩, ⟨bl HB⟩⟩
def spec_l3Root.l0 : Nat → List ByteArray → Option (ByteArray)
 | 0, _ => none
 | k + 1, x3 => if (x3.length : Int) > 1 then ((spec_l3Up.f k x3).bind fun t325 => (spec_l3Root.l0 k t325)) else (if 0 < (x3.length : Int) then (some (rdOf ByteArray.empty x3 0)) else (none))
def spec_l3Root.f (k : Nat) (l0 : List ByteArray) : Option (ByteArray) := (spec_l3Row.f k l0).bind fun t321 => (if (t321.length : Int) = 0 then ((spec_l1Sum.f k (⟨#[]⟩ : ByteArray)).bind fun t324 => (some t324)) else (spec_l3Root.l0 k t321))
theorem spec_l3Root.mono_l : ∀ k, (∀ y0, LeO (spec_l3Root.l0 k y0) (spec_l3Root.l0 (k + 1) y0))
 | 0 => fun _ r h => by simp [spec_l3Root.l0] at h
 | k + 1 => by
  have ih0 := spec_l3Root.mono_l k
  ·intro y0
   unfold spec_l3Root.l0
   exact mo4 ih0 spec_l1Sum.mono spec_l3Row.mono spec_l3Up.mono
theorem spec_l3Root.mono : ∀ a0 k, LeO (spec_l3Root.f k a0) (spec_l3Root.f (k + 1) a0) := by
 intro a0 k
 have ih0 := spec_l3Root.mono_l k
 unfold spec_l3Root.f
 exact mo4 ih0 spec_l1Sum.mono spec_l3Row.mono spec_l3Up.mono
theorem spec_l3Root.calls (k : Nat) (A0 : Option Addr) (c0 : Nat) (l0 : List ByteArray) (r : ByteArray) (w : World) (hr0 : Kd.C Kd.string w A0 l0.length l0) (hc0 : l0.length ≤ c0) (h : spec_l3Root.f k l0 = some r) :
  Calls Tryd.prog 134 #[.slice A0 l0.length c0] w fun e w' => e = .returned (.string r) ∧ Below w.heap.size w w' := by
 have HR0 := Aside0.mk hr0
 have HC0 := Aside0.mk hc0
 clear hr0 hc0
 have HB := Aside0.mk (Below.refl w.heap.size w)
 have H : ((spec_l3Row.f k l0).bind fun t321 => (if (t321.length : Int) = 0 then ((spec_l1Sum.f k (⟨#[]⟩ : ByteArray)).bind fun t324 => (some t324)) else (spec_l3Root.l0 k t321))) = some r := h
 clear h
 replace H := oa H
 obtain ⟨t321, A2, H⟩ := H
 go_enter Tryd.func134, Tryd.ntmps134
 go_upto_if 8 with ((with_reducible refine gg ?_); refine gL 5 Tryd.func139 #[.slice A0 l0.length c0] ?_; (with_reducible refine (spec_l3Row.calls k _ _ l0 t321 _ ?side1 ?side2 A2.out).mono ?_); (case side1 => exact cr HR0.out); (case side2 => exact HC0.out); rintro e w5 ⟨v322, rfl, ho0, hb⟩; refine ⟨_, rfl, ?_⟩; have HO323 := am (Kd.R_lower ho0 (below_size (bl HB))); replace HB := kH HB hb; (try clear hb); (try clear ho0); obtain ⟨Ao6, co6, eo6⟩ := Kd.R_slice HO323.out; subst eo6)
 by_cases c3 : (t321.length : Int) = 0
 ·rw [if_pos c3] at H
  have c3b0 := beq_iff_eq.mpr c3
  have c3b1 := bne_eq_false_iff_eq.mpr c3
  try simp only [c3b0, c3b1, Bool.not_true, Bool.not_false]
  clear c3
  replace H := oa H
  obtain ⟨t324, A4, H⟩ := H
  obtain rfl := Option.some.inj H
  go_wp2_with ((with_reducible refine gg ?_); refine gL 9 Tryd.func96 #[.string (⟨#[]⟩ : ByteArray)] ?_; (with_reducible refine (spec_l1Sum.calls k (⟨#[]⟩ : ByteArray) t324 _ A4.out).mono ?_); rintro e w7 ⟨rfl, hb⟩; refine ⟨_, rfl, ?_⟩; replace HO323 := rk HO323 hb; replace HB := kH HB hb; (try clear hb))
  go_ret
  exact ⟨xE, bl HB⟩
 rw [if_neg c3] at H
 have c3b0 := beq_eq_false_iff_ne.mpr c3
 have c3b1 := bne_iff_ne.mpr c3
 have c3b2 : ¬ (t321 = []) := fun h_ => c3 (by rw [h_]; rfl)
 try simp only [c3b0, c3b1, c3b2, Bool.not_true, Bool.not_false]
 have H' := Aside0.mk H
 clear H
 go_wp2
 go_loopg [3] k (fun kq v3 w' => ∃ (x3_1 : List ByteArray), Aside0 (spec_l3Root.l0 kq x3_1 = some r) ∧ Aside0 (kq ≤ k) ∧ Aside0 (Kd.R Kd.string 9 w' w.heap.size (fun _ => True) v3 x3_1) ∧ Aside0 (Below w.heap.size w w'))
 case atStart => exact ⟨(t321), H', ⟨Nat.le_refl _⟩, ⟨ra HO323⟩, ⟨bl HB⟩⟩
 case round =>
  clear H'
  try clear c1
  try clear p2
  try clear c3
  try clear c3b0
  try clear c3b1
  try clear c3b2
  try clear c9
  obtain ⟨x3_1, HA, HK1, HO_3, HB⟩ := hrel
  cases gk with
  | zero => exact absurd HA.out (by simp [spec_l3Root.l0])
  | succ k1 =>
   have H := HA.out
   clear HA
   simp only [spec_l3Root.l0] at H
   by_cases c10 : (x3_1.length : Int) > 1
   rotate_left
   ·rw [if_neg c10] at H
    have c10b0 := decide_eq_false c10
    have c10b1 : decide (1 < x3_1.length) = false := decide_eq_false (by omega)
    clear c10
    replace H := ip H
    obtain ⟨c14, H⟩ := H
    have c14b0 := decide_eq_true c14
    have c14b1 : decide (0 < x3_1.length) = true := decide_eq_true (by omega)
    clear c14
    obtain rfl := Option.some.inj H
    obtain ⟨Ao15, co15, eo15⟩ := Kd.R_slice HO_3.out
    subst eo15
    have p328 : 0 ≤ (0 : Int) := (by omega)
    have q328 : 0 < (x3_1.length : Int) := of_decide_eq_true xA
    obtain ⟨ad328, e328, hx328_0⟩ := Kd.at_string (Kd.R_reads' HO_3.out).2.2 0 p328 q328
    cases e328
    have qi328 : (0 < x3_1.length) = True := eq_true (by omega)
    (try rw [show ((0 : Int)).toNat = 0 from rfl] at hx328_0)
    (try rw [Addr.add_zero'] at hx328_0)
    replace p328 := eq_true p328
    replace q328 := eq_true q328
    go_wp2
    go_ret
    exact ⟨xE, bl HB⟩
   rw [if_pos c10] at H
   have c10b0 := decide_eq_true c10
   have c10b1 : decide (1 < x3_1.length) = true := decide_eq_true (by omega)
   clear c10
   replace H := oa H
   obtain ⟨t325, A11, H⟩ := H
   have H' := Aside0.mk H
   clear H
   obtain ⟨Ao12, co12, eo12⟩ := Kd.R_slice HO_3.out
   subst eo12
   go_wp2_with ((with_reducible refine gg ?_); refine gL 14 Tryd.func140 #[.slice Ao12 x3_1.length co12] ?_; (with_reducible refine (spec_l3Up.calls k1 _ _ x3_1 t325 _ ?side1 ?side2 A11.out).mono ?_); (case side1 => exact cr (Kd.R_reads' HO_3.out).2.2); (case side2 => exact sl HO_3); rintro e w13 ⟨v326, rfl, ho0, hb⟩; refine ⟨_, rfl, ?_⟩; have HO327 := am (Kd.R_lower (Kd.R_new' ho0 (Kd.R_lt (ra HO_3))) (below_size (bl HB))); replace HO_3 := am (Kd.R_elder' (ra HO_3) (Kd.R_base ho0) hb); replace HB := kH HB hb; (try clear hb); (try clear ho0))
   go_roundg k1
   case measure => have := HK1.out; omega
   case rel => exact ⟨(t325), H', ⟨xL HK1⟩, ⟨rM HO327 (fun _ hk => trivial)⟩, ⟨bl HB⟩⟩
end Go.Proofs.YtgjljbaadglpnaaDoor.PFnHeadGet
