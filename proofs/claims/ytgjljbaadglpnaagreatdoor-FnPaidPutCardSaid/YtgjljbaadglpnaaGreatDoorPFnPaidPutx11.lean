/- Functions of the program and what each answers: the kit's print, shortened (wip/press2.py). -/
import Derived.Test.YtgjljbaadglpnaaGreatDoorPFnPaidPutx0
import Derived.Test.YtgjljbaadglpnaaGreatDoorPFnPaidPutx8
namespace Go.Proofs.YtgjljbaadglpnaaGreatDoor.PFnPaidPut
open Go.Proofs.YtgjljbaadglpnaaGreatDoor.Sq Go.RowKit Go.Proofs.YtgjljbaadglpnaaGreatDoorW.PrintWords Go.Proofs.YtgjljbaadglpnaaGreatDoorW.PrintLast Go.Proofs.YtgjljbaadglpnaaGreatDoorW.PrintMore
attribute [local go_sem] max2_int min2_int max_two min_two max_three min_three max_four min_four   -- for this text's walks alone
set_option linter.unusedVariables false
set_option linter.unusedSimpArgs false
set_option maxHeartbeats 64000000
set_option maxRecDepth 100000
def spec_l3Up.l0 : Nat → List ByteArray → List ByteArray → Int → Option (List ByteArray)
 | 0, _, _, _ => none
 | k + 1, x0, x3, x4 => if x4 < (x0.length : Int) then (if (wrap64 (x4 + 1)) < (x0.length : Int) then (if 0 ≤ x4 then (if 5 + (rdOf ByteArray.empty x0 x4).size ≤ 9223372036854775807 then (if ((⟨#[98, 111, 116, 104, 32]⟩ : ByteArray) ++ (rdOf ByteArray.empty x0 x4)).size + 1 ≤ 9223372036854775807 then (if 0 ≤ (wrap64 (x4 + 1)) then (if (((⟨#[98, 111, 116, 104, 32]⟩ : ByteArray) ++ (rdOf ByteArray.empty x0 x4)) ++ (⟨#[32]⟩ : ByteArray)).size + (rdOf ByteArray.empty x0 (wrap64 (x4 + 1))).size ≤ 9223372036854775807 then ((spec_l1Sum.f k ((((⟨#[98, 111, 116, 104, 32]⟩ : ByteArray) ++ (rdOf ByteArray.empty x0 x4)) ++ (⟨#[32]⟩ : ByteArray)) ++ (rdOf ByteArray.empty x0 (wrap64 (x4 + 1))))).bind fun t216 => (if x3.length < 8796093022208 then (spec_l3Up.l0 k x0 (x3 ++ [t216]) (wrap64 (x4 + 2))) else (none))) else (none)) else (none)) else (none)) else (none)) else (none)) else (if 0 ≤ x4 then (if x3.length < 8796093022208 then (spec_l3Up.l0 k x0 (x3 ++ [rdOf ByteArray.empty x0 x4]) (wrap64 (x4 + 2))) else (none)) else (none))) else (some x3)
def spec_l3Up.f (k : Nat) (l0 : List ByteArray) : Option (List ByteArray) := spec_l3Up.l0 k l0 (([] : List ByteArray)) 0
theorem spec_l3Up.mono_l : ∀ k, (∀ y0 y1 y2, LeO (spec_l3Up.l0 k y0 y1 y2) (spec_l3Up.l0 (k + 1) y0 y1 y2))
 | 0 => fun _ _ _ r h => by simp [spec_l3Up.l0] at h
 | k + 1 => by
  have ih0 := spec_l3Up.mono_l k
  ·intro y0 y1 y2
   unfold spec_l3Up.l0
   exact mo2 ih0 spec_l1Sum.mono
theorem spec_l3Up.mono : ∀ a0 k, LeO (spec_l3Up.f k a0) (spec_l3Up.f (k + 1) a0) := by
 intro a0 k
 have ih0 := spec_l3Up.mono_l k
 unfold spec_l3Up.f
 exact mo2 ih0 spec_l1Sum.mono
def spec_l3Up.T6 : Bool × List (List Nat × List Nat) := (true, [([], []), ([], []), ([], []), ([1, 2], [1, 2]), ([3], [3]), ([4], [4]), ([5], [5]), ([], []), ([], []), ([8], [8]), ([7, 9], [7, 9]), ([10], [10]), ([6, 11], [6, 11]), ([12], [12]), ([13], [13]), ([0, 14, 13], [0, 14]), ([15, 15, 0, 1, 2, 3, 4, 5, 6, 7, 8, 9, 10, 11, 12, 13, 14, 15], [0, 15])])
def spec_l3Up.B6 : List Nat := [0, 0, 0, 6, 14, 30, 62, 0, 0, 256, 896, 1920, 4094, 8190, 16382, 32767, 65535]
theorem spec_l3Up.tab6 : rtab .any (opsOf Tryz.f94 6) = spec_l3Up.T6 := by kernel_rfl
theorem spec_l3Up.bits6 : waitsOk spec_l3Up.T6.2 spec_l3Up.B6 = true := by kernel_rfl
theorem spec_l3Up.calls (k : Nat) (A0 : Option Addr) (c0 : Nat) (l0 : List ByteArray) (r : List ByteArray) (w : World) (hr0 : Kd.C Kd.string w A0 l0.length l0) (hc0 : l0.length ≤ c0) (h : spec_l3Up.f k l0 = some r) :
  Calls Tryz.prog 94 #[.slice A0 l0.length c0] w fun e w' => ∃ v0_ : Value, e = .returned (v0_) ∧ Kd.R Kd.string 9 w' w.heap.size (fun _ => True) v0_ r ∧ Below w.heap.size w w' := by
 have HR0 := Aside0.mk hr0
 have HC0 := Aside0.mk hc0
 clear hr0 hc0
 have HB := Aside0.mk (Below.refl w.heap.size w)
 have H : (spec_l3Up.l0 k l0 (([] : List ByteArray)) 0) = some r := h
 clear h
 obtain ⟨y211, Ny211⟩ := yA (([] : List ByteArray) : List ByteArray)
 rw [← Ny211.out] at H
 have H' := Aside0.mk H
 clear H
 go_enter Tryz.func94, Tryz.ntmps94
 go_wp2_with ((with_reducible refine gate_dst (N := 5) rfl ?_); refine Kd.R_lit Kd.string _ 9 ?hg (N := 5) ?hd (xs := ([] : List ByteArray)) (inner := []) (ok := fun _ => True) (okp := fun _ => True) ?hr ?hp (fun _ hk => hk) trivial (Below.refl _ _) (Nat.le_refl _) (by simp) ?_; (case hd => rfl); (case hg => rfl); (case hr => first | (go_simp; done) | (go_simp; rfl)); (case hp => exact xP); intro v212 w2 ho3 hb hg_ hnew_; clear hg_ hnew_; (first | rw [← Ny211.out] at ho3 | (simp only [Int.reduceToNat] at ho3; rw [← Ny211.out] at ho3)); have HO213 := am (Kd.R_lower ho3 (below_size (bl HB))); replace HB := kH HB hb; clear hb ho3)
 go_loopg [3, 4] k (fun kq v3 v4 w' => ∃ (x3_1 : List ByteArray) (x4_1 : Int), v4 = .int .i64 x4_1 ∧ Aside0 (spec_l3Up.l0 kq l0 x3_1 x4_1 = some r) ∧ Aside0 (kq ≤ k) ∧ Aside0 (Kd.R Kd.string 9 w' w.heap.size (fun _ => True) v3 x3_1) ∧ Aside0 (Below w.heap.size w w'))
 case atStart => exact ⟨(y211), (0), xR, H', ⟨Nat.le_refl _⟩, ⟨ra HO213⟩, ⟨bl HB⟩⟩
 case round =>
  clear H'
  try clear p2
  obtain ⟨x3_1, x4_1, rfl, HA, HK1, HO_3, HB⟩ := hrel
  cases gk with
  | zero => exact absurd HA.out (by simp [spec_l3Up.l0])
  | succ k1 =>
   have H := HA.out
   clear HA
   simp only [spec_l3Up.l0] at H
   by_cases c4 : x4_1 < (l0.length : Int)
   rotate_left
   ·rw [if_neg c4] at H
    have c4b0 := decide_eq_false c4
    clear c4
    obtain rfl := Option.some.inj H
    go_wp2
    go_ret
    exact ⟨_, xE, ra HO_3, bl HB⟩
   rw [if_pos c4] at H
   have c4b0 := decide_eq_true c4
   clear c4
   by_cases c5 : (wrap64 (x4_1 + 1)) < (l0.length : Int)
   rotate_left
   ·rw [if_neg c5] at H
    have c5b0 := decide_eq_false c5
    clear c5
    replace H := ipd H
    obtain ⟨c17b0, H⟩ := H
    replace H := ipa H
    obtain ⟨LMc18, H⟩ := H
    obtain ⟨y221, Ny221⟩ := yA (x3_1 ++ [rdOf ByteArray.empty l0 x4_1] : List ByteArray)
    rw [← Ny221.out] at H
    have H' := Aside0.mk H
    clear H
    have p220 : 0 ≤ (x4_1 : Int) := of_decide_eq_true xA
    have q220 : x4_1 < (l0.length : Int) := of_decide_eq_true xA
    obtain ⟨ad220, e220, hx220_0⟩ := Kd.at_string HR0.out x4_1 p220 q220
    cases e220
    replace hx220_0 := hc HB hx220_0
    replace p220 := eq_true p220
    replace q220 := eq_true q220
    go_wp2_with ((with_reducible refine gate_builtin (b := .append) (xs := #[.tmp 33, .tmp 38]) rfl ?_); at_builtin; refine Kd.R_append Kd.string (w0 := w) w.heap.size rfl (.tmp 33) (.tmp 38) 53 9 (.string ⟨#[]⟩) 16 rfl Tryz.underlying53 info9 rfl (by decide) (by omega) u3 x3_1 (rdOf ByteArray.empty l0 x4_1) [.string (rdOf ByteArray.empty l0 x4_1)] (fun _ => True) (fun _ => False) rfl rfl ?aP (fun _ hk => hk.elim) ?aF ?aO ?aB ?aS ?aL ?_; (case aP => exact rfl); (case aB => exact (bl HB)); (case aF => exact (fun _ _ => trivial)); (case aO => exact (ra HO_3)); (case aS => exact (below_size (bl HB))); (case aL => have := LMc18.out; omega); intro v222 w19 ho hb hg hat; rw [← Ny221.out] at ho; have n0_ := Aside0.mk (hb); have n1_ := Aside0.mk (ho); clear HB; clear HO_3; have HB := n0_; have HO223 := n1_; clear n0_ n1_; clear ho hb hg hat)
    go_roundg k1
    case measure => have := HK1.out; omega
    case rel => exact ⟨(y221), (wrap64 (x4_1 + 2)), xR, H', ⟨xL HK1⟩, ⟨ra HO223⟩, ⟨bl HB⟩⟩
   rw [if_pos c5] at H
   have c5b0 := decide_eq_true c5
   clear c5
   replace H := ipd H
   obtain ⟨c6b0, H⟩ := H
   replace H := ip H
   obtain ⟨c7, H⟩ := H
   have c7b0 := eq_true c7
   have c7b1 := decide_eq_true c7
   have c7b2 := nf c7
   replace H := ip H
   obtain ⟨c8, H⟩ := H
   have c8b0 := eq_true c8
   have c8b1 := decide_eq_true c8
   have c8b2 := nf c8
   try (have c8b3 := c8b2; simp only [ByteArray.size_append, show (⟨#[98, 111, 116, 104, 32]⟩ : ByteArray).size = 5 from rfl] at c8b3)
   obtain ⟨ji9, hji9⟩ := je (wrap64 (x4_1 + 1))
   first | rw [hji9] at H | simp only [hji9] at H
   (try rw [hji9] at c5b0)
   have hji9w : (IntKind.i64.wrap (x4_1 + 1)) = ji9 := (i64_w _).trans hji9
   replace H := ipd H
   obtain ⟨c10b0, H⟩ := H
   replace H := ip H
   obtain ⟨c11, H⟩ := H
   have c11b0 := eq_true c11
   have c11b1 := decide_eq_true c11
   have c11b2 := nf c11
   try (have c11b3 := c11b2; simp only [ByteArray.size_append, show (⟨#[32]⟩ : ByteArray).size = 1 from rfl, show (⟨#[98, 111, 116, 104, 32]⟩ : ByteArray).size = 5 from rfl] at c11b3)
   replace H := oa H
   obtain ⟨t216, A12, H⟩ := H
   replace H := ipa H
   obtain ⟨LMc13, H⟩ := H
   obtain ⟨y217, Ny217⟩ := yA (x3_1 ++ [t216] : List ByteArray)
   rw [← Ny217.out] at H
   have H' := Aside0.mk H
   clear H
   try go_wp2
   replace HO_3 := am (Kd.R_drew HO_3.out)
   replace HB := am (below_drew1 HB.out)
   have p214 : 0 ≤ (x4_1 : Int) := of_decide_eq_true xA
   have q214 : x4_1 < (l0.length : Int) := of_decide_eq_true xA
   obtain ⟨ad214, e214, hx214_0⟩ := Kd.at_string HR0.out x4_1 p214 q214
   have hw214_0 := hx214_0
   cases e214
   replace hx214_0 := hc HB hx214_0
   replace p214 := eq_true p214
   replace q214 := eq_true q214
   have p215 : 0 ≤ ((ji9) : Int) := of_decide_eq_true xA
   have q215 : (ji9) < (l0.length : Int) := of_decide_eq_true xA
   obtain ⟨ad215, e215, hx215_0⟩ := Kd.at_string HR0.out (ji9) p215 q215
   have hw215_0 := hx215_0
   obtain rfl : ad214 = ad215 := (by injection e215)
   replace hx215_0 := hc HB hx215_0
   replace p215 := eq_true p215
   replace q215 := eq_true q215
   refine start_ (n := 17) (S := fun w' => w'.cell? (ad214.add (x4_1).toNat) = some (.string (rdOf ByteArray.empty l0 x4_1)) ∧ w'.cell? (ad214.add ((ji9)).toNat) = some (.string (rdOf ByteArray.empty l0 (ji9)))) (ds := []) (bm 17 0) (by kernel_rfl) rfl rfl ⟨(hd HB hw214_0), (hd HB hw215_0)⟩ (fun hHeld => ?_); refine with_tabW spec_l3Up.tab6 spec_l3Up.bits6 (fun HT_ HW_ => ?_)
   generalize wr.drew = w14 at HO_3 HB hx214_0 hx215_0 hHeld ⊢
   refine pA 0 17 (bm 17 1) HT_ ?_
   refine pA 1 18 (bm 17 3) HT_ ?_
   refine pA 2 19 (bm 17 7) HT_ ?_
   refine pA 3 20 (bm 17 15) HT_ ?_
   refine pA 7 24 (bm 17 143) HT_ ?_
   refine pA 8 25 (bm 17 399) HT_ ?_
   refine pA 9 26 (bm 17 911) HT_ ?_
   refine pA 10 27 (bm 17 1935) HT_ ?_
   refine tA 4 21 (bm 17 1951) HT_ HW_ hHeld ?_
   refine pA 5 22 (bm 17 1983) HT_ ?_
   refine pA 6 23 (bm 17 2047) HT_ ?_
   refine tA 11 28 (bm 17 4095) HT_ HW_ hHeld ?_
   refine pA 12 29 (bm 17 8191) HT_ ?_
   refine oA 13 (some 30) (bm 17 16383) HT_ fun K hK => ?_
   refine goes_ Tryz.func47 (by kernel_rfl) rfl #[.string ((((⟨#[98, 111, 116, 104, 32]⟩ : ByteArray) ++ (rdOf ByteArray.empty l0 x4_1)) ++ (⟨#[32]⟩ : ByteArray)) ++ (rdOf ByteArray.empty l0 (ji9)))] (by rfl) rfl rfl (by (try simp only [List.map_toArray, List.map_cons, List.map_nil]); first | done | (simp only [hji9]; rfl) | rfl | (simp only [List.length_drop, List.length_take]; rfl)) ?_
   with_reducible refine (spec_l1Sum.calls k1 ((((⟨#[98, 111, 116, 104, 32]⟩ : ByteArray) ++ (rdOf ByteArray.empty l0 x4_1)) ++ (⟨#[32]⟩ : ByteArray)) ++ (rdOf ByteArray.empty l0 (ji9))) t216 _ A12.out).mono ?_
   rintro e w15 ⟨rfl, hb⟩
   refine ⟨_, rfl, ?_⟩
   replace HO_3 := rk HO_3 hb
   replace HB := kH HB hb
   (try clear hb)
   (try clear hb2)
   (try clear hk)
   (try clear hi)
   refine hK.out _ _ ⟨(hd HB hw214_0), (hd HB hw215_0)⟩ (fun hHeld => ?_)
   clear hK K
   refine nA (some 30) ?_
   refine oA 14 (some 31) (bm 17 32767) HT_ fun K hK => ?_
   refine value_ (w1 := ?_) (v := ?_) (by rfl) rfl ?_ ?_
   rotate_left 2
   ·go_simp
    constructor
    ·rfl
    ·rfl
   refine hK.out _ _ ⟨ca (hd HB hw214_0), ca (hd HB hw215_0)⟩ (fun hHeld => ?_)
   clear hK K
   refine nA (some 31) ?_
   refine oA 15 (some 32) (bm 17 65535) HT_ fun K hK => ?_
   refine Kd.R_append_step Kd.string (w0 := w) w.heap.size (by rfl) (.tmp 17) (.tmp 31) 53 9 (.string ⟨#[]⟩) 16 rfl Tryz.underlying53 info9 rfl (by decide) (by omega) u3 x3_1 t216 [.string t216] (fun _ => True) (fun _ => False) rfl rfl ?aP (fun _ hk => hk.elim) ?aF ?aO ?aB ?aS ?aL ?_
   (case aP => exact rfl)
   (case aB => exact (bl HB))
   (case aF => exact (fun _ _ => trivial))
   (case aO => exact (ra HO_3))
   (case aS => exact (below_size (bl HB)))
   (case aL => have := LMc13.out; omega)
   intro v218 w16 ho hb hg hat
   rw [← Ny217.out] at ho
   have n0_ := Aside0.mk (hb)
   have n1_ := Aside0.mk (ho)
   clear HB
   clear HO_3
   have HB := n0_
   have HO219 := n1_
   clear n0_ n1_
   clear ho hb hg hat
   refine hK.out _ _ ⟨(hd HB hw214_0), (hd HB hw215_0)⟩ (fun hHeld => ?_)
   clear hK K
   refine nA (some 32) ?_
   refine pA 16 3 (bm 17 131071) HT_ ?_
   refine done_ (done_of HT_.out (by kernel_rfl)) ?_
   try go_wp2
   go_roundg k1
   case measure => have := HK1.out; omega
   case rel => exact ⟨(y217), (wrap64 (x4_1 + 2)), xR, H', ⟨xL HK1⟩, ⟨ra HO219⟩, ⟨bl HB⟩⟩
def spec_l3Root.l0 : Nat → List ByteArray → Option (ByteArray)
 | 0, _ => none
 | k + 1, x3 => if (x3.length : Int) > 1 then ((spec_l3Up.f k x3).bind fun t228 => (spec_l3Root.l0 k t228)) else (if 0 < (x3.length : Int) then (some (rdOf ByteArray.empty x3 0)) else (none))
def spec_l3Root.f (k : Nat) (l0 : List ByteArray) : Option (ByteArray) := (spec_l3Row.f k l0).bind fun t224 => (if (t224.length : Int) = 0 then ((spec_l1Sum.f k (⟨#[]⟩ : ByteArray)).bind fun t227 => (some t227)) else (spec_l3Root.l0 k t224))
theorem spec_l3Root.mono_l : ∀ k, (∀ y0, LeO (spec_l3Root.l0 k y0) (spec_l3Root.l0 (k + 1) y0))
 | 0 => fun _ r h => by simp [spec_l3Root.l0] at h
 | k + 1 => by
  have ih0 := spec_l3Root.mono_l k
  ·intro y0
   unfold spec_l3Root.l0
   exact mo4 ih0 spec_l1Sum.mono spec_l3Row.mono spec_l3Up.mono
theorem spec_l3Root.mono : ∀ a0 k, LeO (spec_l3Root.f k a0) (spec_l3Root.f (k + 1) a0) := by
 intro a0 k
 have ih0 := spec_l3Root.mono_l k
 unfold spec_l3Root.f
 exact mo4 ih0 spec_l1Sum.mono spec_l3Row.mono spec_l3Up.mono
theorem spec_l3Root.calls (k : Nat) (A0 : Option Addr) (c0 : Nat) (l0 : List ByteArray) (r : ByteArray) (w : World) (hr0 : Kd.C Kd.string w A0 l0.length l0) (hc0 : l0.length ≤ c0) (h : spec_l3Root.f k l0 = some r) :
  Calls Tryz.prog 85 #[.slice A0 l0.length c0] w fun e w' => e = .returned (.string r) ∧ Below w.heap.size w w' := by
 have HR0 := Aside0.mk hr0
 have HC0 := Aside0.mk hc0
 clear hr0 hc0
 have HB := Aside0.mk (Below.refl w.heap.size w)
 have H : ((spec_l3Row.f k l0).bind fun t224 => (if (t224.length : Int) = 0 then ((spec_l1Sum.f k (⟨#[]⟩ : ByteArray)).bind fun t227 => (some t227)) else (spec_l3Root.l0 k t224))) = some r := h
 clear h
 replace H := oa H
 obtain ⟨t224, A2, H⟩ := H
 go_enter Tryz.func85, Tryz.ntmps85
 go_upto_if 8 with ((with_reducible refine gg ?_); refine gL 5 Tryz.func93 #[.slice A0 l0.length c0] ?_; (with_reducible refine (spec_l3Row.calls k _ _ l0 t224 _ ?side1 ?side2 A2.out).mono ?_); (case side1 => exact cr HR0.out); (case side2 => exact HC0.out); rintro e w5 ⟨v225, rfl, ho0, hb⟩; refine ⟨_, rfl, ?_⟩; have HO226 := am (Kd.R_lower ho0 (below_size (bl HB))); replace HB := kH HB hb; (try clear hb); (try clear ho0); obtain ⟨Ao6, co6, eo6⟩ := Kd.R_slice HO226.out; subst eo6)
 by_cases c3 : (t224.length : Int) = 0
 ·rw [if_pos c3] at H
  have c3b0 := beq_iff_eq.mpr c3
  have c3b1 := bne_eq_false_iff_eq.mpr c3
  try simp only [c3b0, c3b1, Bool.not_true, Bool.not_false]
  clear c3
  replace H := oa H
  obtain ⟨t227, A4, H⟩ := H
  obtain rfl := Option.some.inj H
  go_wp2_with ((with_reducible refine gg ?_); refine gL 9 Tryz.func47 #[.string (⟨#[]⟩ : ByteArray)] ?_; (with_reducible refine (spec_l1Sum.calls k (⟨#[]⟩ : ByteArray) t227 _ A4.out).mono ?_); rintro e w7 ⟨rfl, hb⟩; refine ⟨_, rfl, ?_⟩; replace HO226 := rk HO226 hb; replace HB := kH HB hb; (try clear hb))
  go_ret
  exact ⟨xE, bl HB⟩
 rw [if_neg c3] at H
 have c3b0 := beq_eq_false_iff_ne.mpr c3
 have c3b1 := bne_iff_ne.mpr c3
 have c3b2 : ¬ (t224 = []) := fun h_ => c3 (by rw [h_]; rfl)
 try simp only [c3b0, c3b1, c3b2, Bool.not_true, Bool.not_false]
 have H' := Aside0.mk H
 clear H
 go_wp2
 go_loopg [3] k (fun kq v3 w' => ∃ (x3_1 : List ByteArray), Aside0 (spec_l3Root.l0 kq x3_1 = some r) ∧ Aside0 (kq ≤ k) ∧ Aside0 (Kd.R Kd.string 9 w' w.heap.size (fun _ => True) v3 x3_1) ∧ Aside0 (Below w.heap.size w w'))
 case atStart => exact ⟨(t224), H', ⟨Nat.le_refl _⟩, ⟨ra HO226⟩, ⟨bl HB⟩⟩
 case round =>
  clear H'
  try clear p2
  try clear c3
  try clear c3b0
  try clear c3b1
  try clear c3b2
  try clear c4
  try clear c8
  try clear c9
  obtain ⟨x3_1, HA, HK1, HO_3, HB⟩ := hrel
  cases gk with
  | zero => exact absurd HA.out (by simp [spec_l3Root.l0])
  | succ k1 =>
   have H := HA.out
   clear HA
   simp only [spec_l3Root.l0] at H
   by_cases c10 : (x3_1.length : Int) > 1
   rotate_left
   ·rw [if_neg c10] at H
    have c10b0 := decide_eq_false c10
    have c10b1 : decide (1 < x3_1.length) = false := decide_eq_false (by omega)
    clear c10
    replace H := ip H
    obtain ⟨c14, H⟩ := H
    have c14b0 := decide_eq_true c14
    have c14b1 : decide (0 < x3_1.length) = true := decide_eq_true (by omega)
    clear c14
    obtain rfl := Option.some.inj H
    obtain ⟨Ao15, co15, eo15⟩ := Kd.R_slice HO_3.out
    subst eo15
    have p231 : 0 ≤ (0 : Int) := (by omega)
    have q231 : 0 < (x3_1.length : Int) := of_decide_eq_true xA
    obtain ⟨ad231, e231, hx231_0⟩ := Kd.at_string (Kd.R_reads' HO_3.out).2.2 0 p231 q231
    cases e231
    have qi231 : (0 < x3_1.length) = True := eq_true (by omega)
    (try rw [show ((0 : Int)).toNat = 0 from rfl] at hx231_0)
    (try rw [Addr.add_zero'] at hx231_0)
    replace p231 := eq_true p231
    replace q231 := eq_true q231
    go_wp2
    go_ret
    exact ⟨xE, bl HB⟩
   rw [if_pos c10] at H
   have c10b0 := decide_eq_true c10
   have c10b1 : decide (1 < x3_1.length) = true := decide_eq_true (by omega)
   clear c10
   replace H := oa H
   obtain ⟨t228, A11, H⟩ := H
   have H' := Aside0.mk H
   clear H
   obtain ⟨Ao12, co12, eo12⟩ := Kd.R_slice HO_3.out
   subst eo12
   go_wp2_with ((with_reducible refine gg ?_); refine gL 14 Tryz.func94 #[.slice Ao12 x3_1.length co12] ?_; (with_reducible refine (spec_l3Up.calls k1 _ _ x3_1 t228 _ ?side1 ?side2 A11.out).mono ?_); (case side1 => exact cr (Kd.R_reads' HO_3.out).2.2); (case side2 => exact sl HO_3); rintro e w13 ⟨v229, rfl, ho0, hb⟩; refine ⟨_, rfl, ?_⟩; have HO230 := am (Kd.R_lower (Kd.R_new' ho0 (Kd.R_lt (ra HO_3))) (below_size (bl HB))); replace HO_3 := am (Kd.R_elder' (ra HO_3) (Kd.R_base ho0) hb); replace HB := kH HB hb; (try clear hb); (try clear ho0))
   go_roundg k1
   case measure => have := HK1.out; omega
   case rel => exact ⟨(t228), H', ⟨xL HK1⟩, ⟨rM HO230 (fun _ hk => trivial)⟩, ⟨bl HB⟩⟩
def spec_l4Diff.j0 : Nat → Int → Int → Bool → Option (Int)
 | 0, _, _, _ => none
 | k + 1, x4, x5, x38 => if x38 = true then (some (wrap64 (x4 + 1))) else (if x5 > 60 then (if x4 > 1 then (some (wrap64 (x4 - 1))) else (some x4)) else (some x4))
def spec_l4Diff.f (k : Nat) (l0 : List (S24)) : Option (Int) := if (l0.length : Int) = 0 then (some 1) else (if 0 ≤ (wrap64 ((l0.length : Int) - 1)) then (if (wrap64 ((l0.length : Int) - 1)) < (l0.length : Int) then (if ((l0.length : Int) % 4) = 0 then (if 0 ≤ (wrap64 ((l0.length : Int) - 4)) then (if (wrap64 ((l0.length : Int) - 4)) < (l0.length : Int) then (if (wrap64 (((rd_T24 l0 (wrap64 ((l0.length : Int) - 1))).f2) - ((rd_T24 l0 (wrap64 ((l0.length : Int) - 4))).f2))) < 20 then (spec_l4Diff.j0 k ((rd_T24 l0 (wrap64 ((l0.length : Int) - 1))).f3) (wrap64 (((rd_T24 l0 (wrap64 ((l0.length : Int) - 1))).f2) - ((rd_T24 l0 (wrap64 ((l0.length : Int) - 4))).f2))) (decide (((rd_T24 l0 (wrap64 ((l0.length : Int) - 1))).f3) < 8))) else (spec_l4Diff.j0 k ((rd_T24 l0 (wrap64 ((l0.length : Int) - 1))).f3) (wrap64 (((rd_T24 l0 (wrap64 ((l0.length : Int) - 1))).f2) - ((rd_T24 l0 (wrap64 ((l0.length : Int) - 4))).f2))) false)) else (none)) else (none)) else (some ((rd_T24 l0 (wrap64 ((l0.length : Int) - 1))).f3))) else (none)) else (none))
theorem spec_l4Diff.mono_l : ∀ k, (∀ y0 y1 y2, LeO (spec_l4Diff.j0 k y0 y1 y2) (spec_l4Diff.j0 (k + 1) y0 y1 y2))
 | 0 => fun _ _ _ r h => by simp [spec_l4Diff.j0] at h
 | k + 1 => by
  have ih0 := spec_l4Diff.mono_l k
  ·intro y0 y1 y2
   unfold spec_l4Diff.j0
   exact mo1 ih0
theorem spec_l4Diff.mono : ∀ a0 k, LeO (spec_l4Diff.f k a0) (spec_l4Diff.f (k + 1) a0) := by
 intro a0 k
 have ih0 := spec_l4Diff.mono_l k
 unfold spec_l4Diff.f
 exact mo1 ih0
theorem spec_l4Diff.calls (k : Nat) (A0 : Option Addr) (c0 : Nat) (l0 : List (S24)) (r : Int) (w : World) (hr0 : Kd.C k24 w A0 l0.length l0) (hc0 : l0.length ≤ c0) (h : spec_l4Diff.f k l0 = some r) :
  Calls Tryz.prog 86 #[.slice A0 l0.length c0] w fun e w' => e = .returned (.int .i64 r) ∧ Drawn0 w w' := by
 have HR0 := Aside0.mk hr0
 have HC0 := Aside0.mk hc0
 clear hr0 hc0
 have H : (if (l0.length : Int) = 0 then (some 1) else (if 0 ≤ (wrap64 ((l0.length : Int) - 1)) then (if (wrap64 ((l0.length : Int) - 1)) < (l0.length : Int) then (if ((l0.length : Int) % 4) = 0 then (if 0 ≤ (wrap64 ((l0.length : Int) - 4)) then (if (wrap64 ((l0.length : Int) - 4)) < (l0.length : Int) then (if (wrap64 (((rd_T24 l0 (wrap64 ((l0.length : Int) - 1))).f2) - ((rd_T24 l0 (wrap64 ((l0.length : Int) - 4))).f2))) < 20 then (spec_l4Diff.j0 k ((rd_T24 l0 (wrap64 ((l0.length : Int) - 1))).f3) (wrap64 (((rd_T24 l0 (wrap64 ((l0.length : Int) - 1))).f2) - ((rd_T24 l0 (wrap64 ((l0.length : Int) - 4))).f2))) (decide (((rd_T24 l0 (wrap64 ((l0.length : Int) - 1))).f3) < 8))) else (spec_l4Diff.j0 k ((rd_T24 l0 (wrap64 ((l0.length : Int) - 1))).f3) (wrap64 (((rd_T24 l0 (wrap64 ((l0.length : Int) - 1))).f2) - ((rd_T24 l0 (wrap64 ((l0.length : Int) - 4))).f2))) false)) else (none)) else (none)) else (some ((rd_T24 l0 (wrap64 ((l0.length : Int) - 1))).f3))) else (none)) else (none))) = some r := h
 clear h
 by_cases c2 : (l0.length : Int) = 0
 ·rw [if_pos c2] at H
  have c2b0 := beq_iff_eq.mpr c2
  have c2b1 := bne_eq_false_iff_eq.mpr c2
  clear c2
  obtain rfl := Option.some.inj H
  go_enter Tryz.func86, Tryz.ntmps86
  go_wp2
  repeat (go_quiet (fail); try go_wp2)
  go_ret
  exact ⟨xR, xW⟩
 rw [if_neg c2] at H
 have c2b0 := beq_eq_false_iff_ne.mpr c2
 have c2b1 := bne_iff_ne.mpr c2
 have c2b2 : ¬ (l0 = []) := fun h_ => c2 (by rw [h_]; rfl)
 obtain ⟨ji3, hji3⟩ := je (wrap64 ((l0.length : Int) - 1))
 first | rw [hji3] at H | simp only [hji3] at H
 have hji3w : (IntKind.i64.wrap ((l0.length : Int) - 1)) = ji3 := (i64_w _).trans hji3
 replace H := ipd H
 obtain ⟨c4b0, H⟩ := H
 replace H := ipd H
 obtain ⟨c5b0, H⟩ := H
 by_cases c6 : ((l0.length : Int) % 4) = 0
 rotate_left
 ·rw [if_neg c6] at H
  have c6b0 := beq_eq_false_iff_ne.mpr c6
  have c6b1 := bne_iff_ne.mpr c6
  obtain rfl := Option.some.inj H
  have p232 : 0 ≤ ((ji3) : Int) := of_decide_eq_true xA
  have q232 : (ji3) < (l0.length : Int) := of_decide_eq_true xA
  obtain ⟨ad232, e232, hx232_0, hx232_1, hx232_2, hx232_3, hx232_4⟩ := at_T24 HR0.out (ji3) p232 q232
  cases e232
  replace p232 := eq_true p232
  replace q232 := eq_true q232
  go_enter Tryz.func86, Tryz.ntmps86
  go_wp2
  repeat (go_quiet (fail); try go_wp2)
  go_ret
  exact ⟨by first | rfl | (simp; done) | (simp only [← hji3] <;> (first | rfl | simp)) | (simp [*]; done), xW⟩
 rw [if_pos c6] at H
 have c6b0 := beq_iff_eq.mpr c6
 have c6b1 := bne_eq_false_iff_eq.mpr c6
 clear c6
 obtain ⟨ji7, hji7⟩ := je (wrap64 ((l0.length : Int) - 4))
 first | rw [hji7] at H | simp only [hji7] at H
 have hji7w : (IntKind.i64.wrap ((l0.length : Int) - 4)) = ji7 := (i64_w _).trans hji7
 replace H := ipd H
 obtain ⟨c8b0, H⟩ := H
 replace H := ipd H
 obtain ⟨c9b0, H⟩ := H
 have HC10 := Aside0.mk H
 clear H
 have p232 : 0 ≤ ((ji3) : Int) := of_decide_eq_true xA
 have q232 : (ji3) < (l0.length : Int) := of_decide_eq_true xA
 obtain ⟨ad232, e232, hx232_0, hx232_1, hx232_2, hx232_3, hx232_4⟩ := at_T24 HR0.out (ji3) p232 q232
 cases e232
 replace p232 := eq_true p232
 replace q232 := eq_true q232
 have p233 : 0 ≤ ((ji3) : Int) := of_decide_eq_true xA
 have q233 : (ji3) < (l0.length : Int) := of_decide_eq_true xA
 obtain ⟨ad233, e233, hx233_0, hx233_1, hx233_2, hx233_3, hx233_4⟩ := at_T24 HR0.out (ji3) p233 q233
 obtain rfl : ad232 = ad233 := (by injection e233)
 replace p233 := eq_true p233
 replace q233 := eq_true q233
 have p234 : 0 ≤ ((ji7) : Int) := of_decide_eq_true xA
 have q234 : (ji7) < (l0.length : Int) := of_decide_eq_true xA
 obtain ⟨ad234, e234, hx234_0, hx234_1, hx234_2, hx234_3, hx234_4⟩ := at_T24 HR0.out (ji7) p234 q234
 obtain rfl : ad232 = ad234 := (by injection e234)
 replace p234 := eq_true p234
 replace q234 := eq_true q234
 go_enter Tryz.func86, Tryz.ntmps86
 go_upto_region 8 with (fail)
 repeat (go_quiet (fail); go_upto_region 8 with (fail))
 go_cut [38] (fun v38 wc => ∃ (kq : Nat) (x38_9 : Bool), v38 = .bool x38_9 ∧ Aside0 (spec_l4Diff.j0 kq ((rd_T24 l0 (ji3)).f3) (wrap64 (((rd_T24 l0 (ji3)).f2) - ((rd_T24 l0 (ji7)).f2))) x38_9 = some r) ∧ Aside0 (kq ≤ k) ∧ Drawn0 w wc)
 case first =>
  have H := HC10.out
  clear HC10
  by_cases c11 : (wrap64 (((rd_T24 l0 (ji3)).f2) - ((rd_T24 l0 (ji7)).f2))) < 20
  rotate_left
  ·rw [if_neg c11] at H
   have c11b0 := decide_eq_false c11
   clear c11
   (first | rw [c11b0] | rw [c11b1] | (simp only [i64_w, i32_w]; rw [c11b0]) | skip)
   have H' := Aside0.mk H
   clear H
   go_wp2
   repeat (go_quiet (fail); try go_wp2)
   go_meet
   case rel => exact ⟨_, (false), xR, H', ⟨xO⟩, xW⟩
  rw [if_pos c11] at H
  have c11b0 := decide_eq_true c11
  clear c11
  (first | rw [c11b0] | rw [c11b1] | (simp only [i64_w, i32_w]; rw [c11b0]) | skip)
  have H' := Aside0.mk H
  clear H
  go_wp2
  repeat (go_quiet (fail); try go_wp2)
  go_meet
  case rel => exact ⟨_, (decide (((rd_T24 l0 (ji3)).f3) < 8)), (by first | rfl | (simp; done) | (simp only [← hji3] <;> (first | rfl | simp)) | (simp [*]; done)), H', ⟨xO⟩, xW⟩
 case rest =>
  clear HC10
  try clear c1
  try clear c2
  try clear c2b0
  try clear c2b1
  try clear c2b2
  try clear p2
  try clear q2
  try clear hx2
  try clear c4
  try clear c4b0
  try clear c5
  try clear c5b0
  try clear c6
  try clear c6b0
  try clear c6b1
  try clear p6
  try clear c8
  try clear c8b0
  try clear c9
  try clear c9b0
  try clear c11
  try clear c11b0
  try clear hx232_0
  try clear hx232_1
  try clear hx232_2
  try clear hx232_3
  try clear hx232_4
  try clear hx233_0
  try clear hx233_1
  try clear hx233_2
  try clear hx233_3
  try clear hx233_4
  try clear hx234_0
  try clear hx234_1
  try clear hx234_2
  try clear hx234_3
  try clear hx234_4
  try clear p232
  try clear p233
  try clear p234
  try clear q232
  try clear q233
  try clear q234
  obtain ⟨kq, x38_9, rfl, HA, HJ9, ⟨mc9, rfl⟩⟩ := hcut
  cases kq with
  | zero => exact absurd HA.out (by simp [spec_l4Diff.j0])
  | succ kj9 =>
   have H := HA.out
   clear HA
   simp only [spec_l4Diff.j0] at H
   by_cases c12 : x38_9 = true
   ·subst c12
    rw [if_pos rfl] at H
    obtain rfl := Option.some.inj H
    go_wp2
    repeat (go_quiet (fail); try go_wp2)
    go_ret
    exact ⟨by first | rfl | (simp; done) | (simp only [← hji3, ← hji7] <;> (first | rfl | simp)) | (simp [*]; done), xW⟩
   replace c12 := Bool.eq_false_iff.mpr c12
   subst c12
   rw [if_neg (show ¬ (false = true) by decide)] at H
   by_cases c13 : (wrap64 (((rd_T24 l0 (ji3)).f2) - ((rd_T24 l0 (ji7)).f2))) > 60
   rotate_left
   ·rw [if_neg c13] at H
    have c13b0 := decide_eq_false c13
    clear c13
    obtain rfl := Option.some.inj H
    go_wp2
    repeat (go_quiet (fail); try go_wp2)
    go_ret
    exact ⟨by first | rfl | (simp; done) | (simp only [← hji3, ← hji7] <;> (first | rfl | simp)) | (simp [*]; done), xW⟩
   rw [if_pos c13] at H
   have c13b0 := decide_eq_true c13
   clear c13
   by_cases c14 : ((rd_T24 l0 (ji3)).f3) > 1
   ·rw [if_pos c14] at H
    have c14b0 := decide_eq_true c14
    clear c14
    obtain rfl := Option.some.inj H
    go_wp2
    repeat (go_quiet (fail); try go_wp2)
    go_ret
    exact ⟨by first | rfl | (simp; done) | (simp only [← hji3, ← hji7] <;> (first | rfl | simp)) | (simp [*]; done), xW⟩
   rw [if_neg c14] at H
   have c14b0 := decide_eq_false c14
   clear c14
   obtain rfl := Option.some.inj H
   go_wp2
   repeat (go_quiet (fail); try go_wp2)
   go_ret
   exact ⟨by first | rfl | (simp; done) | (simp only [← hji3, ← hji7] <;> (first | rfl | simp)) | (simp [*]; done), xW⟩
def spec_l1Dec.f : Nat → Int → Option (ByteArray)
 | 0, _ => none
 | k + 1, a0 => if a0 < (-9223372036854775807) then (some (⟨#[45, 57, 50, 50, 51, 51, 55, 50, 48, 51, 54, 56, 53, 52, 55, 55, 53, 56, 48, 56]⟩ : ByteArray)) else (if a0 < 0 then ((spec_l1Dec.f k (wrap64 (-a0))).bind fun t235 => (if 1 + t235.size ≤ 9223372036854775807 then (some ((⟨#[45]⟩ : ByteArray) ++ t235)) else (none))) else (if a0 < 10 then (some (strOfNums (([(wrap64 (48 + a0)) % 256] : List Int)))) else ((spec_l1Dec.f k (wrap64 (Int.tdiv a0 10))).bind fun t239 => ((some (([(wrap64 (48 + (Int.tmod a0 10))) % 256] : List Int) : List Int)).bind fun y240 => (if t239.size + (strOfNums y240).size ≤ 9223372036854775807 then (some (t239 ++ (strOfNums y240))) else (none))))))
theorem spec_l1Dec.mono_l : ∀ k, (∀ y0, LeO (spec_l1Dec.f k y0) (spec_l1Dec.f (k + 1) y0))
 | 0 => fun _ r h => by simp [spec_l1Dec.f] at h
 | k + 1 => by
  have ih0 := spec_l1Dec.mono_l k
  ·intro y0
   unfold spec_l1Dec.f
   exact mo1 ih0
theorem spec_l1Dec.mono : ∀ a0 k, LeO (spec_l1Dec.f k a0) (spec_l1Dec.f (k + 1) a0) := by
 intro a0 k
 have ih0 := spec_l1Dec.mono_l k
 exact ih0 a0
def spec_l1Dec.T7 : Bool × List (List Nat × List Nat) := (true, [([], []), ([0], [0]), ([1], [1]), ([], []), ([3], [3]), ([4], [4]), ([5], [5]), ([6], [6]), ([7], [7]), ([2, 8], [2, 8]), ([9, 2, 0, 1, 2, 3, 4, 5, 6, 7, 8, 9], [9])])
def spec_l1Dec.B7 : List Nat := [0, 1, 3, 0, 8, 24, 56, 120, 248, 511, 1023]
theorem spec_l1Dec.tab7 : rtab .any (opsOf Tryz.f59 7) = spec_l1Dec.T7 := by kernel_rfl
theorem spec_l1Dec.bits7 : waitsOk spec_l1Dec.T7.2 spec_l1Dec.B7 = true := by kernel_rfl
theorem spec_l1Dec.calls (k : Nat) : ∀ (a0 : Int) (r : ByteArray) (w : World) (h : spec_l1Dec.f k a0 = some r),
  Calls Tryz.prog 59 #[.int .i64 a0] w fun e w' => e = .returned (.string r) ∧ Below w.heap.size w w' := by
 induction k using Nat.strongRecOn with
 | _ k ih =>
 intro a0 r w h
 cases k with
 | zero => exact absurd h (by simp [spec_l1Dec.f])
 | succ k =>
 simp only [spec_l1Dec.f] at h
 have HB := Aside0.mk (Below.refl w.heap.size w)
 have H : (if a0 < (-9223372036854775807) then (some (⟨#[45, 57, 50, 50, 51, 51, 55, 50, 48, 51, 54, 56, 53, 52, 55, 55, 53, 56, 48, 56]⟩ : ByteArray)) else (if a0 < 0 then ((spec_l1Dec.f k (wrap64 (-a0))).bind fun t235 => (if 1 + t235.size ≤ 9223372036854775807 then (some ((⟨#[45]⟩ : ByteArray) ++ t235)) else (none))) else (if a0 < 10 then (some (strOfNums (([(wrap64 (48 + a0)) % 256] : List Int)))) else ((spec_l1Dec.f k (wrap64 (Int.tdiv a0 10))).bind fun t239 => ((some (([(wrap64 (48 + (Int.tmod a0 10))) % 256] : List Int) : List Int)).bind fun y240 => (if t239.size + (strOfNums y240).size ≤ 9223372036854775807 then (some (t239 ++ (strOfNums y240))) else (none))))))) = some r := h
 clear h
 by_cases c2 : a0 < (-9223372036854775807)
 ·rw [if_pos c2] at H
  have c2b0 := decide_eq_true c2
  clear c2
  obtain rfl := Option.some.inj H
  go_enter Tryz.func59, Tryz.ntmps59
  go_wp2
  go_ret
  exact ⟨xE, bl HB⟩
 rw [if_neg c2] at H
 have c2b0 := decide_eq_false c2
 clear c2
 by_cases c3 : a0 < 0
 ·rw [if_pos c3] at H
  have c3b0 := decide_eq_true c3
  clear c3
  replace H := oa H
  obtain ⟨t235, A4, H⟩ := H
  replace H := ip H
  obtain ⟨c5, H⟩ := H
  have c5b0 := eq_true c5
  have c5b1 := decide_eq_true c5
  have c5b2 := nf c5
  obtain rfl := Option.some.inj H
  go_enter Tryz.func59, Tryz.ntmps59
  go_wp2_with ((with_reducible refine gg ?_); refine gL 9 Tryz.func59 #[.int .i64 (wrap64 (-a0))] ?_; (with_reducible refine (ih k (by omega) (wrap64 (-a0)) t235 _ A4.out).mono ?_); rintro e w6 ⟨rfl, hb⟩; refine ⟨_, rfl, ?_⟩; replace HB := kH HB hb; (try clear hb))
  go_ret
  exact ⟨xE, bl HB⟩
 rw [if_neg c3] at H
 have c3b0 := decide_eq_false c3
 clear c3
 by_cases c7 : a0 < 10
 ·rw [if_pos c7] at H
  have c7b0 := decide_eq_true c7
  clear c7
  obtain ⟨y236, Ny236⟩ := yA (([(wrap64 (48 + a0)) % 256] : List Int) : List Int)
  rw [← Ny236.out] at H
  obtain rfl := Option.some.inj H
  go_enter Tryz.func59, Tryz.ntmps59
  go_wp2_with ((with_reducible refine gate_dst (N := 16) rfl ?_); refine Kd.R_lit (Kd.int .u8) _ 5 ?hg (N := 16) ?hd (xs := ([(wrap64 (48 + a0)) % 256] : List Int)) (inner := [.int .u8 ((wrap64 (48 + a0)) % 256)]) (ok := fun _ => True) (okp := fun _ => True) ?hr ?hp (fun _ hk => hk) trivial (Below.refl _ _) (Nat.le_refl _) (by simp) ?_; (case hd => rfl); (case hg => rfl); (case hr => first | (go_simp; done) | (go_simp; rfl)); (case hp => exact xP); intro v237 w8 ho9 hb hg_ hnew_; clear hg_ hnew_; (first | rw [← Ny236.out] at ho9 | (simp only [Int.reduceToNat] at ho9; rw [← Ny236.out] at ho9)); have HO238 := am (Kd.R_lower ho9 (below_size (bl HB))); replace HB := kH HB hb; clear hb ho9; have hcv10 := own_string (P := Tryz.prog) Tryz.underlying22 Tryz.underlying5 Tryz.underlying9 (Kd.own_of_R HO238.out))
  go_ret
  exact ⟨xE, bl HB⟩
 rw [if_neg c7] at H
 have c7b0 := decide_eq_false c7
 clear c7
 replace H := oa H
 obtain ⟨t239, A11, H⟩ := H
 obtain ⟨y240, Ny240⟩ := yA (([(wrap64 (48 + (Int.tmod a0 10))) % 256] : List Int) : List Int)
 rw [← Ny240.out] at H
 replace H := ip H
 obtain ⟨c12, H⟩ := H
 have c12b0 := eq_true c12
 have c12b1 := decide_eq_true c12
 have c12b2 := nf c12
 obtain rfl := Option.some.inj H
 go_enter Tryz.func59, Tryz.ntmps59
 try go_wp2
 replace HB := am (below_drew1 HB.out)
 refine start_ (n := 11) (S := fun w' => True) (ds := []) (bm 11 0) (by kernel_rfl) rfl rfl trivial (fun hHeld => ?_); refine with_tabW spec_l1Dec.tab7 spec_l1Dec.bits7 (fun HT_ HW_ => ?_)
 generalize w.drew = w13 at HB hHeld ⊢
 refine pA 0 18 (bm 11 1) HT_ ?_
 refine pA 1 19 (bm 11 3) HT_ ?_
 refine pA 3 21 (bm 11 11) HT_ ?_
 refine pA 4 22 (bm 11 27) HT_ ?_
 refine pA 5 23 (bm 11 59) HT_ ?_
 refine pA 6 24 (bm 11 123) HT_ ?_
 refine join_ (σ := Value) 2 (bm 11 511) (fun s_ => [(20, .string t239), (25, s_), (26, .string (strOfNums y240))]) (fun s_ w' => (Kd.R (Kd.int .u8) 5 w' w.heap.size (fun _ => True) s_ y240) ∧ (Below w.heap.size w w')) ?_ ?_
 rotate_left
 ·intro hCont
  refine two_ (i := 2) (j := 7) (Ni := some 20) (Nj := some 25) (bm 11 127) (bm 11 251) rfl rfl rfl rfl (two_of HT_.out (by kernel_rfl)) (by decide) (by decide) (fun K hK => ?_) (fun K hK => ?_)
  ·skip
   refine gA Tryz.func59 #[.int .i64 (wrap64 (Int.tdiv a0 10))] ?_
   with_reducible refine (ih k (by omega) (wrap64 (Int.tdiv a0 10)) t239 _ A11.out).mono ?_
   rintro e w14 ⟨rfl, hb⟩
   refine ⟨_, rfl, ?_⟩
   replace HB := kH HB hb
   (try clear hb)
   (try clear hb2)
   (try clear hk)
   (try clear hi)
   refine hK.out _ _ trivial (fun hHeld => ?_)
   clear hK K
   refine nA (some 20) ?_
   refine oA 7 (some 25) (bm 11 255) HT_ fun K hK => ?_
   refine Kd.R_lit_step (Kd.int .u8) _ 5 ?hg (N := 25) ?hd (xs := ([(wrap64 (48 + (Int.tmod a0 10))) % 256] : List Int)) (inner := [.int .u8 ((wrap64 (48 + (Int.tmod a0 10))) % 256)]) (ok := fun _ => True) (okp := fun _ => True) ?hr ?hp (fun _ hk => hk) trivial (Below.refl _ _) (Nat.le_refl _) (by simp) ?_; (case hd => rfl); (case hg => rfl); (case hr => first | (go_simp; done) | (go_simp; rfl)); (case hp => exact (Reps.one (show Kd.M (Kd.int .u8) _ _ _ ((wrap64 (48 + (Int.tmod a0 10))) % 256) [.int .u8 ((wrap64 (48 + (Int.tmod a0 10))) % 256)] from rfl) (Reps.none _ _)))
   intro v241 w15 ho16 hb hg_ hnew_
   clear hg_ hnew_
   (first | rw [← Ny240.out] at ho16 | (simp only [Int.reduceToNat] at ho16; rw [← Ny240.out] at ho16))
   have HO242 := am (Kd.R_lower ho16 (below_size (bl HB)))
   replace HB := kH HB hb
   clear hb ho16
   refine hK.out _ _ trivial (fun hHeld => ?_)
   clear hK K
   refine nA (some 25) ?_
   refine oA 8 (some 26) (bm 11 511) HT_ fun K hK => ?_
   have hcv17 := own_string (P := Tryz.prog) Tryz.underlying22 Tryz.underlying5 Tryz.underlying9 (Kd.own_of_R HO242.out)
   refine value_ (w1 := ?_) (v := ?_) (by rfl) rfl ?_ ?_
   rotate_left 2
   ·go_simp
    constructor
    ·rfl
    ·rfl
   clear hcv17
   refine hK.out _ _ trivial (fun hHeld => ?_)
   clear hK K
   refine nA (some 26) ?_
   exact norm_ (by simp only [putAll, Act.put, sa, s0, s1]) (hCont (v241) _ ⟨(ra HO242), (bl HB)⟩)
  ·skip
   refine Kd.R_lit_step (Kd.int .u8) _ 5 ?hg (N := 25) ?hd (xs := ([(wrap64 (48 + (Int.tmod a0 10))) % 256] : List Int)) (inner := [.int .u8 ((wrap64 (48 + (Int.tmod a0 10))) % 256)]) (ok := fun _ => True) (okp := fun _ => True) ?hr ?hp (fun _ hk => hk) trivial (Below.refl _ _) (Nat.le_refl _) (by simp) ?_; (case hd => rfl); (case hg => rfl); (case hr => first | (go_simp; done) | (go_simp; rfl)); (case hp => exact (Reps.one (show Kd.M (Kd.int .u8) _ _ _ ((wrap64 (48 + (Int.tmod a0 10))) % 256) [.int .u8 ((wrap64 (48 + (Int.tmod a0 10))) % 256)] from rfl) (Reps.none _ _)))
   intro v241 w14 ho15 hb hg_ hnew_
   clear hg_ hnew_
   (first | rw [← Ny240.out] at ho15 | (simp only [Int.reduceToNat] at ho15; rw [← Ny240.out] at ho15))
   have HO242 := am (Kd.R_lower ho15 (below_size (bl HB)))
   replace HB := kH HB hb
   clear hb ho15
   refine hK.out _ _ trivial (fun hHeld => ?_)
   clear hK K
   refine nA (some 25) ?_
   refine two_ (i := 2) (j := 8) (Ni := some 20) (Nj := some 26) (bm 11 255) (bm 11 507) rfl rfl rfl rfl (two_of HT_.out (by kernel_rfl)) (by decide) (by decide) (fun K hK => ?_) (fun K hK => ?_)
   ·skip
    refine gA Tryz.func59 #[.int .i64 (wrap64 (Int.tdiv a0 10))] ?_
    with_reducible refine (ih k (by omega) (wrap64 (Int.tdiv a0 10)) t239 _ A11.out).mono ?_
    rintro e w16 ⟨rfl, hb⟩
    refine ⟨_, rfl, ?_⟩
    replace HO242 := rk HO242 hb
    replace HB := kH HB hb
    (try clear hb)
    (try clear hb2)
    (try clear hk)
    (try clear hi)
    refine hK.out _ _ trivial (fun hHeld => ?_)
    clear hK K
    refine nA (some 20) ?_
    refine oA 8 (some 26) (bm 11 511) HT_ fun K hK => ?_
    have hcv17 := own_string (P := Tryz.prog) Tryz.underlying22 Tryz.underlying5 Tryz.underlying9 (Kd.own_of_R HO242.out)
    refine value_ (w1 := ?_) (v := ?_) (by rfl) rfl ?_ ?_
    rotate_left 2
    ·go_simp
     constructor
     ·rfl
     ·rfl
    clear hcv17
    refine hK.out _ _ trivial (fun hHeld => ?_)
    clear hK K
    refine nA (some 26) ?_
    exact norm_ (by simp only [putAll, Act.put, sa, s0, s1]) (hCont (v241) _ ⟨(ra HO242), (bl HB)⟩)
   ·skip
    have hcv16 := own_string (P := Tryz.prog) Tryz.underlying22 Tryz.underlying5 Tryz.underlying9 (Kd.own_of_R HO242.out)
    refine value_ (w1 := ?_) (v := ?_) (by rfl) rfl ?_ ?_
    rotate_left 2
    ·go_simp
     constructor
     ·rfl
     ·rfl
    clear hcv16
    refine hK.out _ _ trivial (fun hHeld => ?_)
    clear hK K
    refine nA (some 26) ?_
    refine oA 2 (some 20) (bm 11 511) HT_ fun K hK => ?_
    refine gA Tryz.func59 #[.int .i64 (wrap64 (Int.tdiv a0 10))] ?_
    with_reducible refine (ih k (by omega) (wrap64 (Int.tdiv a0 10)) t239 _ A11.out).mono ?_
    rintro e w17 ⟨rfl, hb⟩
    refine ⟨_, rfl, ?_⟩
    replace HO242 := rk HO242 hb
    replace HB := kH HB hb
    (try clear hb)
    (try clear hb2)
    (try clear hk)
    (try clear hi)
    refine hK.out _ _ trivial (fun hHeld => ?_)
    clear hK K
    refine nA (some 20) ?_
    exact norm_ (by simp only [putAll, Act.put, sa, s0, s1]) (hCont (v241) _ ⟨(ra HO242), (bl HB)⟩)
 rintro v241 w18 ⟨h0_, h1_⟩
 try dsimp only at h0_ h1_
 have n0_ := am h0_
 have n1_ := am h1_
 clear HB
 clear h0_ h1_
 have HO242 := n0_
 have HB := n1_
 clear n0_ n1_
 have hHeld := trivial
 refine norm_ (a' := ?_) ?_ ?_
 rotate_left
 ·simp only [putAll, Act.put, sa, s0, s1]
  rfl
 refine pA 9 27 (bm 11 1023) HT_ ?_
 refine pA 10 2 (bm 11 2047) HT_ ?_
 refine done_ (done_of HT_.out (by kernel_rfl)) ?_
 try go_wp2
 go_ret
 exact ⟨xE, bl HB⟩
def spec_l3Put.f (k : Nat) (a0_0 : ByteArray) (a0_1 : ByteArray) (a0_2 : Int) (a0_3 : Int) (a0_4 : Int) : Option (ByteArray) := if a0_0.size + 1 ≤ 9223372036854775807 then (if (a0_0 ++ (⟨#[32]⟩ : ByteArray)).size + a0_1.size ≤ 9223372036854775807 then (if ((a0_0 ++ (⟨#[32]⟩ : ByteArray)) ++ a0_1).size + 1 ≤ 9223372036854775807 then ((spec_l1Dec.f k a0_2).bind fun t244 => (if (((a0_0 ++ (⟨#[32]⟩ : ByteArray)) ++ a0_1) ++ (⟨#[32]⟩ : ByteArray)).size + t244.size ≤ 9223372036854775807 then (if ((((a0_0 ++ (⟨#[32]⟩ : ByteArray)) ++ a0_1) ++ (⟨#[32]⟩ : ByteArray)) ++ t244).size + 1 ≤ 9223372036854775807 then ((spec_l1Dec.f k a0_3).bind fun t245 => (if (((((a0_0 ++ (⟨#[32]⟩ : ByteArray)) ++ a0_1) ++ (⟨#[32]⟩ : ByteArray)) ++ t244) ++ (⟨#[32]⟩ : ByteArray)).size + t245.size ≤ 9223372036854775807 then (if ((((((a0_0 ++ (⟨#[32]⟩ : ByteArray)) ++ a0_1) ++ (⟨#[32]⟩ : ByteArray)) ++ t244) ++ (⟨#[32]⟩ : ByteArray)) ++ t245).size + 1 ≤ 9223372036854775807 then ((spec_l1Dec.f k a0_4).bind fun t246 => (if (((((((a0_0 ++ (⟨#[32]⟩ : ByteArray)) ++ a0_1) ++ (⟨#[32]⟩ : ByteArray)) ++ t244) ++ (⟨#[32]⟩ : ByteArray)) ++ t245) ++ (⟨#[32]⟩ : ByteArray)).size + t246.size ≤ 9223372036854775807 then (some ((((((((a0_0 ++ (⟨#[32]⟩ : ByteArray)) ++ a0_1) ++ (⟨#[32]⟩ : ByteArray)) ++ t244) ++ (⟨#[32]⟩ : ByteArray)) ++ t245) ++ (⟨#[32]⟩ : ByteArray)) ++ t246)) else (none))) else (none)) else (none))) else (none)) else (none))) else (none)) else (none)) else (none)
theorem spec_l3Put.mono : ∀ a0 a1 a2 a3 a4 k, LeO (spec_l3Put.f k a0 a1 a2 a3 a4) (spec_l3Put.f (k + 1) a0 a1 a2 a3 a4) := by
 intro a0 a1 a2 a3 a4 k
 unfold spec_l3Put.f
 exact mo1 spec_l1Dec.mono
def spec_l3Put.T1 : Bool × List (List Nat × List Nat) := (true, [([], []), ([0], [0]), ([1], [1]), ([], []), ([3], [3]), ([2, 4], [2, 4]), ([5], [5]), ([], []), ([7], [7]), ([8], [8]), ([6, 9], [6, 9]), ([10], [10]), ([], []), ([12], [12]), ([13, 9], [13]), ([11, 14], [11, 14]), ([15], [15]), ([], []), ([17], [17]), ([18, 14], [18]), ([16, 19], [16, 19]), ([20, 19, 0, 1, 2, 3, 4, 5, 6, 7, 8, 9, 10, 11, 12, 13, 14, 15, 16, 17, 18, 19, 20], [20])])
def spec_l3Put.B1 : List Nat := [0, 1, 3, 0, 8, 31, 63, 0, 128, 384, 1023, 2047, 0, 4096, 13184, 32767, 65535, 0, 131072, 422784, 1048575, 2097151]
theorem spec_l3Put.tab1 : rtab .any (opsOf Tryz.f60 1) = spec_l3Put.T1 := by kernel_rfl
theorem spec_l3Put.bits1 : waitsOk spec_l3Put.T1.2 spec_l3Put.B1 = true := by kernel_rfl
theorem spec_l3Put.calls (k : Nat) (a0_0 : ByteArray) (a0_1 : ByteArray) (a0_2 : Int) (a0_3 : Int) (a0_4 : Int) (r : ByteArray) (w : World) (h : spec_l3Put.f k a0_0 a0_1 a0_2 a0_3 a0_4 = some r) :
  Calls Tryz.prog 60 #[.agg #[.string a0_0, .string a0_1, .int .i64 a0_2, .int .i64 a0_3, .int .i64 a0_4]] w fun e w' => e = .returned (.string r) ∧ Below w.heap.size w w' := by
 have hu24 := Tryz.underlying24
 have HB := Aside0.mk (Below.refl w.heap.size w)
 have H : (if a0_0.size + 1 ≤ 9223372036854775807 then (if (a0_0 ++ (⟨#[32]⟩ : ByteArray)).size + a0_1.size ≤ 9223372036854775807 then (if ((a0_0 ++ (⟨#[32]⟩ : ByteArray)) ++ a0_1).size + 1 ≤ 9223372036854775807 then ((spec_l1Dec.f k a0_2).bind fun t244 => (if (((a0_0 ++ (⟨#[32]⟩ : ByteArray)) ++ a0_1) ++ (⟨#[32]⟩ : ByteArray)).size + t244.size ≤ 9223372036854775807 then (if ((((a0_0 ++ (⟨#[32]⟩ : ByteArray)) ++ a0_1) ++ (⟨#[32]⟩ : ByteArray)) ++ t244).size + 1 ≤ 9223372036854775807 then ((spec_l1Dec.f k a0_3).bind fun t245 => (if (((((a0_0 ++ (⟨#[32]⟩ : ByteArray)) ++ a0_1) ++ (⟨#[32]⟩ : ByteArray)) ++ t244) ++ (⟨#[32]⟩ : ByteArray)).size + t245.size ≤ 9223372036854775807 then (if ((((((a0_0 ++ (⟨#[32]⟩ : ByteArray)) ++ a0_1) ++ (⟨#[32]⟩ : ByteArray)) ++ t244) ++ (⟨#[32]⟩ : ByteArray)) ++ t245).size + 1 ≤ 9223372036854775807 then ((spec_l1Dec.f k a0_4).bind fun t246 => (if (((((((a0_0 ++ (⟨#[32]⟩ : ByteArray)) ++ a0_1) ++ (⟨#[32]⟩ : ByteArray)) ++ t244) ++ (⟨#[32]⟩ : ByteArray)) ++ t245) ++ (⟨#[32]⟩ : ByteArray)).size + t246.size ≤ 9223372036854775807 then (some ((((((((a0_0 ++ (⟨#[32]⟩ : ByteArray)) ++ a0_1) ++ (⟨#[32]⟩ : ByteArray)) ++ t244) ++ (⟨#[32]⟩ : ByteArray)) ++ t245) ++ (⟨#[32]⟩ : ByteArray)) ++ t246)) else (none))) else (none)) else (none))) else (none)) else (none))) else (none)) else (none)) else (none)) = some r := h
 clear h
 replace H := ip H
 obtain ⟨c2, H⟩ := H
 have c2b0 := eq_true c2
 have c2b1 := decide_eq_true c2
 have c2b2 := nf c2
 replace H := ip H
 obtain ⟨c3, H⟩ := H
 have c3b0 := eq_true c3
 have c3b1 := decide_eq_true c3
 have c3b2 := nf c3
 try (have c3b3 := c3b2; simp only [ByteArray.size_append, show (⟨#[32]⟩ : ByteArray).size = 1 from rfl] at c3b3)
 replace H := ip H
 obtain ⟨c4, H⟩ := H
 have c4b0 := eq_true c4
 have c4b1 := decide_eq_true c4
 have c4b2 := nf c4
 try (have c4b3 := c4b2; simp only [ByteArray.size_append, show (⟨#[32]⟩ : ByteArray).size = 1 from rfl] at c4b3)
 replace H := oa H
 obtain ⟨t244, A5, H⟩ := H
 replace H := ip H
 obtain ⟨c6, H⟩ := H
 have c6b0 := eq_true c6
 have c6b1 := decide_eq_true c6
 have c6b2 := nf c6
 try (have c6b3 := c6b2; simp only [ByteArray.size_append, show (⟨#[32]⟩ : ByteArray).size = 1 from rfl] at c6b3)
 replace H := ip H
 obtain ⟨c7, H⟩ := H
 have c7b0 := eq_true c7
 have c7b1 := decide_eq_true c7
 have c7b2 := nf c7
 try (have c7b3 := c7b2; simp only [ByteArray.size_append, show (⟨#[32]⟩ : ByteArray).size = 1 from rfl] at c7b3)
 replace H := oa H
 obtain ⟨t245, A8, H⟩ := H
 replace H := ip H
 obtain ⟨c9, H⟩ := H
 have c9b0 := eq_true c9
 have c9b1 := decide_eq_true c9
 have c9b2 := nf c9
 try (have c9b3 := c9b2; simp only [ByteArray.size_append, show (⟨#[32]⟩ : ByteArray).size = 1 from rfl] at c9b3)
 replace H := ip H
 obtain ⟨c10, H⟩ := H
 have c10b0 := eq_true c10
 have c10b1 := decide_eq_true c10
 have c10b2 := nf c10
 try (have c10b3 := c10b2; simp only [ByteArray.size_append, show (⟨#[32]⟩ : ByteArray).size = 1 from rfl] at c10b3)
 replace H := oa H
 obtain ⟨t246, A11, H⟩ := H
 replace H := ip H
 obtain ⟨c12, H⟩ := H
 have c12b0 := eq_true c12
 have c12b1 := decide_eq_true c12
 have c12b2 := nf c12
 try (have c12b3 := c12b2; simp only [ByteArray.size_append, show (⟨#[32]⟩ : ByteArray).size = 1 from rfl] at c12b3)
 obtain rfl := Option.some.inj H
 go_enter Tryz.func60, Tryz.ntmps60
 try go_wp2_with ((with_reducible refine gg ?_); first | (refine bE 1 #[.string a0_0, .string a0_1, .int .i64 a0_2, .int .i64 a0_3, .int .i64 a0_4] 24 ?_; intro gb243 hg w13 hbox hb; have BK243 := am (hbox); have GW243 := zB hg HB; have GE243 := zB hg HB; replace HB := kH HB hb; clear hb hbox hg) | (refine store_event (t := 24) (p := 1) (v := ?vo_) (w1 := ?wo_) ?hg ?ho ?hn ?hr ?_; (case ho => rfl); (case hg => rfl); (case hn => rfl); (case hr => go_simp; rfl); intro wq_ hW_; have BQ_ := am hW_; have hzq_ := am hW_; replace hW_ := am hW_))
 replace BK243 := am (blk_drew BK243.out)
 replace HB := am (below_drew1 HB.out)
 (try (clear hzq_ BQ_; obtain ⟨hW_⟩ := hW_; subst hW_))
 refine start_ (n := 22) (S := cs5 gb243 (.string a0_0) (.string a0_1) (.int .i64 a0_2) (.int .i64 a0_3) (.int .i64 a0_4)) (ds := []) (bm 22 0) (by kernel_rfl) rfl rfl (bz5 BK243) (fun hHeld => ?_); refine with_tabW spec_l3Put.tab1 spec_l3Put.bits1 (fun HT_ HW_ => ?_)
 generalize w13.drew = w14 at BK243 HB hHeld ⊢
 refine pA 0 3 (bm 22 1) HT_ ?_
 refine pA 3 6 (bm 22 9) HT_ ?_
 refine pA 7 10 (bm 22 137) HT_ ?_
 refine pA 12 15 (bm 22 4233) HT_ ?_
 refine pA 17 20 (bm 22 135305) HT_ ?_
 refine tA 1 4 (bm 22 135307) HT_ HW_ hHeld ?_
 refine pA 2 5 (bm 22 135311) HT_ ?_
 refine tA 4 7 (bm 22 135327) HT_ HW_ hHeld ?_
 refine pA 5 8 (bm 22 135359) HT_ ?_
 refine pA 6 9 (bm 22 135423) HT_ ?_
 refine tA 8 11 (bm 22 135679) HT_ HW_ hHeld ?_
 refine tA 13 16 (bm 22 143871) HT_ HW_ hHeld ?_
 refine tA 18 21 (bm 22 406015) HT_ HW_ hHeld ?_
 refine oA 9 (some 12) (bm 22 406527) HT_ fun K hK => ?_
 refine gA Tryz.func59 #[.int .i64 a0_2] ?_
 with_reducible refine (spec_l1Dec.calls k a0_2 t244 _ A5.out).mono ?_
 rintro e w15 ⟨rfl, hb⟩
 refine ⟨_, rfl, ?_⟩
 replace BK243 := kP _ BK243 hb
 replace HB := kH HB hb
 (try clear hb)
 (try clear hb2)
 (try clear hk)
 (try clear hi)
 refine hK.out _ _ (bz5 BK243) (fun hHeld => ?_)
 clear hK K
 refine nA (some 12) ?_
 refine pA 10 13 (bm 22 407551) HT_ ?_
 refine pA 11 14 (bm 22 409599) HT_ ?_
 refine oA 14 (some 17) (bm 22 425983) HT_ fun K hK => ?_
 refine gA Tryz.func59 #[.int .i64 a0_3] ?_
 with_reducible refine (spec_l1Dec.calls k a0_3 t245 _ A8.out).mono ?_
 rintro e w16 ⟨rfl, hb⟩
 refine ⟨_, rfl, ?_⟩
 replace BK243 := kP _ BK243 hb
 replace HB := kH HB hb
 (try clear hb)
 (try clear hb2)
 (try clear hk)
 (try clear hi)
 refine hK.out _ _ (bz5 BK243) (fun hHeld => ?_)
 clear hK K
 refine nA (some 17) ?_
 refine pA 15 18 (bm 22 458751) HT_ ?_
 refine pA 16 19 (bm 22 524287) HT_ ?_
 refine oA 19 (some 22) (bm 22 1048575) HT_ fun K hK => ?_
 refine gA Tryz.func59 #[.int .i64 a0_4] ?_
 with_reducible refine (spec_l1Dec.calls k a0_4 t246 _ A11.out).mono ?_
 rintro e w17 ⟨rfl, hb⟩
 refine ⟨_, rfl, ?_⟩
 replace BK243 := kP _ BK243 hb
 replace HB := kH HB hb
 (try clear hb)
 (try clear hb2)
 (try clear hk)
 (try clear hi)
 refine hK.out _ _ (bz5 BK243) (fun hHeld => ?_)
 clear hK K
 refine nA (some 22) ?_
 refine pA 20 23 (bm 22 2097151) HT_ ?_
 refine pA 21 2 (bm 22 4194303) HT_ ?_
 refine done_ (done_of HT_.out (by kernel_rfl)) ?_
 try go_wp2
 (try (clear hzq_ BQ_; obtain ⟨hW_⟩ := hW_; subst hW_))
 go_ret
 exact ⟨xE, xB HB⟩
def spec_l3Sum.f (k : Nat) (a0_0 : ByteArray) (a0_1 : ByteArray) (a0_2 : Int) (a0_3 : Int) (a0_4 : Int) : Option (ByteArray) := (spec_l3Put.f k a0_0 a0_1 a0_2 a0_3 a0_4).bind fun t248 => (if 5 + t248.size ≤ 9223372036854775807 then ((spec_l1Sum.f k ((⟨#[104, 101, 97, 100, 32]⟩ : ByteArray) ++ t248)).bind fun t249 => (some t249)) else (none))
theorem spec_l3Sum.mono : ∀ a0 a1 a2 a3 a4 k, LeO (spec_l3Sum.f k a0 a1 a2 a3 a4) (spec_l3Sum.f (k + 1) a0 a1 a2 a3 a4) := by
 intro a0 a1 a2 a3 a4 k
 unfold spec_l3Sum.f
 exact mo2 spec_l1Sum.mono spec_l3Put.mono
theorem spec_l3Sum.calls (k : Nat) (a0_0 : ByteArray) (a0_1 : ByteArray) (a0_2 : Int) (a0_3 : Int) (a0_4 : Int) (r : ByteArray) (w : World) (h : spec_l3Sum.f k a0_0 a0_1 a0_2 a0_3 a0_4 = some r) :
  Calls Tryz.prog 87 #[.agg #[.string a0_0, .string a0_1, .int .i64 a0_2, .int .i64 a0_3, .int .i64 a0_4]] w fun e w' => e = .returned (.string r) ∧ Below w.heap.size w w' := by
 have hu24 := Tryz.underlying24
 have HB := Aside0.mk (Below.refl w.heap.size w)
 have H : ((spec_l3Put.f k a0_0 a0_1 a0_2 a0_3 a0_4).bind fun t248 => (if 5 + t248.size ≤ 9223372036854775807 then ((spec_l1Sum.f k ((⟨#[104, 101, 97, 100, 32]⟩ : ByteArray) ++ t248)).bind fun t249 => (some t249)) else (none))) = some r := h
 clear h
 replace H := oa H
 obtain ⟨t248, A2, H⟩ := H
 replace H := ip H
 obtain ⟨c3, H⟩ := H
 have c3b0 := eq_true c3
 have c3b1 := decide_eq_true c3
 have c3b2 := nf c3
 replace H := oa H
 obtain ⟨t249, A4, H⟩ := H
 obtain rfl := Option.some.inj H
 go_enter Tryz.func87, Tryz.ntmps87
 go_wp2_with ((with_reducible refine gg ?_); first | (refine bE 1 #[.string a0_0, .string a0_1, .int .i64 a0_2, .int .i64 a0_3, .int .i64 a0_4] 24 ?_; intro gb247 hg w5 hbox hb; have BK247 := am (hbox); have GW247 := zB hg HB; have GE247 := zB hg HB; replace HB := kH HB hb; clear hb hbox hg; have hz6 := bc5 BK247) | (refine gL 4 Tryz.func60 #[.agg #[.string a0_0, .string a0_1, .int .i64 a0_2, .int .i64 a0_3, .int .i64 a0_4]] ?_; (with_reducible refine (spec_l3Put.calls k a0_0 a0_1 a0_2 a0_3 a0_4 t248 _ A2.out).mono ?_); rintro e w7 ⟨rfl, hb⟩; refine ⟨_, rfl, ?_⟩; replace BK247 := kP _ BK247 hb; replace HB := kH HB hb; (try clear hb)) | (refine gL 6 Tryz.func47 #[.string ((⟨#[104, 101, 97, 100, 32]⟩ : ByteArray) ++ t248)] ?_; (with_reducible refine (spec_l1Sum.calls k ((⟨#[104, 101, 97, 100, 32]⟩ : ByteArray) ++ t248) t249 _ A4.out).mono ?_); rintro e w8 ⟨rfl, hb⟩; refine ⟨_, rfl, ?_⟩; replace BK247 := kP _ BK247 hb; replace HB := kH HB hb; (try clear hb)))
 go_ret
 exact ⟨xE, xB HB⟩
def spec_l1Head.l0 : Nat → ByteArray → Int → Int → Option (Int)
 | 0, _, _, _ => none
 | k + 1, x0, x3, x4 => if x4 < 8 then (if 0 ≤ x4 then (if x4 < (x0.size : Int) then (if (bt x0 x4) ≥ 97 then (spec_l1Head.l0 k x0 (wrap64 ((wrap64 (x3 * 16)) + ((((bt x0 x4) - 97) % 256) + 10))) (wrap64 (x4 + 1))) else (spec_l1Head.l0 k x0 (wrap64 ((wrap64 (x3 * 16)) + (((bt x0 x4) - 48) % 256))) (wrap64 (x4 + 1)))) else (none)) else (none)) else (some (wrap64 (Int.tdiv x3 2)))
def spec_l1Head.f (k : Nat) (a0 : ByteArray) : Option (Int) := spec_l1Head.l0 k a0 0 0
theorem spec_l1Head.mono_l : ∀ k, (∀ y0 y1 y2, LeO (spec_l1Head.l0 k y0 y1 y2) (spec_l1Head.l0 (k + 1) y0 y1 y2))
 | 0 => fun _ _ _ r h => by simp [spec_l1Head.l0] at h
 | k + 1 => by
  have ih0 := spec_l1Head.mono_l k
  ·intro y0 y1 y2
   unfold spec_l1Head.l0
   exact mo1 ih0
theorem spec_l1Head.mono : ∀ a0 k, LeO (spec_l1Head.f k a0) (spec_l1Head.f (k + 1) a0) := by
 intro a0 k
 have ih0 := spec_l1Head.mono_l k
 unfold spec_l1Head.f
 exact mo1 ih0
theorem spec_l1Head.calls (k : Nat) (a0 : ByteArray) (r : Int) (w : World) (h : spec_l1Head.f k a0 = some r) :
  Calls Tryz.prog 120 #[.string a0] w fun e w' => e = .returned (.int .i64 r) ∧ Drawn0 w w' := by
 have H : (spec_l1Head.l0 k a0 0 0) = some r := h
 clear h
 have H' := Aside0.mk H
 clear H
 go_enter Tryz.func120, Tryz.ntmps120
 go_wp2
 go_loopg [3, 4] k (fun kq v3 v4 w' => ∃ (x3_1 : Int) (x4_1 : Int), v3 = .int .i64 x3_1 ∧ v4 = .int .i64 x4_1 ∧ Aside0 (spec_l1Head.l0 kq a0 x3_1 x4_1 = some r) ∧ Aside0 (kq ≤ k) ∧ Drawn0 w w')
 case atStart => exact ⟨(0), (0), xR, xR, H', ⟨Nat.le_refl _⟩, xW⟩
 case round =>
  clear H'
  try clear c1
  obtain ⟨x3_1, x4_1, rfl, rfl, HA, HK1, ⟨m1, rfl⟩⟩ := hrel
  cases gk with
  | zero => exact absurd HA.out (by simp [spec_l1Head.l0])
  | succ k1 =>
   have H := HA.out
   clear HA
   simp only [spec_l1Head.l0] at H
   by_cases c2 : x4_1 < 8
   rotate_left
   ·rw [if_neg c2] at H
    have c2b0 := decide_eq_false c2
    clear c2
    obtain rfl := Option.some.inj H
    go_wp2
    go_ret
    exact ⟨xR, xW⟩
   rw [if_pos c2] at H
   have c2b0 := decide_eq_true c2
   clear c2
   replace H := ipd H
   obtain ⟨c3b0, H⟩ := H
   replace H := ipd H
   obtain ⟨c4b0, H⟩ := H
   have p5 : 0 ≤ (x4_1 : Int) := of_decide_eq_true xA
   have q5 : x4_1 < (a0.size : Int) := of_decide_eq_true xA
   have hx5 := bt_at a0 x4_1
   replace p5 := eq_true p5
   replace q5 := eq_true q5
   have p6 : 0 ≤ (x4_1 : Int) := of_decide_eq_true xA
   have q6 : x4_1 < (a0.size : Int) := of_decide_eq_true xA
   have hx6 := bt_at a0 x4_1
   replace p6 := eq_true p6
   replace q6 := eq_true q6
   by_cases c7 : (bt a0 x4_1) ≥ 97
   rotate_left
   ·rw [if_neg c7] at H
    have c7b0 := decide_eq_false c7
    clear c7
    have H' := Aside0.mk H
    clear H
    go_wp2
    go_roundg k1
    case measure => have := HK1.out; omega
    case rel => exact ⟨(wrap64 ((wrap64 (x3_1 * 16)) + (((bt a0 x4_1) - 48) % 256))), (wrap64 (x4_1 + 1)), xR, xR, H', ⟨xL HK1⟩, xW⟩
   rw [if_pos c7] at H
   have c7b0 := decide_eq_true c7
   clear c7
   have H' := Aside0.mk H
   clear H
   have p8 : 0 ≤ (x4_1 : Int) := of_decide_eq_true xA
   have q8 : x4_1 < (a0.size : Int) := of_decide_eq_true xA
   have hx8 := bt_at a0 x4_1
   replace p8 := eq_true p8
   replace q8 := eq_true q8
   go_wp2
   go_roundg k1
   case measure => have := HK1.out; omega
   case rel => exact ⟨(wrap64 ((wrap64 (x3_1 * 16)) + ((((bt a0 x4_1) - 97) % 256) + 10))), (wrap64 (x4_1 + 1)), xR, xR, H', ⟨xL HK1⟩, xW⟩
def spec_l3Meets.f (k : Nat) (a0_0 : ByteArray) (a0_1 : ByteArray) (a0_2 : Int) (a0_3 : Int) (a0_4 : Int) : Option (Bool) := (spec_l3Sum.f k a0_0 a0_1 a0_2 a0_3 a0_4).bind fun t251 => ((spec_l1Head.f k t251).bind fun t252 => (some (decide ((wrap64 ((wrap64 (Int.tdiv t252 65536)) * a0_3)) < 32768))))
theorem spec_l3Meets.mono : ∀ a0 a1 a2 a3 a4 k, LeO (spec_l3Meets.f k a0 a1 a2 a3 a4) (spec_l3Meets.f (k + 1) a0 a1 a2 a3 a4) := by
 intro a0 a1 a2 a3 a4 k
 unfold spec_l3Meets.f
 exact mo2 spec_l1Head.mono spec_l3Sum.mono
def spec_l3Meets.T1 : Bool × List (List Nat × List Nat) := (true, [([], []), ([0], [0]), ([1, 1], [1]), ([2], [2]), ([], []), ([4], [4]), ([3, 5], [3, 5]), ([6], [6]), ([7, 2, 0, 1, 2, 3, 4, 5, 6, 7], [7])])
def spec_l3Meets.B1 : List Nat := [0, 1, 3, 7, 0, 16, 63, 127, 255]
theorem spec_l3Meets.tab1 : rtab .any (opsOf Tryz.f110 1) = spec_l3Meets.T1 := by kernel_rfl
theorem spec_l3Meets.bits1 : waitsOk spec_l3Meets.T1.2 spec_l3Meets.B1 = true := by kernel_rfl
theorem spec_l3Meets.calls (k : Nat) (a0_0 : ByteArray) (a0_1 : ByteArray) (a0_2 : Int) (a0_3 : Int) (a0_4 : Int) (r : Bool) (w : World) (h : spec_l3Meets.f k a0_0 a0_1 a0_2 a0_3 a0_4 = some r) :
  Calls Tryz.prog 110 #[.agg #[.string a0_0, .string a0_1, .int .i64 a0_2, .int .i64 a0_3, .int .i64 a0_4]] w fun e w' => e = .returned (.bool r) ∧ Below w.heap.size w w' := by
 have hu24 := Tryz.underlying24
 have HB := Aside0.mk (Below.refl w.heap.size w)
 have H : ((spec_l3Sum.f k a0_0 a0_1 a0_2 a0_3 a0_4).bind fun t251 => ((spec_l1Head.f k t251).bind fun t252 => (some (decide ((wrap64 ((wrap64 (Int.tdiv t252 65536)) * a0_3)) < 32768))))) = some r := h
 clear h
 replace H := oa H
 obtain ⟨t251, A2, H⟩ := H
 replace H := oa H
 obtain ⟨t252, A3, H⟩ := H
 obtain rfl := Option.some.inj H
 go_enter Tryz.func110, Tryz.ntmps110
 try go_wp2_with ((with_reducible refine gg ?_); first | (refine bE 1 #[.string a0_0, .string a0_1, .int .i64 a0_2, .int .i64 a0_3, .int .i64 a0_4] 24 ?_; intro gb250 hg w4 hbox hb; have BK250 := am (hbox); have GW250 := zB hg HB; have GE250 := zB hg HB; replace HB := kH HB hb; clear hb hbox hg) | (refine store_event (t := 24) (p := 1) (v := ?vo_) (w1 := ?wo_) ?hg ?ho ?hn ?hr ?_; (case ho => rfl); (case hg => rfl); (case hn => rfl); (case hr => go_simp; rfl); intro wq_ hW_; have BQ_ := am hW_; have hzq_ := am hW_; replace hW_ := am hW_))
 replace BK250 := am (blk_drew BK250.out)
 replace HB := am (below_drew1 HB.out)
 (try (clear hzq_ BQ_; obtain ⟨hW_⟩ := hW_; subst hW_))
 refine start_ (n := 9) (S := cs5 gb250 (.string a0_0) (.string a0_1) (.int .i64 a0_2) (.int .i64 a0_3) (.int .i64 a0_4)) (ds := []) (bm 9 0) (by kernel_rfl) rfl rfl (bz5 BK250) (fun hHeld => ?_); refine with_tabW spec_l3Meets.tab1 spec_l3Meets.bits1 (fun HT_ HW_ => ?_)
 generalize w4.drew = w5 at BK250 HB hHeld ⊢
 refine pA 4 7 (bm 9 16) HT_ ?_
 refine tA 0 3 (bm 9 17) HT_ HW_ hHeld ?_
 refine tA 5 8 (bm 9 49) HT_ HW_ hHeld ?_
 refine oA 1 (some 4) (bm 9 51) HT_ fun K hK => ?_
 refine gA Tryz.func87 #[.agg #[.string a0_0, .string a0_1, .int .i64 a0_2, .int .i64 a0_3, .int .i64 a0_4]] ?_
 with_reducible refine (spec_l3Sum.calls k a0_0 a0_1 a0_2 a0_3 a0_4 t251 _ A2.out).mono ?_
 rintro e w6 ⟨rfl, hb⟩
 refine ⟨_, rfl, ?_⟩
 replace BK250 := kP _ BK250 hb
 replace HB := kH HB hb
 (try clear hb)
 (try clear hb2)
 (try clear hk)
 (try clear hi)
 refine hK.out _ _ (bz5 BK250) (fun hHeld => ?_)
 clear hK K
 refine nA (some 4) ?_
 refine oA 2 (some 5) (bm 9 55) HT_ fun K hK => ?_
 refine gA Tryz.func120 #[.string t251] ?_
 with_reducible refine (spec_l1Head.calls k t251 t252 _ A3.out).mono ?_
 rintro e w' ⟨rfl, ⟨nd, rfl⟩⟩
 refine ⟨_, rfl, ?_⟩
 refine hK.out _ _ (bz5 BK250) (fun hHeld => ?_)
 clear hK K
 refine nA (some 5) ?_
 refine pA 3 6 (bm 9 63) HT_ ?_
 refine pA 6 9 (bm 9 127) HT_ ?_
 refine pA 7 10 (bm 9 255) HT_ ?_
 refine pA 8 2 (bm 9 511) HT_ ?_
 refine done_ (done_of HT_.out (by kernel_rfl)) ?_
 try go_wp2
 (try (clear hzq_ BQ_; obtain ⟨hW_⟩ := hW_; subst hW_))
 go_ret
 exact ⟨xE, xB HB⟩
def spec_l3Mine.l0 : Nat → ByteArray → ByteArray → Int → Int → Int → Option (ByteArray × ByteArray × Int × Int × Int × Bool)
 | 0, _, _, _, _, _ => none
 | k + 1, x254000, x254001, x254002, x254003, x254004 => if x254004 ≤ 400 then ((spec_l3Meets.f k x254000 x254001 x254002 x254003 x254004).bind fun t255 => (if t255 = true then (some (x254000, x254001, x254002, x254003, x254004, true)) else (spec_l3Mine.l0 k x254000 x254001 x254002 x254003 (wrap64 (x254004 + 1))))) else (some ((⟨#[]⟩ : ByteArray), (⟨#[]⟩ : ByteArray), 0, 0, 0, false))
def spec_l3Mine.f (k : Nat) (a0_0 : ByteArray) (a0_1 : ByteArray) (a0_2 : Int) (a0_3 : Int) (a0_4 : Int) : Option (ByteArray × ByteArray × Int × Int × Int × Bool) := spec_l3Mine.l0 k a0_0 a0_1 a0_2 a0_3 0
theorem spec_l3Mine.mono_l : ∀ k, (∀ y0 y1 y2 y3 y4, LeO (spec_l3Mine.l0 k y0 y1 y2 y3 y4) (spec_l3Mine.l0 (k + 1) y0 y1 y2 y3 y4))
 | 0 => fun _ _ _ _ _ r h => by simp [spec_l3Mine.l0] at h
 | k + 1 => by
  have ih0 := spec_l3Mine.mono_l k
  ·intro y0 y1 y2 y3 y4
   unfold spec_l3Mine.l0
   exact mo2 ih0 spec_l3Meets.mono
theorem spec_l3Mine.mono : ∀ a0 a1 a2 a3 a4 k, LeO (spec_l3Mine.f k a0 a1 a2 a3 a4) (spec_l3Mine.f (k + 1) a0 a1 a2 a3 a4) := by
 intro a0 a1 a2 a3 a4 k
 have ih0 := spec_l3Mine.mono_l k
 unfold spec_l3Mine.f
 exact mo2 ih0 spec_l3Meets.mono
theorem spec_l3Mine.calls (k : Nat) (a0_0 : ByteArray) (a0_1 : ByteArray) (a0_2 : Int) (a0_3 : Int) (a0_4 : Int) (r1 : ByteArray) (r2 : ByteArray) (r3 : Int) (r4 : Int) (r5 : Int) (r6 : Bool) (w : World) (h : spec_l3Mine.f k a0_0 a0_1 a0_2 a0_3 a0_4 = some (r1, r2, r3, r4, r5, r6)) :
  Calls Tryz.prog 88 #[.agg #[.string a0_0, .string a0_1, .int .i64 a0_2, .int .i64 a0_3, .int .i64 a0_4]] w fun e w' => e = .returned (.tuple #[.agg #[.string r1, .string r2, .int .i64 r3, .int .i64 r4, .int .i64 r5], .bool r6]) ∧ Below w.heap.size w w' := by
 have hu24 := Tryz.underlying24
 have HB := Aside0.mk (Below.refl w.heap.size w)
 have H : (spec_l3Mine.l0 k a0_0 a0_1 a0_2 a0_3 0) = some (r1, r2, r3, r4, r5, r6) := h
 clear h
 have H' := Aside0.mk H
 clear H
 go_enter Tryz.func88, Tryz.ntmps88
 go_wp2_with ((with_reducible refine gg ?_); first | (refine bE 1 #[.string a0_0, .string a0_1, .int .i64 a0_2, .int .i64 a0_3, .int .i64 a0_4] 24 ?_; intro gb253 hg w2 hbox hb; have BK253 := am (hbox); have GW253 := zB hg HB; have GE253 := zB hg HB; replace HB := kH HB hb; clear hb hbox hg) | (refine bE 2 #[.string (⟨#[]⟩ : ByteArray), .string (⟨#[]⟩ : ByteArray), .int .i64 0, .int .i64 0, .int .i64 0] 24 ?_; intro gb254 hg w3 hbox hb; have BK254 := am (hbox); have GW254 := zB hg HB; have GE254 := zB hg HB; replace HB := kH HB hb; have NB253_254 := nl hg (kb BK253); have NB254_253 := ng hg (kb BK253); replace BK253 := kP _ BK253 hb; clear hb hbox hg; have hnb4 := NB253_254.out; have hnc4 := NB254_253.out; have hz5 := bc5 BK253))
 go_loopg [] k (fun kq w' => ∃ (x254004_1 : Int) (x255000_1 : ByteArray) (x255001_1 : ByteArray) (x255002_1 : Int) (x255003_1 : Int) (x255004_1 : Int), Aside0 (spec_l3Mine.l0 kq a0_0 a0_1 a0_2 a0_3 x254004_1 = some (r1, r2, r3, r4, r5, r6)) ∧ Aside0 (kq ≤ k) ∧ Aside0 (w'.heap[gb253]? = some (.cells #[.string a0_0, .string a0_1, .int .i64 a0_2, .int .i64 a0_3, .int .i64 x254004_1] 24 (0, 0))) ∧ Aside0 (w'.heap[gb254]? = some (.cells #[.string x255000_1, .string x255001_1, .int .i64 x255002_1, .int .i64 x255003_1, .int .i64 x255004_1] 24 (0, 0))) ∧ Aside0 (Below w.heap.size w w'))
 case atStart => exact ⟨(0), ((⟨#[]⟩ : ByteArray)), ((⟨#[]⟩ : ByteArray)), (0), (0), (0), H', ⟨Nat.le_refl _⟩, ⟨fb BK253⟩, ⟨fb BK254⟩, ⟨xB HB⟩⟩
 case round =>
  clear H'
  try clear p2
  try clear c4
  try clear hz5
  obtain ⟨x254004_1, x255000_1, x255001_1, x255002_1, x255003_1, x255004_1, HA, HK1, BK253, BK254, HB⟩ := hrel
  cases gk with
  | zero => exact absurd HA.out (by simp [spec_l3Mine.l0])
  | succ k1 =>
   have H := HA.out
   clear HA
   simp only [spec_l3Mine.l0] at H
   by_cases c6 : x254004_1 ≤ 400
   rotate_left
   ·rw [if_neg c6] at H
    have c6b0 := decide_eq_false c6
    clear c6
    simp only [Option.some.injEq, Prod.mk.injEq] at H
    obtain ⟨rfl, rfl, rfl, rfl, rfl, rfl⟩ := H
    have hnb18 := NB253_254.out
    have hnc18 := NB254_253.out
    have hz19 := bc5 BK253
    have hz20 := bc5 BK254
    go_wp2
    refine bodyPost_ret (results_ct rfl _ _ gb254 24 #[.string (⟨#[]⟩ : ByteArray), .string (⟨#[]⟩ : ByteArray), .int .i64 0, .int .i64 0, .int .i64 0] (0, 0) _ rfl (fb BK254) Tryz.underlying24 rfl (by kernel_rfl)) rfl ?_
    exact ⟨xE, xB HB⟩
   rw [if_pos c6] at H
   have c6b0 := decide_eq_true c6
   clear c6
   replace H := oa H
   obtain ⟨t255, A7, H⟩ := H
   have hnb9 := NB253_254.out
   have hnc9 := NB254_253.out
   have hz10 := bc5 BK253
   go_upto_if 13 with ((with_reducible refine gg ?_); refine gL 13 Tryz.func110 #[.agg #[.string a0_0, .string a0_1, .int .i64 a0_2, .int .i64 a0_3, .int .i64 x254004_1]] ?_; (with_reducible refine (spec_l3Meets.calls k1 a0_0 a0_1 a0_2 a0_3 x254004_1 t255 _ A7.out).mono ?_); rintro e w11 ⟨rfl, hb⟩; refine ⟨_, rfl, ?_⟩; replace BK253 := kP _ BK253 hb; replace BK254 := kP _ BK254 hb; replace HB := kH HB hb; (try clear hb); have hz12 := bc5 BK253)
   by_cases c8 : t255 = true
   rotate_left
   ·replace c8 := Bool.eq_false_iff.mpr c8
    subst c8
    try simp only [Bool.not_true, Bool.not_false]
    rw [if_neg (show ¬ (false = true) by decide)] at H
    have H' := Aside0.mk H
    clear H
    go_wp2
    go_roundg k1
    case measure => have := HK1.out; omega
    case rel => exact ⟨(wrap64 (x254004_1 + 1)), (x255000_1), (x255001_1), (x255002_1), (x255003_1), (x255004_1), H', ⟨xL HK1⟩, ⟨fb BK253⟩, ⟨fb BK254⟩, ⟨xB HB⟩⟩
   subst c8
   try simp only [Bool.not_true, Bool.not_false]
   rw [if_pos rfl] at H
   simp only [Option.some.injEq, Prod.mk.injEq] at H
   obtain ⟨rfl, rfl, rfl, rfl, rfl, rfl⟩ := H
   have hz13 := bc5 BK254
   go_wp2
   refine bodyPost_ret (results_ct rfl _ _ gb254 24 #[.string a0_0, .string a0_1, .int .i64 a0_2, .int .i64 a0_3, .int .i64 x254004_1] (0, 0) _ rfl (fb BK254) Tryz.underlying24 rfl (by kernel_rfl)) rfl ?_
   exact ⟨xE, xB HB⟩
def spec_l4Copy.l0 : Nat → List (S82) → List (S82) → Int → Option ((List (S82)))
 | 0, _, _, _ => none
 | k + 1, x0, x3, x4 => if x4 < (x0.length : Int) then (if 0 ≤ x4 then ((some (([] : List ByteArray) : List ByteArray)).bind fun y260 => (if y260.length + ((rd_T82 x0 x4).f1).length < 8796093022208 then (if x3.length < 1759218604441 then (spec_l4Copy.l0 k x0 (x3 ++ [(⟨(⟨(rd_T82 x0 x4).f0.f0, (rd_T82 x0 x4).f0.f1, (rd_T82 x0 x4).f0.f2, (rd_T82 x0 x4).f0.f3, (rd_T82 x0 x4).f0.f4⟩ : S24), (y260 ++ ((rd_T82 x0 x4).f1))⟩ : S82)]) (wrap64 (x4 + 1))) else (none)) else (none))) else (none)) else (some x3)
def spec_l4Copy.f (k : Nat) (l0 : List (S82)) : Option ((List (S82))) := spec_l4Copy.l0 k l0 (([] : List (S82))) 0
theorem spec_l4Copy.mono_l : ∀ k, (∀ y0 y1 y2, LeO (spec_l4Copy.l0 k y0 y1 y2) (spec_l4Copy.l0 (k + 1) y0 y1 y2))
 | 0 => fun _ _ _ r h => by simp [spec_l4Copy.l0] at h
 | k + 1 => by
  have ih0 := spec_l4Copy.mono_l k
  ·intro y0 y1 y2
   unfold spec_l4Copy.l0
   exact mo1 ih0
theorem spec_l4Copy.mono : ∀ a0 k, LeO (spec_l4Copy.f k a0) (spec_l4Copy.f (k + 1) a0) := by
 intro a0 k
 have ih0 := spec_l4Copy.mono_l k
 unfold spec_l4Copy.f
 exact mo1 ih0
def spec_l4Copy.T5 : Bool × List (List Nat × List Nat) := (true, [([], []), ([], []), ([], []), ([1, 2], [1, 2]), ([3], [3]), ([4], [4]), ([], []), ([], []), ([], []), ([7, 8], [7, 8]), ([9], [9]), ([10], [10]), ([6, 11], [6, 11]), ([5, 12], [5, 12]), ([13], [13]), ([0, 14, 12], [0, 14]), ([15, 15, 0, 1, 2, 3, 4, 5, 6, 7, 8, 9, 10, 11, 12, 13, 14, 15], [0, 15])])
def spec_l4Copy.B5 : List Nat := [0, 0, 0, 6, 14, 30, 0, 0, 0, 384, 896, 1920, 4032, 8190, 16382, 32767, 65535]
theorem spec_l4Copy.tab5 : rtab .any (opsOf Tryz.f89 5) = spec_l4Copy.T5 := by kernel_rfl
theorem spec_l4Copy.bits5 : waitsOk spec_l4Copy.T5.2 spec_l4Copy.B5 = true := by kernel_rfl
theorem spec_l4Copy.calls (k : Nat) (A0 : Option Addr) (c0 : Nat) (l0 : List (S82)) (r : List (S82)) (w : World) (hr0 : Kd.C k82 w A0 l0.length l0) (hc0 : l0.length ≤ c0) (h : spec_l4Copy.f k l0 = some r) :
  Calls Tryz.prog 89 #[.slice A0 l0.length c0] w fun e w' => ∃ v0_ : Value, e = .returned (v0_) ∧ Kd.S k82 82 w' w.heap.size (fun _ => True) v0_ r ∧ Below w.heap.size w w' := by
 have hu24 := Tryz.underlying24
 have hu82 := Tryz.underlying82
 have HR0 := Aside0.mk hr0
 have HC0 := Aside0.mk hc0
 clear hr0 hc0
 have HB := Aside0.mk (Below.refl w.heap.size w)
 have H : (spec_l4Copy.l0 k l0 (([] : List (S82))) 0) = some r := h
 clear h
 obtain ⟨y256, Ny256⟩ := yA (([] : List (S82)) : List (S82))
 rw [← Ny256.out] at H
 have H' := Aside0.mk H
 clear H
 go_enter Tryz.func89, Tryz.ntmps89
 go_wp2_with ((with_reducible refine gate_dst (N := 5) rfl ?_); refine Kd.S_lit k82 _ 82 ?hg (N := 5) ?hd (xs := ([] : List (S82))) (inner := []) (ok := fun _ => True) (okp := fun _ => True) ?hr ?hp (fun _ hk => hk) trivial (Below.refl _ _) (Nat.le_refl _) (by simp) ?_; (case hd => rfl); (case hg => rfl); (case hr => first | (go_simp; done) | (go_simp; rfl)); (case hp => exact xP); intro v257 w2 ho3 hb hg_ hnew_; clear hg_ hnew_; (first | rw [← Ny256.out] at ho3 | (simp only [Int.reduceToNat] at ho3; rw [← Ny256.out] at ho3)); have HO258 := am (Kd.S_lower ho3 (below_size (bl HB))); replace HB := kH HB hb; clear hb ho3)
 go_loopg [3, 4] k (fun kq v3 v4 w' => ∃ (x3_1 : List (S82)) (x4_1 : Int), v4 = .int .i64 x4_1 ∧ Aside0 (spec_l4Copy.l0 kq l0 x3_1 x4_1 = some r) ∧ Aside0 (kq ≤ k) ∧ Aside0 (Kd.S k82 82 w' w.heap.size (fun _ => True) v3 x3_1) ∧ Aside0 (Below w.heap.size w w'))
 case atStart => exact ⟨(y256), (0), xR, H', ⟨Nat.le_refl _⟩, ⟨sx HO258⟩, ⟨bl HB⟩⟩
 case round =>
  clear H'
  try clear p2
  obtain ⟨x3_1, x4_1, rfl, HA, HK1, HO_3, HB⟩ := hrel
  cases gk with
  | zero => exact absurd HA.out (by simp [spec_l4Copy.l0])
  | succ k1 =>
   have H := HA.out
   clear HA
   simp only [spec_l4Copy.l0] at H
   by_cases c4 : x4_1 < (l0.length : Int)
   rotate_left
   ·rw [if_neg c4] at H
    have c4b0 := decide_eq_false c4
    clear c4
    obtain rfl := Option.some.inj H
    go_wp2
    go_ret
    exact ⟨_, xE, sx HO_3, bl HB⟩
   rw [if_pos c4] at H
   have c4b0 := decide_eq_true c4
   clear c4
   replace H := ipd H
   obtain ⟨c5b0, H⟩ := H
   obtain ⟨y260, Ny260⟩ := yA (([] : List ByteArray) : List ByteArray)
   rw [← Ny260.out] at H
   replace H := ipa H
   obtain ⟨LMc6, H⟩ := H
   obtain ⟨y264, Ny264⟩ := yA (y260 ++ ((rd_T82 l0 x4_1).f1) : List ByteArray)
   rw [← Ny264.out] at H
   replace H := ipa H
   obtain ⟨LMc7, H⟩ := H
   obtain ⟨y267, Ny267⟩ := yA (x3_1 ++ [(⟨(⟨(rd_T82 l0 x4_1).f0.f0, (rd_T82 l0 x4_1).f0.f1, (rd_T82 l0 x4_1).f0.f2, (rd_T82 l0 x4_1).f0.f3, (rd_T82 l0 x4_1).f0.f4⟩ : S24), y264⟩ : S82)] : List (S82))
   rw [← Ny267.out] at H
   have H' := Aside0.mk H
   clear H
   try go_wp2
   replace HO_3 := am (Kd.S_drew HO_3.out)
   replace HB := am (below_drew1 HB.out)
   have p259 : 0 ≤ (x4_1 : Int) := of_decide_eq_true xA
   have q259 : x4_1 < (l0.length : Int) := of_decide_eq_true xA
   obtain ⟨ad259, A259_5, c259_5, e259, hx259_0, hx259_1, hx259_2, hx259_3, hx259_4, hx259_5, hl259_5, hi259_5⟩ := at_T82 HR0.out x4_1 p259 q259
   have hw259_5 := hx259_5
   have hw259_4 := hx259_4
   have hw259_3 := hx259_3
   have hw259_2 := hx259_2
   have hw259_1 := hx259_1
   have hw259_0 := hx259_0
   cases e259
   replace hx259_0 := hc HB hx259_0
   replace hx259_1 := hc HB hx259_1
   replace hx259_2 := hc HB hx259_2
   replace hx259_3 := hc HB hx259_3
   replace hx259_4 := hc HB hx259_4
   replace hx259_5 := hc HB hx259_5
   have HR259_5 := Aside0.mk hi259_5
   have HC259_5 := Aside0.mk hl259_5
   clear hi259_5 hl259_5
   replace p259 := eq_true p259
   replace q259 := eq_true q259
   have p263 : 0 ≤ (x4_1 : Int) := of_decide_eq_true xA
   have q263 : x4_1 < (l0.length : Int) := of_decide_eq_true xA
   obtain ⟨ad263, A263_5, c263_5, e263, hx263_0, hx263_1, hx263_2, hx263_3, hx263_4, hx263_5, hl263_5, hi263_5⟩ := at_T82 HR0.out x4_1 p263 q263
   have hw263_5 := hx263_5
   have hw263_4 := hx263_4
   have hw263_3 := hx263_3
   have hw263_2 := hx263_2
   have hw263_1 := hx263_1
   have hw263_0 := hx263_0
   obtain rfl : ad259 = ad263 := (by injection e263)
   replace hx263_0 := hc HB hx263_0
   replace hx263_1 := hc HB hx263_1
   replace hx263_2 := hc HB hx263_2
   replace hx263_3 := hc HB hx263_3
   replace hx263_4 := hc HB hx263_4
   replace hx263_5 := hc HB hx263_5
   have HR263_5 := Aside0.mk hi263_5
   have HC263_5 := Aside0.mk hl263_5
   clear hi263_5 hl263_5
   replace p263 := eq_true p263
   replace q263 := eq_true q263
   have ea_ := Option.some.inj (hx259_5.symm.trans hx263_5)
   injection ea_ with ea_ en_ ec_
   subst ea_
   subst ec_
   clear en_
   refine start_ (n := 17) (S := fun w' => w'.cell? (ad259.add ((x4_1).toNat * 6)) = some (.string ((rd_T82 l0 x4_1).f0.f0)) ∧ w'.cell? ⟨(ad259.add ((x4_1).toNat * 6)).block, (ad259.add ((x4_1).toNat * 6)).off + 1, none⟩ = some (.string ((rd_T82 l0 x4_1).f0.f1)) ∧ w'.cell? ⟨(ad259.add ((x4_1).toNat * 6)).block, (ad259.add ((x4_1).toNat * 6)).off + 2, none⟩ = some (.int .i64 ((rd_T82 l0 x4_1).f0.f2)) ∧ w'.cell? ⟨(ad259.add ((x4_1).toNat * 6)).block, (ad259.add ((x4_1).toNat * 6)).off + 3, none⟩ = some (.int .i64 ((rd_T82 l0 x4_1).f0.f3)) ∧ w'.cell? ⟨(ad259.add ((x4_1).toNat * 6)).block, (ad259.add ((x4_1).toNat * 6)).off + 4, none⟩ = some (.int .i64 ((rd_T82 l0 x4_1).f0.f4)) ∧ w'.cell? ⟨(ad259.add ((x4_1).toNat * 6)).block, (ad259.add ((x4_1).toNat * 6)).off + 5, none⟩ = some (.slice A259_5 ((rd_T82 l0 x4_1).f1).length c259_5) ∧ w'.cell? (ad259.add ((x4_1).toNat * 6)) = some (.string ((rd_T82 l0 x4_1).f0.f0)) ∧ w'.cell? ⟨(ad259.add ((x4_1).toNat * 6)).block, (ad259.add ((x4_1).toNat * 6)).off + 1, none⟩ = some (.string ((rd_T82 l0 x4_1).f0.f1)) ∧ w'.cell? ⟨(ad259.add ((x4_1).toNat * 6)).block, (ad259.add ((x4_1).toNat * 6)).off + 2, none⟩ = some (.int .i64 ((rd_T82 l0 x4_1).f0.f2)) ∧ w'.cell? ⟨(ad259.add ((x4_1).toNat * 6)).block, (ad259.add ((x4_1).toNat * 6)).off + 3, none⟩ = some (.int .i64 ((rd_T82 l0 x4_1).f0.f3)) ∧ w'.cell? ⟨(ad259.add ((x4_1).toNat * 6)).block, (ad259.add ((x4_1).toNat * 6)).off + 4, none⟩ = some (.int .i64 ((rd_T82 l0 x4_1).f0.f4)) ∧ w'.cell? ⟨(ad259.add ((x4_1).toNat * 6)).block, (ad259.add ((x4_1).toNat * 6)).off + 5, none⟩ = some (.slice A259_5 ((rd_T82 l0 x4_1).f1).length c259_5)) (ds := []) (bm 17 0) (by kernel_rfl) rfl rfl ⟨(hd HB hw259_0), (hd HB hw259_1), (hd HB hw259_2), (hd HB hw259_3), (hd HB hw259_4), (hd HB hw259_5), (hd HB hw263_0), (hd HB hw263_1), (hd HB hw263_2), (hd HB hw263_3), (hd HB hw263_4), (hd HB hw263_5)⟩ (fun hHeld => ?_); refine with_tabW spec_l4Copy.tab5 spec_l4Copy.bits5 (fun HT_ HW_ => ?_)
   generalize wr.drew = w8 at HO_3 HB HR259_5 HR263_5 hx259_0 hx259_1 hx259_2 hx259_3 hx259_4 hx259_5 hx263_0 hx263_1 hx263_2 hx263_3 hx263_4 hx263_5 hHeld ⊢
   refine pA 0 12 (bm 17 1) HT_ ?_
   refine pA 1 13 (bm 17 3) HT_ ?_
   refine pA 2 14 (bm 17 7) HT_ ?_
   refine pA 3 15 (bm 17 15) HT_ ?_
   refine pA 4 16 (bm 17 31) HT_ ?_
   refine pA 7 19 (bm 17 159) HT_ ?_
   refine pA 8 20 (bm 17 415) HT_ ?_
   refine pA 9 21 (bm 17 927) HT_ ?_
   refine pA 10 22 (bm 17 1951) HT_ ?_
   refine tA 5 17 (bm 17 1983) HT_ HW_ hHeld ?_
   refine tA 11 23 (bm 17 4031) HT_ HW_ hHeld ?_
   refine oA 6 (some 18) (bm 17 4095) HT_ fun K hK => ?_
   refine Kd.R_lit_step Kd.string _ 9 ?hg (N := 18) ?hd (xs := ([] : List ByteArray)) (inner := []) (ok := fun _ => True) (okp := fun _ => True) ?hr ?hp (fun _ hk => hk) trivial (Below.refl _ _) (Nat.le_refl _) (by simp) ?_; (case hd => rfl); (case hg => rfl); (case hr => first | (go_simp; done) | (go_simp; rfl)); (case hp => exact (Reps.none _ _))
   intro v261 w9 ho10 hb hg_ hnew_
   clear hg_ hnew_
   (first | rw [← Ny260.out] at ho10 | (simp only [Int.reduceToNat] at ho10; rw [← Ny260.out] at ho10))
   replace HO_3 := am (Kd.S_elder' (sx HO_3) (Kd.R_base ho10) hb)
   have HO262 := am (Kd.R_lower ho10 (below_size (bl HB)))
   replace HB := kH HB hb
   clear hb ho10
   refine hK.out _ _ ⟨(hd HB hw259_0), (hd HB hw259_1), (hd HB hw259_2), (hd HB hw259_3), (hd HB hw259_4), (hd HB hw259_5), (hd HB hw263_0), (hd HB hw263_1), (hd HB hw263_2), (hd HB hw263_3), (hd HB hw263_4), (hd HB hw263_5)⟩ (fun hHeld => ?_)
   clear hK K
   refine nA (some 18) ?_
   refine oA 12 (some 24) (bm 17 8191) HT_ fun K hK => ?_
   refine Kd.R_append_rows_step Kd.string (w0 := w) w.heap.size (by rfl) (.tmp 18) (.tmp 23) 53 9 (.string ⟨#[]⟩) 16 rfl Tryz.underlying53 info9 rfl (by decide) (by omega) v261 y260 ((rd_T82 l0 x4_1).f1) _ _ _ (fun _ => True) (fun _ => False) rfl rfl ?aO ?aR (fun _ _ h => h) (fun _ h => h.elim) ?aF ?aB ?aS ?aL ?_
   (case aR => exact cb HR263_5 HB)
   (case aB => exact (bl HB))
   (case aF => exact (fun _ _ => trivial))
   (case aO => exact (ra HO262))
   (case aS => exact (below_size (bl HB)))
   (case aL => have := LMc6.out; omega)
   intro v265 w11 ho hb hg hat
   rw [← Ny264.out] at ho
   have n0_ := Aside0.mk (Kd.S_after (ok := (fun _ => True)) (sx HO_3) hg hat)
   have n1_ := Aside0.mk (hb)
   have n2_ := Aside0.mk (ho)
   clear HO_3
   clear HB
   clear HO262
   have HO_3 := n0_
   have HB := n1_
   have HO266 := n2_
   clear n0_ n1_ n2_
   clear ho hb hg hat
   obtain ⟨Ao12, co12, eo12⟩ := Kd.R_slice HO266.out
   (first | subst eo12 | (injection eo12 with f1_ f2_ f3_; have f4_ := f1_.symm; have f5_ := f3_.symm; clear f1_ f2_ f3_; subst f4_; subst f5_))
   refine hK.out _ _ ⟨(hd HB hw259_0), (hd HB hw259_1), (hd HB hw259_2), (hd HB hw259_3), (hd HB hw259_4), (hd HB hw259_5), (hd HB hw263_0), (hd HB hw263_1), (hd HB hw263_2), (hd HB hw263_3), (hd HB hw263_4), (hd HB hw263_5)⟩ (fun hHeld => ?_)
   clear hK K
   refine nA (some 24) ?_
   refine pA 13 25 (bm 17 16383) HT_ ?_
   refine oA 14 (some 26) (bm 17 32767) HT_ fun K hK => ?_
   refine value_ (w1 := ?_) (v := ?_) (by rfl) rfl ?_ ?_
   rotate_left 2
   ·go_simp
    constructor
    ·rfl
    ·rfl
   refine hK.out _ _ ⟨ca (hd HB hw259_0), ca (hd HB hw259_1), ca (hd HB hw259_2), ca (hd HB hw259_3), ca (hd HB hw259_4), ca (hd HB hw259_5), ca (hd HB hw263_0), ca (hd HB hw263_1), ca (hd HB hw263_2), ca (hd HB hw263_3), ca (hd HB hw263_4), ca (hd HB hw263_5)⟩ (fun hHeld => ?_)
   clear hK K
   refine nA (some 26) ?_
   refine oA 15 (some 27) (bm 17 65535) HT_ fun K hK => ?_
   refine Kd.S_append_step k82 (w0 := w) w.heap.size (by rfl) (.tmp 12) (.tmp 26) 79 82 (.agg #[(.string ⟨#[]⟩), (.string ⟨#[]⟩), (.int .i64 0), (.int .i64 0), (.int .i64 0), (.slice none 0 0)]) 80 rfl Tryz.underlying79 info82 rfl (by decide) (by omega) u3 x3_1 (⟨(⟨(rd_T82 l0 x4_1).f0.f0, (rd_T82 l0 x4_1).f0.f1, (rd_T82 l0 x4_1).f0.f2, (rd_T82 l0 x4_1).f0.f3, (rd_T82 l0 x4_1).f0.f4⟩ : S24), y264⟩ : S82) [.string ((rd_T82 l0 x4_1).f0.f0), .string ((rd_T82 l0 x4_1).f0.f1), .int .i64 ((rd_T82 l0 x4_1).f0.f2), .int .i64 ((rd_T82 l0 x4_1).f0.f3), .int .i64 ((rd_T82 l0 x4_1).f0.f4), .slice Ao12 y264.length co12] (fun _ => True) (fun k_ => some k_ = (.slice Ao12 y264.length co12 : Value).ownBlock) rfl rfl ?aP (fun k_ hk_ => ((Kd.R_mono (ok' := fun k_ => ((fun _ => True)) k_ ∧ some k_ ≠ (u3 : Value).ownBlock) (Kd.R_apart' (HO266.out) (Kd.S_typed HO_3.out) (by decide)) (fun k_ hk => ⟨trivial, hk.2⟩))).1 k_ hk_.symm) ?aF ?aO ?aB ?aS ?aL ?_
   (case aP => exact k82_mkM _ _ _ (⟨(⟨(rd_T82 l0 x4_1).f0.f0, (rd_T82 l0 x4_1).f0.f1, (rd_T82 l0 x4_1).f0.f2, (rd_T82 l0 x4_1).f0.f3, (rd_T82 l0 x4_1).f0.f4⟩ : S24), y264⟩ : S82) (Kd.R_mono (Kd.R_tight rfl (Kd.R_mono (ok' := fun k_ => ((fun _ => True)) k_ ∧ some k_ ≠ (u3 : Value).ownBlock) (Kd.R_apart' (HO266.out) (Kd.S_typed HO_3.out) (by decide)) (fun k_ hk => ⟨trivial, hk.2⟩))) (fun _ h_ => h_)))
   (case aB => exact (bl HB))
   (case aF => exact (fun _ _ => trivial))
   (case aO => exact (by (with_reducible repeat (first | apply Kd.S_alloc | apply Kd.S_drewN | apply Kd.S_drew)); exact Kd.S_mono HO_3.out (fun k_ hk => ⟨trivial, fun e_ => hk.2 e_⟩)))
   (case aS => exact (below_size (bl HB)))
   (case aL => have := LMc7.out; omega)
   intro v268 w13 ho hb hg hat
   rw [← Ny267.out] at ho
   have n0_ := Aside0.mk (hb)
   have n1_ := Aside0.mk (ho)
   clear HB
   clear HO_3
   clear HO266
   have HB := n0_
   have HO269 := n1_
   clear n0_ n1_
   clear ho hb hg hat
   refine hK.out _ _ ⟨(hd HB hw259_0), (hd HB hw259_1), (hd HB hw259_2), (hd HB hw259_3), (hd HB hw259_4), (hd HB hw259_5), (hd HB hw263_0), (hd HB hw263_1), (hd HB hw263_2), (hd HB hw263_3), (hd HB hw263_4), (hd HB hw263_5)⟩ (fun hHeld => ?_)
   clear hK K
   refine nA (some 27) ?_
   refine pA 16 3 (bm 17 131071) HT_ ?_
   refine done_ (done_of HT_.out (by kernel_rfl)) ?_
   try go_wp2
   go_roundg k1
   case measure => have := HK1.out; omega
   case rel => exact ⟨(y267), (wrap64 (x4_1 + 1)), xR, H', ⟨xL HK1⟩, ⟨sx HO269⟩, ⟨bl HB⟩⟩

end Go.Proofs.YtgjljbaadglpnaaGreatDoor.PFnPaidPut
