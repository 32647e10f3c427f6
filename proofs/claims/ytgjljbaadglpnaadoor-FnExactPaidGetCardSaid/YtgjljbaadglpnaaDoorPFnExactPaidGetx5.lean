/- Functions of the program and what each answers: the kit's print, shortened (wip/press2.py). -/
import Derived.Test.YtgjljbaadglpnaaDoorPFnExactPaidGetx0
import Derived.Test.YtgjljbaadglpnaaDoorPFnExactPaidGetx3
namespace Go.Proofs.YtgjljbaadglpnaaDoor.PFnExactPaidGet
open Go.Proofs.YtgjljbaadglpnaaDoor.Sq Go.RowKit Go.Proofs.YtgjljbaadglpnaaDoorW.PrintWords Go.Proofs.YtgjljbaadglpnaaDoorW.PrintLast Go.Proofs.YtgjljbaadglpnaaDoorW.PrintMore
attribute [local go_sem] max2_int min2_int max_two min_two max_three min_three max_four min_four   -- for this text's walks alone
set_option linter.unusedVariables false
set_option linter.unusedSimpArgs false

/-! ### spec_l9Words: function 26, by hand -/
def spec_l9Words.f (k : Nat) (a0 : ByteArray) (a1 : ByteArray) : Option (List ByteArray × Bool) := (spec_l1Cut.f k a0 32 (a0.size : Int)).bind fun t => if 1 ≤ t.length then some (t.drop 1, (rdOf ByteArray.empty t 0).toList == a1.toList) else none
theorem spec_l9Words.mono : ∀ a0 a1 k, LeO (spec_l9Words.f k a0 a1) (spec_l9Words.f (k + 1) a0 a1) := by
 intro a0 a1 k
 unfold spec_l9Words.f
 exact LeO.bind (spec_l1Cut.mono _ _ _ _) (fun _ => LeO.refl _)
set_option maxHeartbeats 64000000 in
set_option maxRecDepth 100000 in
theorem spec_l9Words.calls (k : Nat) (a0 : ByteArray) (a1 : ByteArray) (r1 : List ByteArray) (r2 : Bool) (w : World) (h : spec_l9Words.f k a0 a1 = some (r1, r2)) :
  Calls Tryd.prog 26 #[.string a0, .string a1] w fun e w' => ∃ v0_ : Value, e = .returned (.tuple #[v0_, .bool r2]) ∧ Kd.Q Kd.string 9 w' w.heap.size (fun _ => True) v0_ r1 ∧ Below w.heap.size w w' := by
 unfold spec_l9Words.f at h
 obtain ⟨t, A, h⟩ := Option.bind_eq_some_iff.mp h
 by_cases h1 : 1 ≤ t.length
 rotate_left
 ·rw [if_neg h1] at h
  exact absurd h (by simp)
 rw [if_pos h1] at h
 simp only [Option.some.injEq, Prod.mk.injEq] at h
 obtain ⟨e1, rfl⟩ := h
 have AA := Aside0.mk A
 clear A
 go_enter Tryd.func26, Tryd.ntmps26
 go_wp2_with (go_at_call 25; refine (spec_l1Cut.calls k a0 32 (a0.size : Int) t _ AA.out).mono ?_; rintro e w4 ⟨v, rfl, ho, hb⟩; obtain ⟨Ao, co, eo⟩ := Kd.R_slice ho; subst eo; have HO := Aside0.mk ho; have HB := Aside0.mk hb; clear ho hb)
 obtain ⟨ad, ea, hx⟩ := Kd.at_string (Kd.R_reads' HO.out).2.2 0 (by omega) (by omega)
 subst ea
 obtain ⟨i0, hi0, _, hsz, _⟩ := info_parts info9
 have hcut := cut_from (P := Tryd.prog) 56 9 .i64 Tryd.underlying56 hi0 1 hsz (some ad) t.length co 1 (by omega) (by omega)
 have HQ := Kd.Q_drop (k := 1) (Kd.Q_of_R HO.out) h1
 rw [e1] at HQ
 obtain ⟨vv, hvv⟩ : ∃ vv : Value, vv = .slice (if co = 1 then some ad else (some ad).map (·.add (1 * 1))) (t.length - 1) (co - 1) := ⟨_, rfl⟩
 replace hcut : ∀ W : World, (Instr.slice 56 (.slice (some ad) t.length co) (some (.int .i64 1)) none none).run Tryd.prog W = .ok vv W := by rw [hvv]; exact hcut
 have HQ' := Aside0.mk (show Kd.Q Kd.string 9 w4 w.heap.size (fun _ => True) vv r1 from by rw [hvv]; exact HQ)
 clear HQ hvv e1
 (try rw [show ((0 : Int)).toNat = 0 from rfl] at hx)
 (try rw [Addr.add_zero'] at hx)
 have h0 : decide (0 < (t.length : Int)) = true := decide_eq_true (by omega)
 go_region
 go_wp2
 go_ret2
 exact ⟨_, rfl, Kd.Q_below HQ'.out (pw_below_drewN (Below.refl _ _) _), pw_below_drewN HB.out _⟩
/-! ### spec_l9GetPeaks: function 28 -/
def spec_l9GetPeaks.l0 : Nat → List ByteArray → List (S93) → Int → Option ((List (S93)))
 | 0, _, _, _ => none
 | k + 1, x0, x3, x4 => if x4 < (x0.length : Int) then (if 0 ≤ x4 then ((spec_l1Cut.f k (rdOf ByteArray.empty x0 x4) 58 2).bind fun t149 => (if (t149.length : Int) = 3 then (if 0 < (t149.length : Int) then (if 1 < (t149.length : Int) then ((spec_l1Num.f k (rdOf ByteArray.empty t149 1)).bind fun t154 => (if 2 < (t149.length : Int) then ((spec_l1Num.f k (rdOf ByteArray.empty t149 2)).bind fun t156 => (if x3.length < 4398046511104 then (spec_l9GetPeaks.l0 k x0 (x3 ++ [(⟨rdOf ByteArray.empty t149 0, t154, t156⟩ : S93)]) (wrap64 (x4 + 1))) else (none))) else (none))) else (none)) else (none)) else (spec_l9GetPeaks.l0 k x0 x3 (wrap64 (x4 + 1))))) else (none)) else (some x3)
def spec_l9GetPeaks.f (k : Nat) (l0 : List ByteArray) : Option ((List (S93))) := spec_l9GetPeaks.l0 k l0 (([] : List (S93))) 0
theorem spec_l9GetPeaks.mono_l : ∀ k, (∀ y0 y1 y2, LeO (spec_l9GetPeaks.l0 k y0 y1 y2) (spec_l9GetPeaks.l0 (k + 1) y0 y1 y2))
 | 0 => fun _ _ _ r h => by simp [spec_l9GetPeaks.l0] at h
 | k + 1 => by
  have ih0 := spec_l9GetPeaks.mono_l k
  ·intro y0 y1 y2
   unfold spec_l9GetPeaks.l0
   exact mo3 ih0 spec_l1Cut.mono spec_l1Num.mono
theorem spec_l9GetPeaks.mono : ∀ a0 k, LeO (spec_l9GetPeaks.f k a0) (spec_l9GetPeaks.f (k + 1) a0) := by
 intro a0 k
 have ih0 := spec_l9GetPeaks.mono_l k
 unfold spec_l9GetPeaks.f
 exact mo3 ih0 spec_l1Cut.mono spec_l1Num.mono
def spec_l9GetPeaks.T7 : Bool × List (List Nat × List Nat) := (true, [([], []), ([], []), ([1], [1]), ([2], [2]), ([], []), ([4], [4]), ([5], [5]), ([6], [6]), ([], []), ([8], [8]), ([9], [9]), ([10, 7], [10]), ([3, 7, 11], [3, 7, 11]), ([12], [12]), ([0, 13, 11], [0, 13]), ([14, 14, 0, 1, 2, 3, 4, 5, 6, 7, 8, 9, 10, 11, 12, 13, 14], [0, 14])])
def spec_l9GetPeaks.B7 : List Nat := [0, 0, 2, 6, 0, 16, 48, 112, 0, 256, 768, 2032, 4094, 8190, 16383, 32767]
theorem spec_l9GetPeaks.tab7 : rtab .any (opsOf Tryd.f28 7) = spec_l9GetPeaks.T7 := by kernel_rfl
theorem spec_l9GetPeaks.bits7 : waitsOk spec_l9GetPeaks.T7.2 spec_l9GetPeaks.B7 = true := by kernel_rfl
set_option maxHeartbeats 64000000 in
set_option maxRecDepth 100000 in
theorem spec_l9GetPeaks.calls (k : Nat) (A0 : Option Addr) (c0 : Nat) (l0 : List ByteArray) (r : List (S93)) (w : World) (hr0 : Kd.C Kd.string w A0 l0.length l0) (hc0 : l0.length ≤ c0) (h : spec_l9GetPeaks.f k l0 = some r) :
  Calls Tryd.prog 28 #[.slice A0 l0.length c0] w fun e w' => ∃ v0_ : Value, e = .returned (v0_) ∧ Kd.R k93 93 w' w.heap.size (fun _ => True) v0_ r ∧ Below w.heap.size w w' := by
 have hu93 := Tryd.underlying93
 have HR0 := Aside0.mk hr0
 have HC0 := Aside0.mk hc0
 clear hr0 hc0
 have HB := Aside0.mk (Below.refl w.heap.size w)
 have H : (spec_l9GetPeaks.l0 k l0 (([] : List (S93))) 0) = some r := h
 clear h
 obtain ⟨y145, Ny145⟩ := yA (([] : List (S93)) : List (S93))
 rw [← Ny145.out] at H
 have H' := Aside0.mk H
 clear H
 go_enter Tryd.func28, Tryd.ntmps28
 go_wp2_with ((with_reducible refine gate_dst (N := 6) rfl ?_); refine Kd.R_lit k93 _ 93 ?hg (N := 6) ?hd (xs := ([] : List (S93))) (inner := []) (ok := fun _ => True) (okp := fun _ => True) ?hr ?hp (fun _ hk => hk) trivial (Below.refl _ _) (Nat.le_refl _) (by simp) ?_; (case hd => rfl); (case hg => rfl); (case hr => first | (go_simp; done) | (go_simp; rfl)); (case hp => exact xP); intro v146 w2 ho3 hb hg_ hnew_; clear hg_ hnew_; (first | rw [← Ny145.out] at ho3 | (simp only [Int.reduceToNat] at ho3; rw [← Ny145.out] at ho3)); have HO147 := am (Kd.R_lower ho3 (below_size (bl HB))); replace HB := kH HB hb; clear hb ho3)
 go_loopg [3, 4] k (fun kq v3 v4 w' => ∃ (x3_1 : List (S93)) (x4_1 : Int), v4 = .int .i64 x4_1 ∧ Aside0 (spec_l9GetPeaks.l0 kq l0 x3_1 x4_1 = some r) ∧ Aside0 (kq ≤ k) ∧ Aside0 (Kd.R k93 93 w' w.heap.size (fun _ => True) v3 x3_1) ∧ Aside0 (Below w.heap.size w w'))
 case atStart => exact ⟨(y145), (0), xR, H', ⟨Nat.le_refl _⟩, ⟨ra HO147⟩, ⟨bl HB⟩⟩
 case round =>
  clear H'
  try clear c2
  try clear p2
  obtain ⟨x3_1, x4_1, rfl, HA, HK1, HO_3, HB⟩ := hrel
  cases gk with
  | zero => exact absurd HA.out (by simp [spec_l9GetPeaks.l0])
  | succ k1 =>
   have H := HA.out
   clear HA
   simp only [spec_l9GetPeaks.l0] at H
   by_cases c4 : x4_1 < (l0.length : Int)
   rotate_left
   ·rw [if_neg c4] at H
    have c4b0 := decide_eq_false c4
    clear c4
    obtain rfl := Option.some.inj H
    go_wp2
    go_ret
    exact ⟨_, xE, ra HO_3, bl HB⟩
   rw [if_pos c4] at H
   have c4b0 := decide_eq_true c4
   clear c4
   replace H := ipd H
   obtain ⟨c5b0, H⟩ := H
   replace H := oa H
   obtain ⟨t149, A6, H⟩ := H
   have p148 : 0 ≤ (x4_1 : Int) := of_decide_eq_true xA
   have q148 : x4_1 < (l0.length : Int) := of_decide_eq_true xA
   obtain ⟨ad148, e148, hx148_0⟩ := Kd.at_string HR0.out x4_1 p148 q148
   cases e148
   replace hx148_0 := hc HB hx148_0
   replace p148 := eq_true p148
   replace q148 := eq_true q148
   go_upto_if 20 with ((with_reducible refine gg ?_); refine gL 17 Tryd.func25 #[.string (rdOf ByteArray.empty l0 x4_1), .int .u8 58, .int .i64 2] ?_; (with_reducible refine (spec_l1Cut.calls k1 (rdOf ByteArray.empty l0 x4_1) 58 2 t149 _ A6.out).mono ?_); rintro e w14 ⟨v150, rfl, ho0, hb⟩; refine ⟨_, rfl, ?_⟩; replace HO_3 := rk HO_3 hb; have HO151 := am (Kd.R_lower ho0 (below_size (bl HB))); replace HB := kH HB hb; (try clear hb); (try clear ho0); obtain ⟨Ao15, co15, eo15⟩ := Kd.R_slice HO151.out; subst eo15)
   by_cases c7 : (t149.length : Int) = 3
   rotate_left
   ·rw [if_neg c7] at H
    have c7b0 := beq_eq_false_iff_ne.mpr c7
    have c7b1 := bne_iff_ne.mpr c7
    try simp only [c7b0, c7b1]
    have H' := Aside0.mk H
    clear H
    go_wp2
    go_roundg k1
    case measure => have := HK1.out; omega
    case rel => exact ⟨(x3_1), (wrap64 (x4_1 + 1)), xR, H', ⟨xL HK1⟩, ⟨ra HO_3⟩, ⟨bl HB⟩⟩
   rw [if_pos c7] at H
   have c7b0 := beq_iff_eq.mpr c7
   have c7b1 := bne_eq_false_iff_eq.mpr c7
   try simp only [c7b0, c7b1]
   clear c7
   replace H := ip H
   obtain ⟨c8, H⟩ := H
   have c8b0 := decide_eq_true c8
   have c8b1 : decide (0 < t149.length) = true := decide_eq_true (by omega)
   clear c8
   replace H := ip H
   obtain ⟨c9, H⟩ := H
   have c9b0 := decide_eq_true c9
   have c9b1 : decide (1 < t149.length) = true := decide_eq_true (by omega)
   clear c9
   replace H := oa H
   obtain ⟨t154, A10, H⟩ := H
   replace H := ip H
   obtain ⟨c11, H⟩ := H
   have c11b0 := decide_eq_true c11
   have c11b1 : decide (2 < t149.length) = true := decide_eq_true (by omega)
   clear c11
   replace H := oa H
   obtain ⟨t156, A12, H⟩ := H
   replace H := ipa H
   obtain ⟨LMc13, H⟩ := H
   obtain ⟨y157, Ny157⟩ := yA (x3_1 ++ [(⟨rdOf ByteArray.empty t149 0, t154, t156⟩ : S93)] : List (S93))
   rw [← Ny157.out] at H
   have H' := Aside0.mk H
   clear H
   try go_wp2
   replace HO_3 := am (Kd.R_drew HO_3.out)
   replace HO151 := am (Kd.R_drew HO151.out)
   replace HB := am (below_drew1 HB.out)
   have p152 : 0 ≤ (0 : Int) := (by omega)
   have q152 : 0 < (t149.length : Int) := of_decide_eq_true xA
   obtain ⟨ad152, e152, hx152_0⟩ := Kd.at_string (Kd.R_reads' HO151.out).2.2 0 p152 q152
   cases e152
   have qi152 : (0 < t149.length) = True := eq_true (by omega)
   (try rw [show ((0 : Int)).toNat = 0 from rfl] at hx152_0)
   (try rw [Addr.add_zero'] at hx152_0)
   replace p152 := eq_true p152
   replace q152 := eq_true q152
   have p153 : 0 ≤ (1 : Int) := (by omega)
   have q153 : 1 < (t149.length : Int) := of_decide_eq_true xA
   obtain ⟨ad153, e153, hx153_0⟩ := Kd.at_string (Kd.R_reads' HO151.out).2.2 1 p153 q153
   obtain rfl : ad152 = ad153 := (by injection e153)
   (try simp only [show (1 : Int).toNat = 1 from rfl, Nat.reduceMul, Nat.reduceEqDiff, Go.Addr.add, ↓reduceIte] at hx153_0)
   have qi153 : (1 < t149.length) = True := eq_true (by omega)
   (try rw [show ((1 : Int)).toNat = 1 from rfl] at hx153_0)
   replace p153 := eq_true p153
   replace q153 := eq_true q153
   have p155 : 0 ≤ (2 : Int) := (by omega)
   have q155 : 2 < (t149.length : Int) := of_decide_eq_true xA
   obtain ⟨ad155, e155, hx155_0⟩ := Kd.at_string (Kd.R_reads' HO151.out).2.2 2 p155 q155
   obtain rfl : ad152 = ad155 := (by injection e155)
   (try simp only [show (2 : Int).toNat = 2 from rfl, Nat.reduceMul, Nat.reduceEqDiff, Go.Addr.add, ↓reduceIte] at hx155_0)
   have qi155 : (2 < t149.length) = True := eq_true (by omega)
   (try rw [show ((2 : Int)).toNat = 2 from rfl] at hx155_0)
   replace p155 := eq_true p155
   replace q155 := eq_true q155
   refine start_ (n := 16) (S := fun w' => w'.cell? ad152 = some (.string (rdOf ByteArray.empty t149 0)) ∧ w'.cell? ⟨ad152.block, ad152.off + 1, none⟩ = some (.string (rdOf ByteArray.empty t149 1)) ∧ w'.cell? ⟨ad152.block, ad152.off + 2, none⟩ = some (.string (rdOf ByteArray.empty t149 2))) (ds := [13, 14]) (bm 16 0) (by kernel_rfl) rfl rfl ⟨hx152_0, hx153_0, hx155_0⟩ (fun hHeld => ?_); refine with_tabW spec_l9GetPeaks.tab7 spec_l9GetPeaks.bits7 (fun HT_ HW_ => ?_)
   generalize w14.drew = w16 at HO_3 HO151 HB hx152_0 hx153_0 hx155_0 hHeld ⊢
   refine pA 0 21 (bm 16 1) HT_ ?_
   refine pA 1 22 (bm 16 3) HT_ ?_
   refine pA 2 23 (bm 16 7) HT_ ?_
   refine pA 4 25 (bm 16 23) HT_ ?_
   refine pA 5 26 (bm 16 55) HT_ ?_
   refine pA 8 29 (bm 16 311) HT_ ?_
   refine pA 9 30 (bm 16 823) HT_ ?_
   refine tA 3 24 (bm 16 831) HT_ HW_ hHeld ?_
   refine tA 6 27 (bm 16 895) HT_ HW_ hHeld ?_
   refine tA 10 31 (bm 16 1919) HT_ HW_ hHeld ?_
   refine oA 7 (some 28) (bm 16 2047) HT_ fun K hK => ?_
   refine gA Tryd.func27 #[.string (rdOf ByteArray.empty t149 1)] ?_
   with_reducible refine (spec_l1Num.calls k1 (rdOf ByteArray.empty t149 1) t154 _ A10.out).mono ?_
   rintro e w' ⟨rfl, ⟨nd, rfl⟩⟩
   refine ⟨_, rfl, ?_⟩
   refine hK.out _ _ ⟨hHeld.1, hHeld.2.1, hHeld.2.2⟩ (fun hHeld => ?_)
   clear hK K
   refine nA (some 28) ?_
   refine oA 11 (some 32) (bm 16 4095) HT_ fun K hK => ?_
   refine gA Tryd.func27 #[.string (rdOf ByteArray.empty t149 2)] ?_
   with_reducible refine (spec_l1Num.calls k1 (rdOf ByteArray.empty t149 2) t156 _ A12.out).mono ?_
   rintro e w' ⟨rfl, ⟨nd, rfl⟩⟩
   refine ⟨_, rfl, ?_⟩
   refine hK.out _ _ ⟨hHeld.1, hHeld.2.1, hHeld.2.2⟩ (fun hHeld => ?_)
   clear hK K
   refine nA (some 32) ?_
   refine pA 12 33 (bm 16 8191) HT_ ?_
   refine last_ (i := 13) (N := some 34) (bm 16 16383) rfl rfl (one_of HT_.out (by kernel_rfl)) (by decide) (fun K hK => ?_)
   refine value_ (w1 := ?_) (v := ?_) (by rfl) rfl ?_ ?_
   rotate_left 2
   ·go_simp
    constructor
    ·rfl
    ·rfl
   refine hK.out _ _ ?_
   clear hK K
   refine nA (some 34) ?_
   refine last_ (i := 14) (N := some 35) (bm 16 32767) rfl rfl (one_of HT_.out (by kernel_rfl)) (by decide) (fun K hK => ?_)
   refine Kd.R_append_step k93 (w0 := w) w.heap.size (by rfl) (.tmp 21) (.tmp 34) 24 93 (.agg #[(.string ⟨#[]⟩), (.int .i64 0), (.int .i64 0)]) 32 rfl Tryd.underlying24 info93 rfl (by decide) (by omega) u3 x3_1 (⟨rdOf ByteArray.empty t149 0, t154, t156⟩ : S93) [.string (rdOf ByteArray.empty t149 0), .int .i64 t154, .int .i64 t156] (fun _ => True) (fun _ => False) rfl rfl ?aP (fun _ hk => hk.elim) ?aF ?aO ?aB ?aS ?aL ?_
   (case aP => exact k93_mkM _ _ _ (⟨rdOf ByteArray.empty t149 0, t154, t156⟩ : S93))
   (case aB => exact (bl HB))
   (case aF => exact (fun _ _ => trivial))
   (case aO => exact (ra HO_3))
   (case aS => exact (below_size (bl HB)))
   (case aL => have := LMc13.out; omega)
   intro v158 w17 ho hb hg hat
   rw [← Ny157.out] at ho
   have n0_ := Aside0.mk (Kd.R_over' (ra HO151) (Kd.R_typed (ra HO_3)) (by decide) hg)
   have n1_ := Aside0.mk (hb)
   have n2_ := Aside0.mk (ho)
   clear HO151
   clear HB
   clear HO_3
   have HO151 := n0_
   have HB := n1_
   have HO159 := n2_
   clear n0_ n1_ n2_
   clear ho hb hg hat
   refine hK.out _ _ ?_
   clear hK K
   refine nA (some 35) ?_
   refine pA 15 3 (bm 16 65535) HT_ ?_
   refine done_ (done_of HT_.out (by kernel_rfl)) ?_
   try go_wp2
   go_roundg k1
   case measure => have := HK1.out; omega
   case rel => exact ⟨(y157), (wrap64 (x4_1 + 1)), xR, H', ⟨xL HK1⟩, ⟨ra HO159⟩, ⟨bl HB⟩⟩

/-! ### spec_l9GetSides: function 29 -/
def spec_l9GetSides.l0 : Nat → List ByteArray → List (S85) → Int → Option ((List (S85)))
 | 0, _, _, _ => none
 | k + 1, x0, x3, x4 => if x4 < (x0.length : Int) then (if 0 ≤ x4 then (if ((rdOf ByteArray.empty x0 x4).size : Int) > 1 then (if 1 ≤ ((rdOf ByteArray.empty x0 x4).size : Int) then (if 0 < ((rdOf ByteArray.empty x0 x4).size : Int) then (if x3.length < 5864062014805 then (spec_l9GetSides.l0 k x0 (x3 ++ [(⟨(rdOf ByteArray.empty x0 x4).extract 1 (rdOf ByteArray.empty x0 x4).size, ((bt (rdOf ByteArray.empty x0 x4) 0) == 108)⟩ : S85)]) (wrap64 (x4 + 1))) else (none)) else (none)) else (none)) else (spec_l9GetSides.l0 k x0 x3 (wrap64 (x4 + 1)))) else (none)) else (some x3)
def spec_l9GetSides.f (k : Nat) (l0 : List ByteArray) : Option ((List (S85))) := spec_l9GetSides.l0 k l0 (([] : List (S85))) 0
theorem spec_l9GetSides.mono_l : ∀ k, (∀ y0 y1 y2, LeO (spec_l9GetSides.l0 k y0 y1 y2) (spec_l9GetSides.l0 (k + 1) y0 y1 y2))
 | 0 => fun _ _ _ r h => by simp [spec_l9GetSides.l0] at h
 | k + 1 => by
  have ih0 := spec_l9GetSides.mono_l k
  ·intro y0 y1 y2
   unfold spec_l9GetSides.l0
   exact mo1 ih0
theorem spec_l9GetSides.mono : ∀ a0 k, LeO (spec_l9GetSides.f k a0) (spec_l9GetSides.f (k + 1) a0) := by
 intro a0 k
 have ih0 := spec_l9GetSides.mono_l k
 unfold spec_l9GetSides.f
 exact mo1 ih0
def spec_l9GetSides.T6 : Bool × List (List Nat × List Nat) := (true, [([], []), ([], []), ([], []), ([1, 2], [1, 2]), ([3], [3]), ([4], [4]), ([], []), ([], []), ([6, 7], [6, 7]), ([8], [8]), ([9], [9]), ([10], [10]), ([5, 11], [5, 11]), ([12], [12]), ([0, 13], [0, 13]), ([14, 14, 0, 1, 2, 3, 4, 5, 6, 7, 8, 9, 10, 11, 12, 13, 14], [0, 14])])
def spec_l9GetSides.B6 : List Nat := [0, 0, 0, 6, 14, 30, 0, 0, 192, 448, 960, 1984, 4094, 8190, 16383, 32767]
theorem spec_l9GetSides.tab6 : rtab .any (opsOf Tryd.f29 6) = spec_l9GetSides.T6 := by kernel_rfl
theorem spec_l9GetSides.bits6 : waitsOk spec_l9GetSides.T6.2 spec_l9GetSides.B6 = true := by kernel_rfl
set_option maxHeartbeats 64000000 in
set_option maxRecDepth 100000 in
theorem spec_l9GetSides.calls (k : Nat) (A0 : Option Addr) (c0 : Nat) (l0 : List ByteArray) (r : List (S85)) (w : World) (hr0 : Kd.C Kd.string w A0 l0.length l0) (hc0 : l0.length ≤ c0) (h : spec_l9GetSides.f k l0 = some r) :
  Calls Tryd.prog 29 #[.slice A0 l0.length c0] w fun e w' => ∃ v0_ : Value, e = .returned (v0_) ∧ Kd.R k85 85 w' w.heap.size (fun _ => True) v0_ r ∧ Below w.heap.size w w' := by
 have hu85 := Tryd.underlying85
 have HR0 := Aside0.mk hr0
 have HC0 := Aside0.mk hc0
 clear hr0 hc0
 have HB := Aside0.mk (Below.refl w.heap.size w)
 have H : (spec_l9GetSides.l0 k l0 (([] : List (S85))) 0) = some r := h
 clear h
 obtain ⟨y160, Ny160⟩ := yA (([] : List (S85)) : List (S85))
 rw [← Ny160.out] at H
 have H' := Aside0.mk H
 clear H
 go_enter Tryd.func29, Tryd.ntmps29
 go_wp2_with ((with_reducible refine gate_dst (N := 5) rfl ?_); refine Kd.R_lit k85 _ 85 ?hg (N := 5) ?hd (xs := ([] : List (S85))) (inner := []) (ok := fun _ => True) (okp := fun _ => True) ?hr ?hp (fun _ hk => hk) trivial (Below.refl _ _) (Nat.le_refl _) (by simp) ?_; (case hd => rfl); (case hg => rfl); (case hr => first | (go_simp; done) | (go_simp; rfl)); (case hp => exact xP); intro v161 w2 ho3 hb hg_ hnew_; clear hg_ hnew_; (first | rw [← Ny160.out] at ho3 | (simp only [Int.reduceToNat] at ho3; rw [← Ny160.out] at ho3)); have HO162 := am (Kd.R_lower ho3 (below_size (bl HB))); replace HB := kH HB hb; clear hb ho3)
 go_loopg [3, 4] k (fun kq v3 v4 w' => ∃ (x3_1 : List (S85)) (x4_1 : Int), v4 = .int .i64 x4_1 ∧ Aside0 (spec_l9GetSides.l0 kq l0 x3_1 x4_1 = some r) ∧ Aside0 (kq ≤ k) ∧ Aside0 (Kd.R k85 85 w' w.heap.size (fun _ => True) v3 x3_1) ∧ Aside0 (Below w.heap.size w w'))
 case atStart => exact ⟨(y160), (0), xR, H', ⟨Nat.le_refl _⟩, ⟨ra HO162⟩, ⟨bl HB⟩⟩
 case round =>
  clear H'
  try clear c2
  try clear p2
  obtain ⟨x3_1, x4_1, rfl, HA, HK1, HO_3, HB⟩ := hrel
  cases gk with
  | zero => exact absurd HA.out (by simp [spec_l9GetSides.l0])
  | succ k1 =>
   have H := HA.out
   clear HA
   simp only [spec_l9GetSides.l0] at H
   by_cases c4 : x4_1 < (l0.length : Int)
   rotate_left
   ·rw [if_neg c4] at H
    have c4b0 := decide_eq_false c4
    clear c4
    obtain rfl := Option.some.inj H
    go_wp2
    go_ret
    exact ⟨_, xE, ra HO_3, bl HB⟩
   rw [if_pos c4] at H
   have c4b0 := decide_eq_true c4
   clear c4
   replace H := ipd H
   obtain ⟨c5b0, H⟩ := H
   have p163 : 0 ≤ (x4_1 : Int) := of_decide_eq_true xA
   have q163 : x4_1 < (l0.length : Int) := of_decide_eq_true xA
   obtain ⟨ad163, e163, hx163_0⟩ := Kd.at_string HR0.out x4_1 p163 q163
   cases e163
   replace hx163_0 := hc HB hx163_0
   replace p163 := eq_true p163
   replace q163 := eq_true q163
   by_cases c6 : ((rdOf ByteArray.empty l0 x4_1).size : Int) > 1
   rotate_left
   ·rw [if_neg c6] at H
    have c6b0 := decide_eq_false c6
    have c6b1 : decide (1 < (rdOf ByteArray.empty l0 x4_1).size) = false := decide_eq_false (by omega)
    clear c6
    have H' := Aside0.mk H
    clear H
    go_wp2
    go_roundg k1
    case measure => have := HK1.out; omega
    case rel => exact ⟨(x3_1), (wrap64 (x4_1 + 1)), xR, H', ⟨xL HK1⟩, ⟨ra HO_3⟩, ⟨bl HB⟩⟩
   rw [if_pos c6] at H
   have c6b0 := decide_eq_true c6
   have c6b1 : decide (1 < (rdOf ByteArray.empty l0 x4_1).size) = true := decide_eq_true (by omega)
   clear c6
   replace H := ip H
   obtain ⟨c7, H⟩ := H
   have c7b0 := eq_true c7
   have c7b1 := decide_eq_true c7
   clear c7
   replace H := ip H
   obtain ⟨c8, H⟩ := H
   have c8b0 := decide_eq_true c8
   have c8b1 : decide (0 < (rdOf ByteArray.empty l0 x4_1).size) = true := decide_eq_true (by omega)
   clear c8
   replace H := ipa H
   obtain ⟨LMc10, H⟩ := H
   obtain ⟨y166, Ny166⟩ := yA (x3_1 ++ [(⟨(rdOf ByteArray.empty l0 x4_1).extract 1 (rdOf ByteArray.empty l0 x4_1).size, ((bt (rdOf ByteArray.empty l0 x4_1) 0) == 108)⟩ : S85)] : List (S85))
   rw [← Ny166.out] at H
   have H' := Aside0.mk H
   clear H
   try go_wp2
   replace HO_3 := am (Kd.R_drew HO_3.out)
   replace HB := am (below_drew1 HB.out)
   have p164 : 0 ≤ (x4_1 : Int) := of_decide_eq_true xA
   have q164 : x4_1 < (l0.length : Int) := of_decide_eq_true xA
   obtain ⟨ad164, e164, hx164_0⟩ := Kd.at_string HR0.out x4_1 p164 q164
   have hw164_0 := hx164_0
   obtain rfl : ad163 = ad164 := (by injection e164)
   replace hx164_0 := hc HB hx164_0
   replace p164 := eq_true p164
   replace q164 := eq_true q164
   have p165 : 0 ≤ (x4_1 : Int) := of_decide_eq_true xA
   have q165 : x4_1 < (l0.length : Int) := of_decide_eq_true xA
   obtain ⟨ad165, e165, hx165_0⟩ := Kd.at_string HR0.out x4_1 p165 q165
   have hw165_0 := hx165_0
   obtain rfl : ad163 = ad165 := (by injection e165)
   replace hx165_0 := hc HB hx165_0
   replace p165 := eq_true p165
   replace q165 := eq_true q165
   have p9 : 0 ≤ (0 : Int) := (by omega)
   have q9 : 0 < (rdOf ByteArray.empty l0 x4_1).size := (by have : (0 : Int) < ((rdOf ByteArray.empty l0 x4_1).size : Int) := of_decide_eq_true xA; omega)
   have hx9 : ∀ h : 0 < (rdOf ByteArray.empty l0 x4_1).size, (((rdOf ByteArray.empty l0 x4_1)[0]'h).toNat : Int) = bt (rdOf ByteArray.empty l0 x4_1) 0 := bt_at (rdOf ByteArray.empty l0 x4_1) 0
   clear p9
   have qi9 : (0 < ((rdOf ByteArray.empty l0 x4_1).size : Int)) = True := eq_true (of_decide_eq_true xA)
   replace q9 := eq_true q9
   refine start_ (n := 16) (S := fun w' => w'.cell? (ad163.add (x4_1).toNat) = some (.string (rdOf ByteArray.empty l0 x4_1)) ∧ w'.cell? (ad163.add (x4_1).toNat) = some (.string (rdOf ByteArray.empty l0 x4_1))) (ds := []) (bm 16 0) (by kernel_rfl) rfl rfl ⟨(hd HB hw164_0), (hd HB hw165_0)⟩ (fun hHeld => ?_); refine with_tabW spec_l9GetSides.tab6 spec_l9GetSides.bits6 (fun HT_ HW_ => ?_)
   generalize wr.drew = w11 at HO_3 HB hx164_0 hx165_0 hHeld ⊢
   refine pA 0 18 (bm 16 1) HT_ ?_
   refine pA 1 19 (bm 16 3) HT_ ?_
   refine pA 2 20 (bm 16 7) HT_ ?_
   refine pA 3 21 (bm 16 15) HT_ ?_
   refine pA 6 24 (bm 16 79) HT_ ?_
   refine pA 7 25 (bm 16 207) HT_ ?_
   refine pA 8 26 (bm 16 463) HT_ ?_
   refine tA 4 22 (bm 16 479) HT_ HW_ hHeld ?_
   refine pA 5 23 (bm 16 511) HT_ ?_
   refine tA 9 27 (bm 16 1023) HT_ HW_ hHeld ?_
   refine tA 10 28 (bm 16 2047) HT_ HW_ hHeld ?_
   refine pA 11 29 (bm 16 4095) HT_ ?_
   refine pA 12 30 (bm 16 8191) HT_ ?_
   refine oA 13 (some 31) (bm 16 16383) HT_ fun K hK => ?_
   refine value_ (w1 := ?_) (v := ?_) (by rfl) rfl ?_ ?_
   rotate_left 2
   ·go_simp
    constructor
    ·rfl
    ·rfl
   refine hK.out _ _ ⟨(World.cell?_alloc_lt _ _ _ (World.block_lt_of_cell? _ _ ((hd HB hw164_0)))).trans ((hd HB hw164_0)), (World.cell?_alloc_lt _ _ _ (World.block_lt_of_cell? _ _ ((hd HB hw165_0)))).trans ((hd HB hw165_0))⟩ (fun hHeld => ?_)
   clear hK K
   refine nA (some 31) ?_
   refine oA 14 (some 32) (bm 16 32767) HT_ fun K hK => ?_
   refine Kd.R_append_step k85 (w0 := w) w.heap.size (by rfl) (.tmp 18) (.tmp 31) 27 85 (.agg #[(.string ⟨#[]⟩), (.bool false)]) 24 rfl Tryd.underlying27 info85 rfl (by decide) (by omega) u3 x3_1 (⟨(rdOf ByteArray.empty l0 x4_1).extract 1 (rdOf ByteArray.empty l0 x4_1).size, ((bt (rdOf ByteArray.empty l0 x4_1) 0) == 108)⟩ : S85) [.string ((rdOf ByteArray.empty l0 x4_1).extract 1 (rdOf ByteArray.empty l0 x4_1).size), .bool ((bt (rdOf ByteArray.empty l0 x4_1) 0) == 108)] (fun _ => True) (fun _ => False) rfl rfl ?aP (fun _ hk => hk.elim) ?aF ?aO ?aB ?aS ?aL ?_
   (case aP => exact k85_mkM _ _ _ (⟨(rdOf ByteArray.empty l0 x4_1).extract 1 (rdOf ByteArray.empty l0 x4_1).size, ((bt (rdOf ByteArray.empty l0 x4_1) 0) == 108)⟩ : S85))
   (case aB => exact (bl HB))
   (case aF => exact (fun _ _ => trivial))
   (case aO => exact (ra HO_3))
   (case aS => exact (below_size (bl HB)))
   (case aL => have := LMc10.out; omega)
   intro v167 w12 ho hb hg hat
   rw [← Ny166.out] at ho
   have n0_ := Aside0.mk (hb)
   have n1_ := Aside0.mk (ho)
   clear HB
   clear HO_3
   have HB := n0_
   have HO168 := n1_
   clear n0_ n1_
   clear ho hb hg hat
   refine hK.out _ _ ⟨(hd HB hw164_0), (hd HB hw165_0)⟩ (fun hHeld => ?_)
   clear hK K
   refine nA (some 32) ?_
   refine pA 15 3 (bm 16 65535) HT_ ?_
   refine done_ (done_of HT_.out (by kernel_rfl)) ?_
   try go_wp2
   go_roundg k1
   case measure => have := HK1.out; omega
   case rel => exact ⟨(y166), (wrap64 (x4_1 + 1)), xR, H', ⟨xL HK1⟩, ⟨ra HO168⟩, ⟨bl HB⟩⟩

/-! ### spec_l5PeakOk: function 59 -/
def spec_l5PeakOk.f (k : Nat) (a0_0 : ByteArray) (a0_1 : Int) (a0_2 : Int) : Option (Bool) := (spec_l1IsSum.f k a0_0).bind fun t170 => (if t170 = true then ((spec_l1In.f a0_2 1 20).bind fun t171 => (if t171 = true then ((spec_l1In.f a0_1 a0_2 (wrap64 (a0_2 * 8))).bind fun t172 => (some t172)) else (some false))) else (some false))
theorem spec_l5PeakOk.mono : ∀ a0 a1 a2 k, LeO (spec_l5PeakOk.f k a0 a1 a2) (spec_l5PeakOk.f (k + 1) a0 a1 a2) := by
 intro a0 a1 a2 k
 unfold spec_l5PeakOk.f
 exact mo1 spec_l1IsSum.mono
set_option maxHeartbeats 64000000 in
set_option maxRecDepth 100000 in
theorem spec_l5PeakOk.calls (k : Nat) (a0_0 : ByteArray) (a0_1 : Int) (a0_2 : Int) (r : Bool) (w : World) (h : spec_l5PeakOk.f k a0_0 a0_1 a0_2 = some r) :
  Calls Tryd.prog 59 #[.agg #[.string a0_0, .int .i64 a0_1, .int .i64 a0_2]] w fun e w' => e = .returned (.bool r) ∧ Below w.heap.size w w' := by
 have hu93 := Tryd.underlying93
 have HB := Aside0.mk (Below.refl w.heap.size w)
 have H : ((spec_l1IsSum.f k a0_0).bind fun t170 => (if t170 = true then ((spec_l1In.f a0_2 1 20).bind fun t171 => (if t171 = true then ((spec_l1In.f a0_1 a0_2 (wrap64 (a0_2 * 8))).bind fun t172 => (some t172)) else (some false))) else (some false))) = some r := h
 clear h
 replace H := oa H
 obtain ⟨t170, A2, H⟩ := H
 go_enter Tryd.func59, Tryd.ntmps59
 go_upto_region 1 with ((with_reducible refine gg ?_); refine bE 1 #[.string a0_0, .int .i64 a0_1, .int .i64 a0_2] 93 ?_; intro gb169 hg w7 hbox hb; have BK169 := am (hbox); have GW169 := zB hg HB; have GE169 := zB hg HB; replace HB := kH HB hb; clear hb hbox hg; have hz8 := bc3 BK169)
 by_cases c3 : t170 = true
 rotate_left
 ·replace c3 := Bool.eq_false_iff.mpr c3
  subst c3
  try simp only [Bool.not_true, Bool.not_false]
  rw [if_neg (show ¬ (false = true) by decide)] at H
  obtain rfl := Option.some.inj H
  go_wp2_with ((with_reducible refine gg ?_); refine gL 5 Tryd.func58 #[.string a0_0] ?_; (with_reducible refine (spec_l1IsSum.calls k a0_0 false _ A2.out).mono ?_); rintro e w' ⟨rfl, ⟨nd, rfl⟩⟩; refine ⟨_, rfl, ?_⟩)
  go_ret
  exact ⟨xE, xB HB⟩
 subst c3
 try simp only [Bool.not_true, Bool.not_false]
 rw [if_pos rfl] at H
 replace H := oa H
 obtain ⟨t171, A4, H⟩ := H
 by_cases c5 : t171 = true
 rotate_left
 ·replace c5 := Bool.eq_false_iff.mpr c5
  subst c5
  rw [if_neg (show ¬ (false = true) by decide)] at H
  obtain rfl := Option.some.inj H
  go_wp2_with (first | ((with_reducible refine gg ?_); refine gL 5 Tryd.func58 #[.string a0_0] ?_; (with_reducible refine (spec_l1IsSum.calls k a0_0 true _ A2.out).mono ?_); rintro e w' ⟨rfl, ⟨nd, rfl⟩⟩; refine ⟨_, rfl, ?_⟩) | (go_at_call 60; (with_reducible refine (spec_l1In.calls a0_2 1 20 false _ A4.out).mono ?_); rintro e w' ⟨rfl, ⟨nd, rfl⟩⟩))
  go_ret
  exact ⟨xE, xB HB⟩
 subst c5
 rw [if_pos rfl] at H
 replace H := oa H
 obtain ⟨t172, A6, H⟩ := H
 obtain rfl := Option.some.inj H
 go_wp2_with (first | ((with_reducible refine gg ?_); refine gL 5 Tryd.func58 #[.string a0_0] ?_; (with_reducible refine (spec_l1IsSum.calls k a0_0 true _ A2.out).mono ?_); rintro e w' ⟨rfl, ⟨nd, rfl⟩⟩; refine ⟨_, rfl, ?_⟩) | (go_at_call 60; (with_reducible refine (spec_l1In.calls a0_2 1 20 true _ A4.out).mono ?_); rintro e w' ⟨rfl, ⟨nd, rfl⟩⟩) | (go_at_call 60; (with_reducible refine (spec_l1In.calls a0_1 a0_2 (wrap64 (a0_2 * 8)) t172 _ A6.out).mono ?_); rintro e w' ⟨rfl, ⟨nd, rfl⟩⟩))
 go_ret
 exact ⟨xE, xB HB⟩


/-! ### spec_l5Two: function 87 -/
def spec_l5Two.l0 : Nat → Int → Int → Option (Bool)
 | 0, _, _ => none
 | k + 1, x0, x3 => if x3 < x0 then (if x3 < 20 then (spec_l5Two.l0 k x0 (wrap64 (x3 * 2))) else (some (x3 == x0))) else (some (x3 == x0))
def spec_l5Two.f (k : Nat) (a0 : Int) : Option (Bool) := spec_l5Two.l0 k a0 1
theorem spec_l5Two.mono_l : ∀ k, (∀ y0 y1, LeO (spec_l5Two.l0 k y0 y1) (spec_l5Two.l0 (k + 1) y0 y1))
 | 0 => fun _ _ r h => by simp [spec_l5Two.l0] at h
 | k + 1 => by
  have ih0 := spec_l5Two.mono_l k
  ·intro y0 y1
   unfold spec_l5Two.l0
   exact mo1 ih0
theorem spec_l5Two.mono : ∀ a0 k, LeO (spec_l5Two.f k a0) (spec_l5Two.f (k + 1) a0) := by
 intro a0 k
 have ih0 := spec_l5Two.mono_l k
 unfold spec_l5Two.f
 exact mo1 ih0
set_option maxHeartbeats 64000000 in
set_option maxRecDepth 100000 in
theorem spec_l5Two.calls (k : Nat) (a0 : Int) (r : Bool) (w : World) (h : spec_l5Two.f k a0 = some r) :
  Calls Tryd.prog 87 #[.int .i64 a0] w fun e w' => e = .returned (.bool r) ∧ Drawn0 w w' := by
 have H : (spec_l5Two.l0 k a0 1) = some r := h
 clear h
 have H' := Aside0.mk H
 clear H
 go_enter Tryd.func87, Tryd.ntmps87
 go_wp2
 go_loopg [3] k (fun kq v3 w' => ∃ (x3_1 : Int), v3 = .int .i64 x3_1 ∧ Aside0 (spec_l5Two.l0 kq a0 x3_1 = some r) ∧ Aside0 (kq ≤ k) ∧ Drawn0 w w')
 case atStart => exact ⟨(1), xR, H', ⟨Nat.le_refl _⟩, xW⟩
 case round =>
  clear H'
  obtain ⟨x3_1, rfl, HA, HK1, ⟨m1, rfl⟩⟩ := hrel
  cases gk with
  | zero => exact absurd HA.out (by simp [spec_l5Two.l0])
  | succ k1 =>
   have H := HA.out
   clear HA
   simp only [spec_l5Two.l0] at H
   by_cases c2 : x3_1 < a0
   rotate_left
   ·rw [if_neg c2] at H
    have c2b0 := decide_eq_false c2
    clear c2
    obtain rfl := Option.some.inj H
    go_wp2
    go_ret
    exact ⟨xR, xW⟩
   rw [if_pos c2] at H
   have c2b0 := decide_eq_true c2
   clear c2
   by_cases c3 : x3_1 < 20
   rotate_left
   ·rw [if_neg c3] at H
    have c3b0 := decide_eq_false c3
    clear c3
    obtain rfl := Option.some.inj H
    go_wp2
    go_ret
    exact ⟨xR, xW⟩
   rw [if_pos c3] at H
   have c3b0 := decide_eq_true c3
   clear c3
   have H' := Aside0.mk H
   clear H
   go_wp2
   go_roundg k1
   case measure => have := HK1.out; omega
   case rel => exact ⟨(wrap64 (x3_1 * 2)), xR, H', ⟨xL HK1⟩, xW⟩

end Go.Proofs.YtgjljbaadglpnaaDoor.PFnExactPaidGet
