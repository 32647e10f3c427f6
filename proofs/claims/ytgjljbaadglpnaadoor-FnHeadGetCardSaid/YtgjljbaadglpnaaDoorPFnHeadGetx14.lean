/- Functions of the program and what each answers: the kit's print, shortened (wip/press2.py). -/
import Derived.Test.YtgjljbaadglpnaaDoorPFnHeadGetx0
namespace Go.Proofs.YtgjljbaadglpnaaDoor.PFnHeadGet
open Go.Proofs.YtgjljbaadglpnaaDoor.Sq Go.RowKit Go.Proofs.YtgjljbaadglpnaaDoorW.PrintWords Go.Proofs.YtgjljbaadglpnaaDoorW.PrintLast Go.Proofs.YtgjljbaadglpnaaDoorW.PrintMore
attribute [local go_sem] max2_int min2_int max_two min_two max_three min_three max_four min_four   -- for this text's walks alone
set_option linter.unusedVariables false
set_option linter.unusedSimpArgs false
set_option maxHeartbeats 64000000
set_option maxRecDepth 100000
def spec_l4Copy.l0 : Nat → List (S142) → List (S142) → Int → Option ((List (S142)))
 | 0, _, _, _ => none
 | k + 1, x0, x3, x4 => if x4 < (x0.length : Int) then (if 0 ≤ x4 then ((some (([] : List ByteArray) : List ByteArray)).bind fun y345 => (if y345.length + ((rd_T142 x0 x4).f1).length < 8796093022208 then (if x3.length < 1759218604441 then (spec_l4Copy.l0 k x0 (x3 ++ [(⟨(⟨(rd_T142 x0 x4).f0.f0, (rd_T142 x0 x4).f0.f1, (rd_T142 x0 x4).f0.f2, (rd_T142 x0 x4).f0.f3, (rd_T142 x0 x4).f0.f4⟩ : S23), (y345 ++ ((rd_T142 x0 x4).f1))⟩ : S142)]) (wrap64 (x4 + 1))) else (none)) else (none))) else (none)) else (some x3)
def spec_l4Copy.f (k : Nat) (l0 : List (S142)) : Option ((List (S142))) := spec_l4Copy.l0 k l0 (([] : List (S142))) 0
theorem spec_l4Copy.mono_l : ∀ k, (∀ y0 y1 y2, LeO (spec_l4Copy.l0 k y0 y1 y2) (spec_l4Copy.l0 (k + 1) y0 y1 y2))
 | 0 => fun _ _ _ r h => by simp [spec_l4Copy.l0] at h
 | k + 1 => by
  have ih0 := spec_l4Copy.mono_l k
  ·intro y0 y1 y2
   unfold spec_l4Copy.l0
   exact mo1 ih0
theorem spec_l4Copy.mono : ∀ a0 k, LeO (spec_l4Copy.f k a0) (spec_l4Copy.f (k + 1) a0) := by
 intro a0 k
 have ih0 := spec_l4Copy.mono_l k
 unfold spec_l4Copy.f
 exact mo1 ih0
def spec_l4Copy.T5 : Bool × List (List Nat × List Nat) := (true, [([], []), ([], []), ([], []), ([1, 2], [1, 2]), ([3], [3]), ([4], [4]), ([], []), ([], []), ([], []), ([7, 8], [7, 8]), ([9], [9]), ([10], [10]), ([6, 11], [6, 11]), ([5, 12], [5, 12]), ([13], [13]), ([0, 14, 12], [0, 14]), ([15, 15, 0, 1, 2, 3, 4, 5, 6, 7, 8, 9, 10, 11, 12, 13, 14, 15], [0, 15])])
def spec_l4Copy.B5 : List Nat := [0, 0, 0, 6, 14, 30, 0, 0, 0, 384, 896, 1920, 4032, 8190, 16382, 32767, 65535]
theorem spec_l4Copy.tab5 : rtab .any (opsOf Tryd.f138 5) = spec_l4Copy.T5 := by kernel_rfl
theorem spec_l4Copy.bits5 : waitsOk spec_l4Copy.T5.2 spec_l4Copy.B5 = true := by kernel_rfl
theorem spec_l4Copy.calls (k : Nat) (A0 : Option Addr) (c0 : Nat) (l0 : List (S142)) (r : List (S142)) (w : World) (hr0 : Kd.C k142 w A0 l0.length l0) (hc0 : l0.length ≤ c0) (h : spec_l4Copy.f k l0 = some r) :
  Calls Tryd.prog 138 #[.slice A0 l0.length c0] w fun e w' => ∃ v0_ : Value, e = .returned (v0_) ∧ Kd.S k142 142 w' w.heap.size (fun _ => True) v0_ r ∧ Below w.heap.size w w' := by
 have hu23 := Tryd.underlying23
 have hu142 := Tryd.underlying142
 have HR0 := Aside0.mk hr0
 have HC0 := Aside0.mk hc0
 clear hr0 hc0
 have HB := Aside0.mk (Below.refl w.heap.size w)
 have H : (spec_l4Copy.l0 k l0 (([] : List (S142))) 0) = some r := h
 clear h
 obtain ⟨y341, Ny341⟩ := yA (([] : List (S142)) : List (S142))
 rw [← Ny341.out] at H
 have H' := Aside0.mk H
 clear H
 go_enter Tryd.func138, Tryd.ntmps138
 go_wp2_with ((with_reducible refine gate_dst (N := 5) rfl ?_); refine Kd.S_lit k142 _ 142 ?hg (N := 5) ?hd (xs := ([] : List (S142))) (inner := []) (ok := fun _ => True) (okp := fun _ => True) ?hr ?hp (fun _ hk => hk) trivial (Below.refl _ _) (Nat.le_refl _) (by simp) ?_; (case hd => rfl); (case hg => rfl); (case hr => first | (go_simp; done) | (go_simp; rfl)); (case hp => exact xP); intro v342 w2 ho3 hb hg_ hnew_; clear hg_ hnew_; (first | rw [← Ny341.out] at ho3 | (simp only [Int.reduceToNat] at ho3; rw [← Ny341.out] at ho3)); have HO343 := am (Kd.S_lower ho3 (below_size (bl HB))); replace HB := kH HB hb; clear hb ho3)
 go_loopg [3, 4] k (fun kq v3 v4 w' => ∃ (x3_1 : List (S142)) (x4_1 : Int), v4 = .int .i64 x4_1 ∧ Aside0 (spec_l4Copy.l0 kq l0 x3_1 x4_1 = some r) ∧ Aside0 (kq ≤ k) ∧ Aside0 (Kd.S k142 142 w' w.heap.size (fun _ => True) v3 x3_1) ∧ Aside0 (Below w.heap.size w w'))
 case atStart => exact ⟨(y341), (0), xR, H', ⟨Nat.le_refl _⟩, ⟨sx HO343⟩, ⟨bl HB⟩⟩
 case round =>
  clear H'
  try clear c1
  try clear p2
  obtain ⟨x3_1, x4_1, rfl, HA, HK1, HO_3, HB⟩ := hrel
  cases gk with
  | zero => exact absurd HA.out (by simp [spec_l4Copy.l0])
  | succ k1 =>
   have H := HA.out
   clear HA
   simp only [spec_l4Copy.l0] at H
   by_cases c4 : x4_1 < (l0.length : Int)
   rotate_left
   ·rw [if_neg c4] at H
    have c4b0 := decide_eq_false c4
    clear c4
    obtain rfl := Option.some.inj H
    go_wp2
    go_ret
    exact ⟨_, xE, sx HO_3, bl HB⟩
   rw [if_pos c4] at H
   have c4b0 := decide_eq_true c4
   clear c4
   replace H := ipd H
   obtain ⟨c5b0, H⟩ := H
   obtain ⟨y345, Ny345⟩ := yA (([] : List ByteArray) : List ByteArray)
   rw [← Ny345.out] at H
   replace H := ipa H
   obtain ⟨LMc6, H⟩ := H
   obtain ⟨y349, Ny349⟩ := yA (y345 ++ ((rd_T142 l0 x4_1).f1) : List ByteArray)
   rw [← Ny349.out] at H
   replace H := ipa H
   obtain ⟨LMc7, H⟩ := H
   obtain ⟨y352, Ny352⟩ := yA (x3_1 ++ [(⟨(⟨(rd_T142 l0 x4_1).f0.f0, (rd_T142 l0 x4_1).f0.f1, (rd_T142 l0 x4_1).f0.f2, (rd_T142 l0 x4_1).f0.f3, (rd_T142 l0 x4_1).f0.f4⟩ : S23), y349⟩ : S142)] : List (S142))
   rw [← Ny352.out] at H
   have H' := Aside0.mk H
   clear H
   try go_wp2
   replace HO_3 := am (Kd.S_drew HO_3.out)
   replace HB := am (below_drew1 HB.out)
   have p344 : 0 ≤ (x4_1 : Int) := of_decide_eq_true xA
   have q344 : x4_1 < (l0.length : Int) := of_decide_eq_true xA
   obtain ⟨ad344, A344_5, c344_5, e344, hx344_0, hx344_1, hx344_2, hx344_3, hx344_4, hx344_5, hl344_5, hi344_5⟩ := at_T142 HR0.out x4_1 p344 q344
   have hw344_5 := hx344_5
   have hw344_4 := hx344_4
   have hw344_3 := hx344_3
   have hw344_2 := hx344_2
   have hw344_1 := hx344_1
   have hw344_0 := hx344_0
   cases e344
   replace hx344_0 := hc HB hx344_0
   replace hx344_1 := hc HB hx344_1
   replace hx344_2 := hc HB hx344_2
   replace hx344_3 := hc HB hx344_3
   replace hx344_4 := hc HB hx344_4
   replace hx344_5 := hc HB hx344_5
   have HR344_5 := Aside0.mk hi344_5
   have HC344_5 := Aside0.mk hl344_5
   clear hi344_5 hl344_5
   replace p344 := eq_true p344
   replace q344 := eq_true q344
   have p348 : 0 ≤ (x4_1 : Int) := of_decide_eq_true xA
   have q348 : x4_1 < (l0.length : Int) := of_decide_eq_true xA
   obtain ⟨ad348, A348_5, c348_5, e348, hx348_0, hx348_1, hx348_2, hx348_3, hx348_4, hx348_5, hl348_5, hi348_5⟩ := at_T142 HR0.out x4_1 p348 q348
   have hw348_5 := hx348_5
   have hw348_4 := hx348_4
   have hw348_3 := hx348_3
   have hw348_2 := hx348_2
   have hw348_1 := hx348_1
   have hw348_0 := hx348_0
   obtain rfl : ad344 = ad348 := (by injection e348)
   replace hx348_0 := hc HB hx348_0
   replace hx348_1 := hc HB hx348_1
   replace hx348_2 := hc HB hx348_2
   replace hx348_3 := hc HB hx348_3
   replace hx348_4 := hc HB hx348_4
   replace hx348_5 := hc HB hx348_5
   have HR348_5 := Aside0.mk hi348_5
   have HC348_5 := Aside0.mk hl348_5
   clear hi348_5 hl348_5
   replace p348 := eq_true p348
   replace q348 := eq_true q348
   have ea_ := Option.some.inj (hx344_5.symm.trans hx348_5)
   injection ea_ with ea_ en_ ec_
   subst ea_
   subst ec_
   clear en_
   refine start_ (n := 17) (S := fun w' => w'.cell? (ad344.add ((x4_1).toNat * 6)) = some (.string ((rd_T142 l0 x4_1).f0.f0)) ∧ w'.cell? ⟨(ad344.add ((x4_1).toNat * 6)).block, (ad344.add ((x4_1).toNat * 6)).off + 1, none⟩ = some (.string ((rd_T142 l0 x4_1).f0.f1)) ∧ w'.cell? ⟨(ad344.add ((x4_1).toNat * 6)).block, (ad344.add ((x4_1).toNat * 6)).off + 2, none⟩ = some (.int .i64 ((rd_T142 l0 x4_1).f0.f2)) ∧ w'.cell? ⟨(ad344.add ((x4_1).toNat * 6)).block, (ad344.add ((x4_1).toNat * 6)).off + 3, none⟩ = some (.int .i64 ((rd_T142 l0 x4_1).f0.f3)) ∧ w'.cell? ⟨(ad344.add ((x4_1).toNat * 6)).block, (ad344.add ((x4_1).toNat * 6)).off + 4, none⟩ = some (.int .i64 ((rd_T142 l0 x4_1).f0.f4)) ∧ w'.cell? ⟨(ad344.add ((x4_1).toNat * 6)).block, (ad344.add ((x4_1).toNat * 6)).off + 5, none⟩ = some (.slice A344_5 ((rd_T142 l0 x4_1).f1).length c344_5) ∧ w'.cell? (ad344.add ((x4_1).toNat * 6)) = some (.string ((rd_T142 l0 x4_1).f0.f0)) ∧ w'.cell? ⟨(ad344.add ((x4_1).toNat * 6)).block, (ad344.add ((x4_1).toNat * 6)).off + 1, none⟩ = some (.string ((rd_T142 l0 x4_1).f0.f1)) ∧ w'.cell? ⟨(ad344.add ((x4_1).toNat * 6)).block, (ad344.add ((x4_1).toNat * 6)).off + 2, none⟩ = some (.int .i64 ((rd_T142 l0 x4_1).f0.f2)) ∧ w'.cell? ⟨(ad344.add ((x4_1).toNat * 6)).block, (ad344.add ((x4_1).toNat * 6)).off + 3, none⟩ = some (.int .i64 ((rd_T142 l0 x4_1).f0.f3)) ∧ w'.cell? ⟨(ad344.add ((x4_1).toNat * 6)).block, (ad344.add ((x4_1).toNat * 6)).off + 4, none⟩ = some (.int .i64 ((rd_T142 l0 x4_1).f0.f4)) ∧ w'.cell? ⟨(ad344.add ((x4_1).toNat * 6)).block, (ad344.add ((x4_1).toNat * 6)).off + 5, none⟩ = some (.slice A344_5 ((rd_T142 l0 x4_1).f1).length c344_5)) (ds := []) (bm 17 0) (by kernel_rfl) rfl rfl ⟨(hd HB hw344_0), (hd HB hw344_1), (hd HB hw344_2), (hd HB hw344_3), (hd HB hw344_4), (hd HB hw344_5), (hd HB hw348_0), (hd HB hw348_1), (hd HB hw348_2), (hd HB hw348_3), (hd HB hw348_4), (hd HB hw348_5)⟩ (fun hHeld => ?_); refine with_tabW spec_l4Copy.tab5 spec_l4Copy.bits5 (fun HT_ HW_ => ?_)
   generalize wr.drew = w8 at HO_3 HB HR344_5 HR348_5 hx344_0 hx344_1 hx344_2 hx344_3 hx344_4 hx344_5 hx348_0 hx348_1 hx348_2 hx348_3 hx348_4 hx348_5 hHeld ⊢
   refine pA 0 12 (bm 17 1) HT_ ?_
   refine pA 1 13 (bm 17 3) HT_ ?_
   refine pA 2 14 (bm 17 7) HT_ ?_
   refine pA 3 15 (bm 17 15) HT_ ?_
   refine pA 4 16 (bm 17 31) HT_ ?_
   refine pA 7 19 (bm 17 159) HT_ ?_
   refine pA 8 20 (bm 17 415) HT_ ?_
   refine pA 9 21 (bm 17 927) HT_ ?_
   refine pA 10 22 (bm 17 1951) HT_ ?_
   refine tA 5 17 (bm 17 1983) HT_ HW_ hHeld ?_
   refine tA 11 23 (bm 17 4031) HT_ HW_ hHeld ?_
   refine oA 6 (some 18) (bm 17 4095) HT_ fun K hK => ?_
   refine Kd.R_lit_step Kd.string _ 9 ?hg (N := 18) ?hd (xs := ([] : List ByteArray)) (inner := []) (ok := fun _ => True) (okp := fun _ => True) ?hr ?hp (fun _ hk => hk) trivial (Below.refl _ _) (Nat.le_refl _) (by simp) ?_; (case hd => rfl); (case hg => rfl); (case hr => first | (go_simp; done) | (go_simp; rfl)); (case hp => exact (Reps.none _ _))
   intro v346 w9 ho10 hb hg_ hnew_
   clear hg_ hnew_
   (first | rw [← Ny345.out] at ho10 | (simp only [Int.reduceToNat] at ho10; rw [← Ny345.out] at ho10))
   replace HO_3 := am (Kd.S_elder' (sx HO_3) (Kd.R_base ho10) hb)
   have HO347 := am (Kd.R_lower ho10 (below_size (bl HB)))
   replace HB := kH HB hb
   clear hb ho10
   refine hK.out _ _ ⟨(hd HB hw344_0), (hd HB hw344_1), (hd HB hw344_2), (hd HB hw344_3), (hd HB hw344_4), (hd HB hw344_5), (hd HB hw348_0), (hd HB hw348_1), (hd HB hw348_2), (hd HB hw348_3), (hd HB hw348_4), (hd HB hw348_5)⟩ (fun hHeld => ?_)
   clear hK K
   refine nA (some 18) ?_
   refine oA 12 (some 24) (bm 17 8191) HT_ fun K hK => ?_
   refine Kd.R_append_rows_step Kd.string (w0 := w) w.heap.size (by rfl) (.tmp 18) (.tmp 23) 56 9 (.string ⟨#[]⟩) 16 rfl Tryd.underlying56 info9 rfl (by decide) (by omega) v346 y345 ((rd_T142 l0 x4_1).f1) _ _ _ (fun _ => True) (fun _ => False) rfl rfl ?aO ?aR (fun _ _ h => h) (fun _ h => h.elim) ?aF ?aB ?aS ?aL ?_
   (case aR => exact cb HR348_5 HB)
   (case aB => exact (bl HB))
   (case aF => exact (fun _ _ => trivial))
   (case aO => exact (ra HO347))
   (case aS => exact (below_size (bl HB)))
   (case aL => have := LMc6.out; omega)
   intro v350 w11 ho hb hg hat
   rw [← Ny349.out] at ho
   have n0_ := Aside0.mk (Kd.S_after (ok := (fun _ => True)) (sx HO_3) hg hat)
   have n1_ := Aside0.mk (hb)
   have n2_ := Aside0.mk (ho)
   clear HO_3
   clear HB
   clear HO347
   have HO_3 := n0_
   have HB := n1_
   have HO351 := n2_
   clear n0_ n1_ n2_
   clear ho hb hg hat
   obtain ⟨Ao12, co12, eo12⟩ := Kd.R_slice HO351.out
   (first | subst eo12 | (injection eo12 with f1_ f2_ f3_; have f4_ := f1_.symm; have f5_ := f3_.symm; clear f1_ f2_ f3_; subst f4_; subst f5_))
   refine hK.out _ _ ⟨(hd HB hw344_0), (hd HB hw344_1), (hd HB hw344_2), (hd HB hw344_3), (hd HB hw344_4), (hd HB hw344_5), (hd HB hw348_0), (hd HB hw348_1), (hd HB hw348_2), (hd HB hw348_3), (hd HB hw348_4), (hd HB hw348_5)⟩ (fun hHeld => ?_)
   clear hK K
   refine nA (some 24) ?_
   refine pA 13 25 (bm 17 16383) HT_ ?_
   refine oA 14 (some 26) (bm 17 32767) HT_ fun K hK => ?_
   refine value_ (w1 := ?_) (v := ?_) (by rfl) rfl ?_ ?_
   rotate_left 2
   ·go_simp
    constructor
    ·rfl
    ·rfl
   refine hK.out _ _ ⟨ca (hd HB hw344_0), ca (hd HB hw344_1), ca (hd HB hw344_2), ca (hd HB hw344_3), ca (hd HB hw344_4), ca (hd HB hw344_5), ca (hd HB hw348_0), ca (hd HB hw348_1), ca (hd HB hw348_2), ca (hd HB hw348_3), ca (hd HB hw348_4), ca (hd HB hw348_5)⟩ (fun hHeld => ?_)
   clear hK K
   refine nA (some 26) ?_
   refine oA 15 (some 27) (bm 17 65535) HT_ fun K hK => ?_
   refine Kd.S_append_step k142 (w0 := w) w.heap.size (by rfl) (.tmp 12) (.tmp 26) 128 142 (.agg #[(.string ⟨#[]⟩), (.string ⟨#[]⟩), (.int .i64 0), (.int .i64 0), (.int .i64 0), (.slice none 0 0)]) 80 rfl Tryd.underlying128 info142 rfl (by decide) (by omega) u3 x3_1 (⟨(⟨(rd_T142 l0 x4_1).f0.f0, (rd_T142 l0 x4_1).f0.f1, (rd_T142 l0 x4_1).f0.f2, (rd_T142 l0 x4_1).f0.f3, (rd_T142 l0 x4_1).f0.f4⟩ : S23), y349⟩ : S142) [.string ((rd_T142 l0 x4_1).f0.f0), .string ((rd_T142 l0 x4_1).f0.f1), .int .i64 ((rd_T142 l0 x4_1).f0.f2), .int .i64 ((rd_T142 l0 x4_1).f0.f3), .int .i64 ((rd_T142 l0 x4_1).f0.f4), .slice Ao12 y349.length co12] (fun _ => True) (fun k_ => some k_ = (.slice Ao12 y349.length co12 : Value).ownBlock) rfl rfl ?aP (fun k_ hk_ => ((Kd.R_mono (ok' := fun k_ => ((fun _ => True)) k_ ∧ some k_ ≠ (u3 : Value).ownBlock) (Kd.R_apart' (HO351.out) (Kd.S_typed HO_3.out) (by decide)) (fun k_ hk => ⟨trivial, hk.2⟩))).1 k_ hk_.symm) ?aF ?aO ?aB ?aS ?aL ?_
   (case aP => exact k142_mkM _ _ _ (⟨(⟨(rd_T142 l0 x4_1).f0.f0, (rd_T142 l0 x4_1).f0.f1, (rd_T142 l0 x4_1).f0.f2, (rd_T142 l0 x4_1).f0.f3, (rd_T142 l0 x4_1).f0.f4⟩ : S23), y349⟩ : S142) (Kd.R_mono (Kd.R_tight rfl (Kd.R_mono (ok' := fun k_ => ((fun _ => True)) k_ ∧ some k_ ≠ (u3 : Value).ownBlock) (Kd.R_apart' (HO351.out) (Kd.S_typed HO_3.out) (by decide)) (fun k_ hk => ⟨trivial, hk.2⟩))) (fun _ h_ => h_)))
   (case aB => exact (bl HB))
   (case aF => exact (fun _ _ => trivial))
   (case aO => exact (by (with_reducible repeat (first | apply Kd.S_alloc | apply Kd.S_drewN | apply Kd.S_drew)); exact Kd.S_mono HO_3.out (fun k_ hk => ⟨trivial, fun e_ => hk.2 e_⟩)))
   (case aS => exact (below_size (bl HB)))
   (case aL => have := LMc7.out; omega)
   intro v353 w13 ho hb hg hat
   rw [← Ny352.out] at ho
   have n0_ := Aside0.mk (hb)
   have n1_ := Aside0.mk (ho)
   clear HB
   clear HO_3
   clear HO351
   have HB := n0_
   have HO354 := n1_
   clear n0_ n1_
   clear ho hb hg hat
   refine hK.out _ _ ⟨(hd HB hw344_0), (hd HB hw344_1), (hd HB hw344_2), (hd HB hw344_3), (hd HB hw344_4), (hd HB hw344_5), (hd HB hw348_0), (hd HB hw348_1), (hd HB hw348_2), (hd HB hw348_3), (hd HB hw348_4), (hd HB hw348_5)⟩ (fun hHeld => ?_)
   clear hK K
   refine nA (some 27) ?_
   refine pA 16 3 (bm 17 131071) HT_ ?_
   refine done_ (done_of HT_.out (by kernel_rfl)) ?_
   try go_wp2
   go_roundg k1
   case measure => have := HK1.out; omega
   case rel => exact ⟨(y352), (wrap64 (x4_1 + 1)), xR, H', ⟨xL HK1⟩, ⟨sx HO354⟩, ⟨bl HB⟩⟩
end Go.Proofs.YtgjljbaadglpnaaDoor.PFnHeadGet
