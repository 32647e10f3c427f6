/- Functions of the program and what each answers: the kit's print, shortened (wip/press2.py). -/
import Derived.Test.YtgjljbaadglpnaaGreatDoorPFnPaidPutx0
import Derived.Test.YtgjljbaadglpnaaGreatDoorPFnPaidPutx4
import Derived.Test.YtgjljbaadglpnaaGreatDoorPFnPaidPutx18
namespace Go.Proofs.YtgjljbaadglpnaaGreatDoor.PFnPaidPut
open Go.Proofs.YtgjljbaadglpnaaGreatDoor.Sq Go.RowKit Go.Proofs.YtgjljbaadglpnaaGreatDoorW.PrintWords Go.Proofs.YtgjljbaadglpnaaGreatDoorW.PrintLast Go.Proofs.YtgjljbaadglpnaaGreatDoorW.PrintMore
attribute [local go_sem] max2_int min2_int max_two min_two max_three min_three max_four min_four   -- for this text's walks alone
set_option linter.unusedVariables false
set_option linter.unusedSimpArgs false
set_option maxHeartbeats 64000000
set_option maxRecDepth 100000
def spec_DrawPaidPut.f (k : Nat) (l0 : List Int) : Option (Int × ByteArray × ByteArray × Int × Int × Int × (List (S93)) × (List (S93)) × (List (S48))) := (spec_l20Open.f l0).bind fun bt502 => ((spec_l20Paid.f k bt502.1 bt502.2).bind fun bt505 => ((spec_l20Rd_pick.f k bt502.1 bt505.2.2.2.2.2.2.2.2.2.2.2 8).bind fun bt524 => (if bt524.1 = 0 then ((spec_l20Rd_one.f k bt502.1 bt524.2 (([(-1), 20] : List Int))).bind fun bt529 => (some (bt529.1, bt505.2.1, bt505.2.2.1, bt505.2.2.2.1, bt505.2.2.2.2.1, bt505.2.2.2.2.2.1, bt505.2.2.2.2.2.2.1, bt505.2.2.2.2.2.2.2.1, bt505.2.2.2.2.2.2.2.2.1))) else (if bt524.1 = 1 then ((spec_l20Sum.f k bt502.1 bt524.2).bind fun bt531 => (if bt505.2.2.2.2.2.2.2.2.1.length < 5864062014805 then (some (bt505.1, bt505.2.1, bt505.2.2.1, bt505.2.2.2.1, bt505.2.2.2.2.1, bt505.2.2.2.2.2.1, bt505.2.2.2.2.2.2.1, bt505.2.2.2.2.2.2.2.1, (bt505.2.2.2.2.2.2.2.2.1 ++ [(⟨bt531.1, false⟩ : S48)]))) else (none))) else (some (bt505.1, bt505.2.1, bt505.2.2.1, bt505.2.2.2.1, bt505.2.2.2.2.1, bt505.2.2.2.2.2.1, bt505.2.2.2.2.2.2.1, bt505.2.2.2.2.2.2.2.1, bt505.2.2.2.2.2.2.2.2.1))))))
theorem spec_DrawPaidPut.mono : ∀ a0 k, LeO (spec_DrawPaidPut.f k a0) (spec_DrawPaidPut.f (k + 1) a0) := by
 intro a0 k
 unfold spec_DrawPaidPut.f
 exact mo4 spec_l20Paid.mono spec_l20Rd_one.mono spec_l20Rd_pick.mono spec_l20Sum.mono
def spec_DrawPaidPut.T7 : Bool × List (List Nat × List Nat) := (true, [([], []), ([0], [0]), ([], []), ([2], [2]), ([3], [3]), ([4], [4]), ([1, 5, 3], [1, 5]), ([0, 1, 2, 3, 4, 5, 6], []), ([7, 6, 6, 0, 1, 2, 3, 4, 5, 6], [6, 7])])
def spec_DrawPaidPut.B7 : List Nat := [0, 1, 0, 4, 12, 28, 63, 127, 255]
theorem spec_DrawPaidPut.tab7 : rtab .any (opsOf Tryz.f5 7) = spec_DrawPaidPut.T7 := by kernel_rfl
theorem spec_DrawPaidPut.bits7 : waitsOk spec_DrawPaidPut.T7.2 spec_DrawPaidPut.B7 = true := by kernel_rfl
theorem spec_DrawPaidPut.calls (k : Nat) (A0 : Option Addr) (c0 : Nat) (l0 : List Int) (r1 : Int) (r2 : ByteArray) (r3 : ByteArray) (r4 : Int) (r5 : Int) (r6 : Int) (r7 : List (S93)) (r8 : List (S93)) (r9 : List (S48)) (w : World) (hr0 : Kd.C (Kd.int .u8) w A0 l0.length l0) (hc0 : l0.length ≤ c0) (h : spec_DrawPaidPut.f k l0 = some (r1, r2, r3, r4, r5, r6, r7, r8, r9)) :
  Calls Tryz.prog 5 #[.slice A0 l0.length c0] w fun e w' => ∃ v6_ v7_ v8_ : Value, e = .returned (.agg #[.int .i64 r1, .string r2, .string r3, .int .i64 r4, .int .i64 r5, .int .i64 r6, v6_, v7_, v8_]) ∧ Kd.R k93 93 w' w.heap.size (fun k_ => some k_ ≠ (v7_ : Value).ownBlock) v6_ r7 ∧ Kd.R k93 93 w' w.heap.size (fun k_ => some k_ ≠ (v6_ : Value).ownBlock) v7_ r8 ∧ Kd.R k48 48 w' w.heap.size (fun _ => True) v8_ r9 ∧ Below w.heap.size w w' := by
 have hu30 := Tryz.underlying30
 have hu48 := Tryz.underlying48
 have HR0 := Aside0.mk hr0
 have HC0 := Aside0.mk hc0
 clear hr0 hc0
 have HB := Aside0.mk (Below.refl w.heap.size w)
 have H : ((spec_l20Open.f l0).bind fun bt502 => ((spec_l20Paid.f k bt502.1 bt502.2).bind fun bt505 => ((spec_l20Rd_pick.f k bt502.1 bt505.2.2.2.2.2.2.2.2.2.2.2 8).bind fun bt524 => (if bt524.1 = 0 then ((spec_l20Rd_one.f k bt502.1 bt524.2 (([(-1), 20] : List Int))).bind fun bt529 => (some (bt529.1, bt505.2.1, bt505.2.2.1, bt505.2.2.2.1, bt505.2.2.2.2.1, bt505.2.2.2.2.2.1, bt505.2.2.2.2.2.2.1, bt505.2.2.2.2.2.2.2.1, bt505.2.2.2.2.2.2.2.2.1))) else (if bt524.1 = 1 then ((spec_l20Sum.f k bt502.1 bt524.2).bind fun bt531 => (if bt505.2.2.2.2.2.2.2.2.1.length < 5864062014805 then (some (bt505.1, bt505.2.1, bt505.2.2.1, bt505.2.2.2.1, bt505.2.2.2.2.1, bt505.2.2.2.2.2.1, bt505.2.2.2.2.2.2.1, bt505.2.2.2.2.2.2.2.1, (bt505.2.2.2.2.2.2.2.2.1 ++ [(⟨bt531.1, false⟩ : S48)]))) else (none))) else (some (bt505.1, bt505.2.1, bt505.2.2.1, bt505.2.2.2.1, bt505.2.2.2.2.1, bt505.2.2.2.2.2.1, bt505.2.2.2.2.2.2.1, bt505.2.2.2.2.2.2.2.1, bt505.2.2.2.2.2.2.2.2.1))))))) = some (r1, r2, r3, r4, r5, r6, r7, r8, r9) := h
 clear h
 replace H := Option.bind_eq_some_iff.mp H
 obtain ⟨⟨t502, t503⟩, A20, H⟩ := H
 have A2 := Aside0.mk A20
 clear A20
 replace H := Option.bind_eq_some_iff.mp H
 obtain ⟨⟨t505, t506, t507, t508, t509, t510, t511, t514, t517, t520, t521, t522⟩, A30, H⟩ := H
 have A3 := Aside0.mk A30
 clear A30
 replace H := Option.bind_eq_some_iff.mp H
 obtain ⟨⟨t524, t525⟩, A40, H⟩ := H
 have A4 := Aside0.mk A40
 clear A40
 go_enter Tryz.func5, Tryz.ntmps5
 go_upto_if 17 with ((with_reducible refine gg ?_); first | (refine bE 2 #[.int .i64 0, .string (⟨#[]⟩ : ByteArray), .string (⟨#[]⟩ : ByteArray), .int .i64 0, .int .i64 0, .int .i64 0, .slice none 0 0, .slice none 0 0, .slice none 0 0] 30 ?_; intro gb501 hg w7 hbox hb; have BK501 := am (hbox); have GW501 := zB hg HB; have GE501 := zB hg HB; replace HB := kH HB hb; clear hb hbox hg) | (refine store_event (t := 30) (p := 2) (v := ?vo_) (w1 := ?wo_) ?hg ?ho ?hn ?hr ?_; (case ho => rfl); (case hg => rfl); (case hn => rfl); (case hr => go_simp; rfl); intro wq_ hW_; have BQ_ := am hW_; have hzq_ := am hW_; replace hW_ := am hW_) | (refine gL 8 Tryz.func13 #[.slice A0 l0.length c0] ?_; (try (clear hzq_ BQ_; obtain ⟨hW_⟩ := hW_; subst hW_)); (with_reducible refine (spec_l20Open.calls _ _ l0 t502 t503 w _ ?side1 ?side2 ?side3 A2.out).mono ?_); (case side1 => exact xB HB); (case side2 => exact HR0.out); (case side3 => exact HC0.out); rintro e w8 ⟨g504, rfl, hi, hb, hb2⟩; refine ⟨_, rfl, ?_⟩; replace HB := am (hb); have HI504 := am (hi); have NB504_501 := am (IsS78.ne_blk hi (bb BK501 hb2) (by decide)); have NB501_504 := am (Ne.symm (IsS78.ne_blk hi (bb BK501 hb2) (by decide))); replace BK501 := am (bb BK501 hb2); (try clear hb)) | (refine gL 11 Tryz.func14 #[.pointer (some ⟨g504, 0, none⟩)] ?_; (try (clear hzq_ BQ_; obtain ⟨hW_⟩ := hW_; subst hW_)); (with_reducible refine (spec_l20Paid.calls k g504 t502 t503 t505 t506 t507 t508 t509 t510 t511 t514 t517 t520 t521 t522 w _ ?side1 ?side2 A3.out).mono ?_); (case side1 => exact iX HI504); (case side2 => exact xBi HB); rintro e w9 ⟨v512, v515, v518, rfl, ho0, ho1, ho2, hi, hb, hk⟩; refine ⟨_, rfl, ?_⟩; replace BK501 := am (KeepBut.blk hk (g' := gb501) (o := .cells #[.int .i64 0, .string (⟨#[]⟩ : ByteArray), .string (⟨#[]⟩ : ByteArray), .int .i64 0, .int .i64 0, .int .i64 0, .slice none 0 0, .slice none 0 0, .slice none 0 0] 30 (0, 0)) (kb BK501) NB501_504.out (by simp)); have HO513 := am (Kd.R_lower ho0 (below_size (xBi HB))); have HO516 := am (Kd.R_lower ho1 (below_size (xBi HB))); have HO519 := am (Kd.R_lower ho2 (below_size (xBi HB))); replace HB := am (hb); replace HI504 := am (hi); (try clear hb); (try clear ho0); (try clear ho1); (try clear ho2)) | (refine bE 4 #[.int .i64 0, .string (⟨#[]⟩ : ByteArray), .string (⟨#[]⟩ : ByteArray), .int .i64 0, .int .i64 0, .int .i64 0, .slice none 0 0, .slice none 0 0, .slice none 0 0] 30 ?_; (try (clear hzq_ BQ_; obtain ⟨hW_⟩ := hW_; subst hW_)); intro gb523 hg w10 hbox hb; replace HO513 := rk HO513 hb; replace HO516 := rk HO516 hb; replace HO519 := rk HO519 hb; have BK523 := am (hbox); have GW523 := am ((by rw [hg]; exact (below_size (xBi HB)) : w.heap.size ≤ gb523)); have GE523 := am ((by rw [hg]; exact (below_size (xBi HB)) : w.heap.size ≤ gb523)); replace HB := kHi HB hb; have NB501_523 := nl hg (kb BK501); have NB523_501 := ng hg (kb BK501); replace BK501 := kP _ BK501 hb; have NB504_523 := iN hg HI504; have NB523_504 := iM hg HI504; replace HI504 := iK HI504 hb; clear hb hbox hg; have hnb11 := NB523_501.out; have hnc11 := NB501_523.out; have hnb12 := NB523_504.out; have hnc12 := NB504_523.out; have hz13 := bc9 BK523; obtain ⟨Ao14, co14, eo14⟩ := Kd.R_slice HO513.out; subst eo14; obtain ⟨Ao15, co15, eo15⟩ := Kd.R_slice HO516.out; subst eo15; obtain ⟨Ao16, co16, eo16⟩ := Kd.R_slice HO519.out; subst eo16) | (refine store_event (t := 30) (p := 4) (v := ?vo_) (w1 := ?wo_) ?hg ?ho ?hn ?hr ?_; (case ho => rfl); (case hg => rfl); (case hn => rfl); (case hr => go_simp; rfl); intro wq_ hW_; have BQ_ := am hW_; have hzq_ := am hW_; replace hW_ := am hW_) | (refine gL 16 Tryz.func15 #[.pointer (some ⟨g504, 0, none⟩), .int .i64 8] ?_; (try (clear hzq_ BQ_; obtain ⟨hW_⟩ := hW_; subst hW_)); (with_reducible refine (spec_l20Rd_pick.calls k g504 t502 t522 8 t524 t525 w _ ?side1 ?side2 A4.out).mono ?_); (case side1 => exact iX HI504); (case side2 => exact xBi HB); rintro e w17 ⟨rfl, hi, hb, hk⟩; refine ⟨_, rfl, ?_⟩; replace BK501 := am (KeepBut.blk hk (g' := gb501) (o := .cells #[.int .i64 0, .string (⟨#[]⟩ : ByteArray), .string (⟨#[]⟩ : ByteArray), .int .i64 0, .int .i64 0, .int .i64 0, .slice none 0 0, .slice none 0 0, .slice none 0 0] 30 (0, 0)) (fb BK501) NB501_504.out (by simp)); replace HO513 := am (Kd.R_mono (Kd.R_keep (IsS78.apart (show IsS78 w _ g504 t502 t522 from iX HI504) (rf HO513 BK523) (by decide)) hk (fun _ h => h.2)) (fun _ h => h.1)); replace HO516 := am (Kd.R_mono (Kd.R_keep (IsS78.apart (show IsS78 w _ g504 t502 t522 from iX HI504) (rf HO516 BK523) (by decide)) hk (fun _ h => h.2)) (fun _ h => h.1)); replace HO519 := am (Kd.R_mono (Kd.R_keep (IsS78.apart (show IsS78 w _ g504 t502 t522 from iX HI504) (rf HO519 BK523) (by decide)) hk (fun _ h => h.2)) (fun _ h => h.1)); replace BK523 := am (KeepBut.blk hk (g' := gb523) (o := .cells #[.int .i64 t505, .string t506, .string t507, .int .i64 t508, .int .i64 t509, .int .i64 t510, .slice Ao14 t511.length co14, .slice Ao15 t514.length co15, .slice Ao16 t517.length co16] 30 (0, 0)) (fb BK523) NB523_504.out (by simp)); replace HB := am (hb); replace HI504 := am (hi); (try clear hb)))
 by_cases c5 : t524 = 0
 ·rw [if_pos c5] at H
  have c5b0 := beq_iff_eq.mpr c5
  have c5b1 := bne_eq_false_iff_eq.mpr c5
  try simp only [c5b0, c5b1, Bool.not_true, Bool.not_false]
  clear c5
  obtain ⟨y526, Ny526⟩ := yA (([(-1), 20] : List Int) : List Int)
  rw [← Ny526.out] at H
  replace H := Option.bind_eq_some_iff.mp H
  obtain ⟨⟨t529, t530⟩, A60, H⟩ := H
  have A6 := Aside0.mk A60
  clear A60
  simp only [Option.some.injEq, Prod.mk.injEq] at H
  obtain ⟨rfl, rfl, rfl, rfl, rfl, rfl, rfl, rfl, rfl⟩ := H
  go_wp2_with (first | ((with_reducible refine gate_dst (N := 20) rfl ?_); refine Kd.R_lit (Kd.int .i64) _ 3 ?hg (N := 20) ?hd (xs := ([(-1), 20] : List Int)) (inner := [.int .i64 (-1), .int .i64 20]) (ok := fun _ => True) (okp := fun _ => True) ?hr ?hp (fun _ hk => hk) trivial (Below.refl _ _) (Nat.le_refl _) (by simp) ?_; (try (clear hzq_ BQ_; obtain ⟨hW_⟩ := hW_; subst hW_)); (case hd => rfl); (case hg => rfl); (case hr => first | (go_simp; done) | (go_simp; rfl)); (case hp => exact xP); intro v527 w18 ho19 hb hg_ hnew_; clear hg_ hnew_; (first | rw [← Ny526.out] at ho19 | (simp only [Int.reduceToNat] at ho19; rw [← Ny526.out] at ho19)); replace HO513 := rk HO513 hb; replace HO516 := rk HO516 hb; replace HO519 := rk HO519 hb; have HO528 := am (Kd.R_lower ho19 (below_size (xBi HB))); replace BK501 := kP _ BK501 hb; replace BK523 := kP _ BK523 hb; replace HB := kHi HB hb; replace HI504 := iK HI504 hb; clear hb ho19; obtain ⟨Ao20, co20, eo20⟩ := Kd.R_slice HO528.out; subst eo20) | ((with_reducible refine gg ?_); refine gL 21 Tryz.func16 #[.pointer (some ⟨g504, 0, none⟩), .slice Ao20 y526.length co20] ?_; (try (clear hzq_ BQ_; obtain ⟨hW_⟩ := hW_; subst hW_)); (with_reducible refine (spec_l20Rd_one.calls k g504 t502 t525 _ _ y526 t529 t530 w _ ?side1 ?side2 ?side3 ?side4 ?side5 A6.out).mono ?_); (case side1 => exact iX HI504); (case side2 => exact xBi HB); (case side3 => exact cr (Kd.R_reads' HO528.out).2.2); (case side4 => exact sl HO528); (case side5 => exact far_slice (IsS78.own_ne HI504.out HO528.out (by decide))); rintro e w21 ⟨rfl, hi, hb, hk⟩; refine ⟨_, rfl, ?_⟩; replace BK501 := am (KeepBut.blk hk (g' := gb501) (o := .cells #[.int .i64 0, .string (⟨#[]⟩ : ByteArray), .string (⟨#[]⟩ : ByteArray), .int .i64 0, .int .i64 0, .int .i64 0, .slice none 0 0, .slice none 0 0, .slice none 0 0] 30 (0, 0)) (kb BK501) NB501_504.out (by simp)); replace HO513 := iR HI504 HO513 hk; replace HO516 := iR HI504 HO516 hk; replace HO519 := iR HI504 HO519 hk; replace BK523 := am (KeepBut.blk hk (g' := gb523) (o := .cells #[.int .i64 t505, .string t506, .string t507, .int .i64 t508, .int .i64 t509, .int .i64 t510, .slice Ao14 t511.length co14, .slice Ao15 t514.length co15, .slice Ao16 t517.length co16] 30 (0, 0)) (kb BK523) NB523_504.out (by simp)); replace HO528 := iR HI504 HO528 hk; replace HB := am (hb); replace HI504 := am (hi); (try clear hb); have hz22 := bc9 BK523; have hnb23 := NB501_504.out; have hnc23 := NB504_501.out; have hz24 := bc9 BK501))
  (try (clear hzq_ BQ_; obtain ⟨hW_⟩ := hW_; subst hW_))
  refine bodyPost_ret (results_cell_row rfl _ _ gb501 30 #[.int .i64 t529, .string t506, .string t507, .int .i64 t508, .int .i64 t509, .int .i64 t510, .slice Ao14 t511.length co14, .slice Ao15 t514.length co15, .slice Ao16 t517.length co16] (0, 0) _ rfl (fb BK501) Tryz.underlying30 rfl (by kernel_rfl)) rfl ?_
  exact ⟨_, _, _, xE, by (with_reducible repeat (first | apply Kd.R_alloc | apply Kd.R_drewN | apply Kd.R_drew)); exact Kd.R_mono (Kd.R_far (p := ⟨gb501, 8, none⟩) (Kd.R_far (p := ⟨gb501, 7, none⟩) (Kd.R_far (p := ⟨gb501, 6, none⟩) (Kd.R_far (p := ⟨gb501, 5, none⟩) (Kd.R_far (p := ⟨gb501, 4, none⟩) (Kd.R_far (p := ⟨gb501, 3, none⟩) (Kd.R_far (p := ⟨gb501, 2, none⟩) (Kd.R_far (p := ⟨gb501, 1, none⟩) (Kd.R_far (p := ⟨gb501, 0, none⟩) (Kd.R_far (p := ⟨gb523, 0, none⟩) (Kd.R_types (Kd.R_types HO513.out BK523.out (by decide)) BK501.out (by decide)) (fun _ hk => hk.1.2) (.int .i64 t529)) (fun _ hk => hk.2) (.int .i64 t529)) (fun _ hk => hk.2) (.string t506)) (fun _ hk => hk.2) (.string t507)) (fun _ hk => hk.2) (.int .i64 t508)) (fun _ hk => hk.2) (.int .i64 t509)) (fun _ hk => hk.2) (.int .i64 t510)) (fun _ hk => hk.2) (.slice Ao14 t511.length co14)) (fun _ hk => hk.2) (.slice Ao15 t514.length co15)) (fun _ hk => hk.2) (.slice Ao16 t517.length co16)) (fun _ hk => hk.1.1), by (with_reducible repeat (first | apply Kd.R_alloc | apply Kd.R_drewN | apply Kd.R_drew)); exact Kd.R_mono (Kd.R_far (p := ⟨gb501, 8, none⟩) (Kd.R_far (p := ⟨gb501, 7, none⟩) (Kd.R_far (p := ⟨gb501, 6, none⟩) (Kd.R_far (p := ⟨gb501, 5, none⟩) (Kd.R_far (p := ⟨gb501, 4, none⟩) (Kd.R_far (p := ⟨gb501, 3, none⟩) (Kd.R_far (p := ⟨gb501, 2, none⟩) (Kd.R_far (p := ⟨gb501, 1, none⟩) (Kd.R_far (p := ⟨gb501, 0, none⟩) (Kd.R_far (p := ⟨gb523, 0, none⟩) (Kd.R_types (Kd.R_types HO516.out BK523.out (by decide)) BK501.out (by decide)) (fun _ hk => hk.1.2) (.int .i64 t529)) (fun _ hk => hk.2) (.int .i64 t529)) (fun _ hk => hk.2) (.string t506)) (fun _ hk => hk.2) (.string t507)) (fun _ hk => hk.2) (.int .i64 t508)) (fun _ hk => hk.2) (.int .i64 t509)) (fun _ hk => hk.2) (.int .i64 t510)) (fun _ hk => hk.2) (.slice Ao14 t511.length co14)) (fun _ hk => hk.2) (.slice Ao15 t514.length co15)) (fun _ hk => hk.2) (.slice Ao16 t517.length co16)) (fun _ hk => hk.1.1), by (with_reducible repeat (first | apply Kd.R_alloc | apply Kd.R_drewN | apply Kd.R_drew)); exact Kd.R_mono (Kd.R_far (p := ⟨gb501, 8, none⟩) (Kd.R_far (p := ⟨gb501, 7, none⟩) (Kd.R_far (p := ⟨gb501, 6, none⟩) (Kd.R_far (p := ⟨gb501, 5, none⟩) (Kd.R_far (p := ⟨gb501, 4, none⟩) (Kd.R_far (p := ⟨gb501, 3, none⟩) (Kd.R_far (p := ⟨gb501, 2, none⟩) (Kd.R_far (p := ⟨gb501, 1, none⟩) (Kd.R_far (p := ⟨gb501, 0, none⟩) (Kd.R_far (p := ⟨gb523, 0, none⟩) (Kd.R_types (Kd.R_types HO519.out BK523.out (by decide)) BK501.out (by decide)) (fun _ hk => hk.1.2) (.int .i64 t529)) (fun _ hk => hk.2) (.int .i64 t529)) (fun _ hk => hk.2) (.string t506)) (fun _ hk => hk.2) (.string t507)) (fun _ hk => hk.2) (.int .i64 t508)) (fun _ hk => hk.2) (.int .i64 t509)) (fun _ hk => hk.2) (.int .i64 t510)) (fun _ hk => hk.2) (.slice Ao14 t511.length co14)) (fun _ hk => hk.2) (.slice Ao15 t514.length co15)) (fun _ hk => hk.2) (.slice Ao16 t517.length co16)) (fun _ hk => trivial), xBi HB⟩
 rw [if_neg c5] at H
 have c5b0 := beq_eq_false_iff_ne.mpr c5
 have c5b1 := bne_iff_ne.mpr c5
 try simp only [c5b0, c5b1, Bool.not_true, Bool.not_false]
 by_cases c25 : t524 = 1
 rotate_left
 ·rw [if_neg c25] at H
  have c25b0 := beq_eq_false_iff_ne.mpr c25
  have c25b1 := bne_iff_ne.mpr c25
  simp only [Option.some.injEq, Prod.mk.injEq] at H
  obtain ⟨rfl, rfl, rfl, rfl, rfl, rfl, rfl, rfl, rfl⟩ := H
  (first | have hz58 := bc9 (kF _ BK523 hW_.out) | have hz58 := bc9 BK523)
  have hnb59 := NB501_504.out
  have hnc59 := NB504_501.out
  (first | have hz60 := bc9 (kF _ BK501 hW_.out) | have hz60 := bc9 BK501)
  go_wp2
  (try (clear hzq_ BQ_; obtain ⟨hW_⟩ := hW_; subst hW_))
  refine bodyPost_ret (results_cell_row rfl _ _ gb501 30 #[.int .i64 t505, .string t506, .string t507, .int .i64 t508, .int .i64 t509, .int .i64 t510, .slice Ao14 t511.length co14, .slice Ao15 t514.length co15, .slice Ao16 t517.length co16] (0, 0) _ rfl (fb BK501) Tryz.underlying30 rfl (by kernel_rfl)) rfl ?_
  exact ⟨_, _, _, xE, rF HO513 BK501 (fun _ hk => hk), rF HO516 BK501 (fun _ hk => hk), rF HO519 BK501 (fun _ hk => trivial), xBi HB⟩
 rw [if_pos c25] at H
 have c25b0 := beq_iff_eq.mpr c25
 have c25b1 := bne_eq_false_iff_eq.mpr c25
 clear c25
 replace H := Option.bind_eq_some_iff.mp H
 obtain ⟨⟨t531, t532⟩, A260, H⟩ := H
 have A26 := Aside0.mk A260
 clear A260
 replace H := ipa H
 obtain ⟨LMc27, H⟩ := H
 obtain ⟨y533, Ny533⟩ := yA (t517 ++ [(⟨t531, false⟩ : S48)] : List (S48))
 rw [← Ny533.out] at H
 simp only [Option.some.injEq, Prod.mk.injEq] at H
 obtain ⟨rfl, rfl, rfl, rfl, rfl, rfl, rfl, rfl, rfl⟩ := H
 try go_wp2
 replace HO513 := am (Kd.R_drew HO513.out)
 replace HO516 := am (Kd.R_drew HO516.out)
 replace HO519 := am (Kd.R_drew HO519.out)
 replace BK501 := am (blk_drew BK501.out)
 replace BK523 := am (blk_drew BK523.out)
 replace HI504 := am (IsS78.drew HI504.out)
 replace HB := am (below_drew1 HB.out)
 (try (clear hzq_ BQ_; obtain ⟨hW_⟩ := hW_; subst hW_))
 refine start_ (n := 9) (S := cs9 gb523 (.int .i64 t505) (.string t506) (.string t507) (.int .i64 t508) (.int .i64 t509) (.int .i64 t510) (.slice Ao14 t511.length co14) (.slice Ao15 t514.length co15) (.slice Ao16 t517.length co16)) (ds := [8]) (bm 9 0) (by kernel_rfl) rfl rfl (bz9 BK523) (fun hHeld => ?_); refine with_tabW spec_DrawPaidPut.tab7 spec_DrawPaidPut.bits7 (fun HT_ HW_ => ?_)
 generalize w17.drew = w39 at HO513 HO516 HO519 BK501 BK523 HI504 HB hHeld ⊢
 refine pA 0 25 (bm 9 1) HT_ ?_
 refine pA 2 27 (bm 9 5) HT_ ?_
 refine tA 1 26 (bm 9 7) HT_ HW_ hHeld ?_
 refine oA 3 (some 28) (bm 9 15) HT_ fun K hK => ?_
 refine gA Tryz.func17 #[.pointer (some ⟨g504, 0, none⟩)] ?_
 with_reducible refine (spec_l20Sum.calls k g504 t502 t525 t531 t532 w _ ?side1 ?side2 A26.out).mono ?_
 (case side1 => exact iX HI504)
 (case side2 => exact xBi HB)
 rintro e w40 ⟨rfl, hi, hb, hk⟩
 refine ⟨_, rfl, ?_⟩
 replace BK501 := am (KeepBut.blk hk (g' := gb501) (o := .cells #[.int .i64 0, .string (⟨#[]⟩ : ByteArray), .string (⟨#[]⟩ : ByteArray), .int .i64 0, .int .i64 0, .int .i64 0, .slice none 0 0, .slice none 0 0, .slice none 0 0] 30 (0, 0)) (kb BK501) NB501_504.out (by simp))
 replace HO513 := iR HI504 HO513 hk
 replace HO516 := iR HI504 HO516 hk
 replace HO519 := iR HI504 HO519 hk
 replace BK523 := am (KeepBut.blk hk (g' := gb523) (o := .cells #[.int .i64 t505, .string t506, .string t507, .int .i64 t508, .int .i64 t509, .int .i64 t510, .slice Ao14 t511.length co14, .slice Ao15 t514.length co15, .slice Ao16 t517.length co16] 30 (0, 0)) (kb BK523) NB523_504.out (by simp))
 replace HB := am (hb)
 replace HI504 := am (hi)
 (try clear hb)
 (try clear hb2)
 (try clear hk)
 (try clear hi)
 refine hK.out _ _ (bz9 BK523) (fun hHeld => ?_)
 clear hK K
 refine nA (some 28) ?_
 refine pA 4 29 (bm 9 31) HT_ ?_
 refine oA 5 (some 30) (bm 9 63) HT_ fun K hK => ?_
 refine value_ (w1 := ?_) (v := ?_) (by rfl) rfl ?_ ?_
 rotate_left 2
 ·go_simp
  constructor
  ·rfl
  ·rfl
 refine hK.out _ _ ⟨(blk_cell (blk_alloc BK523.out _) 0).trans rfl, (blk_cell (blk_alloc BK523.out _) 1).trans rfl, (blk_cell (blk_alloc BK523.out _) 2).trans rfl, (blk_cell (blk_alloc BK523.out _) 3).trans rfl, (blk_cell (blk_alloc BK523.out _) 4).trans rfl, (blk_cell (blk_alloc BK523.out _) 5).trans rfl, (blk_cell (blk_alloc BK523.out _) 6).trans rfl, (blk_cell (blk_alloc BK523.out _) 7).trans rfl, (blk_cell (blk_alloc BK523.out _) 8).trans rfl⟩ (fun hHeld => ?_)
 clear hK K
 refine nA (some 30) ?_
 refine oA 6 (some 31) (bm 9 127) HT_ fun K hK => ?_
 refine Kd.R_append_step k48 (w0 := w) w.heap.size (by rfl) (.tmp 26) (.tmp 30) 28 48 (.agg #[(.string ⟨#[]⟩), (.bool false)]) 24 rfl Tryz.underlying28 info48 rfl (by decide) (by omega) (.slice Ao16 t517.length co16) t517 (⟨t531, false⟩ : S48) [.string t531, .bool false] (fun _ => True) (fun _ => False) rfl rfl ?aP (fun _ hk => hk.elim) ?aF ?aO ?aB ?aS ?aL ?_
 (case aP => exact k48_mkM _ _ _ (⟨t531, false⟩ : S48))
 (case aB => exact (xBi HB))
 (case aF => exact (fun _ _ => trivial))
 (case aO => exact (ra HO519))
 (case aS => exact (below_size (xBi HB)))
 (case aL => have := LMc27.out; omega)
 intro v534 w41 ho hb hg hat
 rw [← Ny533.out] at ho
 have n0_ := Aside0.mk (blk_grown (g := gb501) (o := .cells #[.int .i64 0, .string (⟨#[]⟩ : ByteArray), .string (⟨#[]⟩ : ByteArray), .int .i64 0, .int .i64 0, .int .i64 0, .slice none 0 0, .slice none 0 0, .slice none 0 0] 30 (0, 0)) (kb BK501) hg (Kd.R_ne HO519.out BK501.out (by decide)))
 have n1_ := Aside0.mk (IsS78.grown (iX HI504) hg (IsS78.own_ne HI504.out HO519.out (by decide)))
 have n2_ := Aside0.mk (Kd.R_over' (ra HO513) (Kd.R_typed (ra HO519)) (by decide) hg)
 have n3_ := Aside0.mk (Kd.R_over' (ra HO516) (Kd.R_typed (ra HO519)) (by decide) hg)
 have n4_ := Aside0.mk (blk_grown (g := gb523) (o := .cells #[.int .i64 t505, .string t506, .string t507, .int .i64 t508, .int .i64 t509, .int .i64 t510, .slice Ao14 t511.length co14, .slice Ao15 t514.length co15, .slice Ao16 t517.length co16] 30 (0, 0)) (kb BK523) hg (Kd.R_ne HO519.out BK523.out (by decide)))
 have n5_ := Aside0.mk (hb)
 have n6_ := Aside0.mk (ho)
 clear BK501
 clear HI504
 clear HO513
 clear HO516
 clear BK523
 clear HB
 clear HO519
 have BK501 := n0_
 have HI504 := n1_
 have HO513 := n2_
 have HO516 := n3_
 have BK523 := n4_
 have HB := n5_
 have HO535 := n6_
 clear n0_ n1_ n2_ n3_ n4_ n5_ n6_
 clear ho hb hg hat
 obtain ⟨Ao42, co42, eo42⟩ := Kd.R_slice HO535.out
 (first | subst eo42 | (injection eo42 with f1_ f2_ f3_; have f4_ := f1_.symm; have f5_ := f3_.symm; clear f1_ f2_ f3_; subst f4_; subst f5_))
 refine hK.out _ _ (bz9 BK523) (fun hHeld => ?_)
 clear hK K
 refine nA (some 31) ?_
 refine pA 7 32 (bm 9 255) HT_ ?_
 refine last_ (i := 8) (N := none) (bm 9 511) rfl rfl (one_of HT_.out (by kernel_rfl)) (by decide) (fun K hK => ?_)
 have hs43 : w41.cell? ⟨gb523, 8, none⟩ = some (.slice Ao16 t517.length co16) := (blk_cell BK523.out 8).trans rfl
 have hfs43 := blk_frozen BK523.out 8
 have hns43_0 := NB501_523.out
 have hms43_0 := NB523_501.out
 refine skip_ (w1 := ?_) (by rfl) rfl ?_ ?_
 rotate_left
 ·go_simp
  rfl
 refine hK.out _ _ ?_
 clear hK K
 refine done_ (done_of HT_.out (by kernel_rfl)) ?_
 (first | have hz44 := bc9 (kF _ BK523 hW_.out) | have hz44 := bc9 BK523)
 have hnb45 := NB501_504.out
 have hnc45 := NB504_501.out
 (first | have hz46 := bc9 (kF _ BK501 hW_.out) | have hz46 := bc9 BK501)
 try go_wp2
 (try (clear hzq_ BQ_; obtain ⟨hW_⟩ := hW_; subst hW_))
 refine bodyPost_ret (results_cell_row rfl _ _ gb501 30 #[.int .i64 t505, .string t506, .string t507, .int .i64 t508, .int .i64 t509, .int .i64 t510, .slice Ao14 t511.length co14, .slice Ao15 t514.length co15, .slice Ao42 y533.length co42] (0, 0) _ rfl (fb BK501) Tryz.underlying30 rfl (by kernel_rfl)) rfl ?_
 exact ⟨_, _, _, xE, by (with_reducible repeat (first | apply Kd.R_alloc | apply Kd.R_drewN | apply Kd.R_drew)); exact Kd.R_mono (Kd.R_far (p := ⟨gb501, 8, none⟩) (Kd.R_far (p := ⟨gb501, 7, none⟩) (Kd.R_far (p := ⟨gb501, 6, none⟩) (Kd.R_far (p := ⟨gb501, 5, none⟩) (Kd.R_far (p := ⟨gb501, 4, none⟩) (Kd.R_far (p := ⟨gb501, 3, none⟩) (Kd.R_far (p := ⟨gb501, 2, none⟩) (Kd.R_far (p := ⟨gb501, 1, none⟩) (Kd.R_far (p := ⟨gb501, 0, none⟩) (Kd.R_far (p := ⟨gb523, 8, none⟩) (Kd.R_types (Kd.R_types HO513.out BK523.out (by decide)) BK501.out (by decide)) (fun _ hk => hk.1.2) (.slice Ao42 y533.length co42)) (fun _ hk => hk.2) (.int .i64 t505)) (fun _ hk => hk.2) (.string t506)) (fun _ hk => hk.2) (.string t507)) (fun _ hk => hk.2) (.int .i64 t508)) (fun _ hk => hk.2) (.int .i64 t509)) (fun _ hk => hk.2) (.int .i64 t510)) (fun _ hk => hk.2) (.slice Ao14 t511.length co14)) (fun _ hk => hk.2) (.slice Ao15 t514.length co15)) (fun _ hk => hk.2) (.slice Ao42 y533.length co42)) (fun _ hk => hk.1.1), by (with_reducible repeat (first | apply Kd.R_alloc | apply Kd.R_drewN | apply Kd.R_drew)); exact Kd.R_mono (Kd.R_far (p := ⟨gb501, 8, none⟩) (Kd.R_far (p := ⟨gb501, 7, none⟩) (Kd.R_far (p := ⟨gb501, 6, none⟩) (Kd.R_far (p := ⟨gb501, 5, none⟩) (Kd.R_far (p := ⟨gb501, 4, none⟩) (Kd.R_far (p := ⟨gb501, 3, none⟩) (Kd.R_far (p := ⟨gb501, 2, none⟩) (Kd.R_far (p := ⟨gb501, 1, none⟩) (Kd.R_far (p := ⟨gb501, 0, none⟩) (Kd.R_far (p := ⟨gb523, 8, none⟩) (Kd.R_types (Kd.R_types HO516.out BK523.out (by decide)) BK501.out (by decide)) (fun _ hk => hk.1.2) (.slice Ao42 y533.length co42)) (fun _ hk => hk.2) (.int .i64 t505)) (fun _ hk => hk.2) (.string t506)) (fun _ hk => hk.2) (.string t507)) (fun _ hk => hk.2) (.int .i64 t508)) (fun _ hk => hk.2) (.int .i64 t509)) (fun _ hk => hk.2) (.int .i64 t510)) (fun _ hk => hk.2) (.slice Ao14 t511.length co14)) (fun _ hk => hk.2) (.slice Ao15 t514.length co15)) (fun _ hk => hk.2) (.slice Ao42 y533.length co42)) (fun _ hk => hk.1.1), by (with_reducible repeat (first | apply Kd.R_alloc | apply Kd.R_drewN | apply Kd.R_drew)); exact Kd.R_mono (Kd.R_far (p := ⟨gb501, 8, none⟩) (Kd.R_far (p := ⟨gb501, 7, none⟩) (Kd.R_far (p := ⟨gb501, 6, none⟩) (Kd.R_far (p := ⟨gb501, 5, none⟩) (Kd.R_far (p := ⟨gb501, 4, none⟩) (Kd.R_far (p := ⟨gb501, 3, none⟩) (Kd.R_far (p := ⟨gb501, 2, none⟩) (Kd.R_far (p := ⟨gb501, 1, none⟩) (Kd.R_far (p := ⟨gb501, 0, none⟩) (Kd.R_far (p := ⟨gb523, 8, none⟩) (Kd.R_types (Kd.R_types HO535.out BK523.out (by decide)) BK501.out (by decide)) (fun _ hk => hk.1.2) (.slice Ao42 y533.length co42)) (fun _ hk => hk.2) (.int .i64 t505)) (fun _ hk => hk.2) (.string t506)) (fun _ hk => hk.2) (.string t507)) (fun _ hk => hk.2) (.int .i64 t508)) (fun _ hk => hk.2) (.int .i64 t509)) (fun _ hk => hk.2) (.int .i64 t510)) (fun _ hk => hk.2) (.slice Ao14 t511.length co14)) (fun _ hk => hk.2) (.slice Ao15 t514.length co15)) (fun _ hk => hk.2) (.slice Ao42 y533.length co42)) (fun _ hk => trivial), xBi HB⟩
def impl_in.f (a0 : Int) (a1 : Int) (a2 : Int) : Option (Bool) := if a0 ≥ a1 then (some (decide (a0 ≤ a2))) else (some false)
theorem impl_in.calls (a0 : Int) (a1 : Int) (a2 : Int) (r : Bool) (w : World) (h : impl_in.f a0 a1 a2 = some r) :
  Calls Tryz.prog 33 #[.int .i64 a0, .int .i64 a1, .int .i64 a2] w fun e w' => e = .returned (.bool r) ∧ Drawn0 w w' := by
 have H : (if a0 ≥ a1 then (some (decide (a0 ≤ a2))) else (some false)) = some r := h
 clear h
 by_cases c4 : a0 ≥ a1
 ·rw [if_pos c4] at H
  have c4b0 := decide_eq_true c4
  clear c4
  obtain rfl := Option.some.inj H
  go_enter Tryz.func33, Tryz.ntmps33
  go_wp2
  go_ret
  exact ⟨xR, xW⟩
 rw [if_neg c4] at H
 have c4b0 := decide_eq_false c4
 clear c4
 obtain rfl := Option.some.inj H
 go_enter Tryz.func33, Tryz.ntmps33
 go_wp2
 go_ret
 exact ⟨xR, xW⟩
def impl_isSum.l0 : Nat → ByteArray → Int → Option (Bool)
 | 0, _, _ => none
 | k + 1, x0, x3 => if x3 < (x0.size : Int) then (if 0 ≤ x3 then ((impl_in.f (wrap64 (bt x0 x3)) 48 57).bind fun t536 => (if t536 = true then (impl_isSum.l0 k x0 (wrap64 (x3 + 1))) else ((impl_in.f (wrap64 (bt x0 x3)) 97 102).bind fun t537 => (if t537 = true then (impl_isSum.l0 k x0 (wrap64 (x3 + 1))) else (some false))))) else (none)) else (some ((x0.size : Int) == 16))
def impl_isSum.f (k : Nat) (a0 : ByteArray) : Option (Bool) := impl_isSum.l0 k a0 0
theorem impl_isSum.mono_l : ∀ k, (∀ y0 y1, LeO (impl_isSum.l0 k y0 y1) (impl_isSum.l0 (k + 1) y0 y1))
 | 0 => fun _ _ r h => by simp [impl_isSum.l0] at h
 | k + 1 => by
  have ih0 := impl_isSum.mono_l k
  ·intro y0 y1
   unfold impl_isSum.l0
   exact mo1 ih0
theorem impl_isSum.mono : ∀ a0 k, LeO (impl_isSum.f k a0) (impl_isSum.f (k + 1) a0) := by
 intro a0 k
 have ih0 := impl_isSum.mono_l k
 unfold impl_isSum.f
 exact mo1 ih0
theorem impl_isSum.calls (k : Nat) (a0 : ByteArray) (r : Bool) (w : World) (h : impl_isSum.f k a0 = some r) :
  Calls Tryz.prog 52 #[.string a0] w fun e w' => e = .returned (.bool r) ∧ Drawn0 w w' := by
 have H : (impl_isSum.l0 k a0 0) = some r := h
 clear h
 have H' := Aside0.mk H
 clear H
 go_enter Tryz.func52, Tryz.ntmps52
 go_wp2
 go_loopg [3] k (fun kq v3 w' => ∃ (x3_1 : Int), v3 = .int .i64 x3_1 ∧ Aside0 (impl_isSum.l0 kq a0 x3_1 = some r) ∧ Aside0 (kq ≤ k) ∧ Drawn0 w w')
 case atStart => exact ⟨(0), xR, H', ⟨Nat.le_refl _⟩, xW⟩
 case round =>
  clear H'
  obtain ⟨x3_1, rfl, HA, HK1, ⟨m1, rfl⟩⟩ := hrel
  cases gk with
  | zero => exact absurd HA.out (by simp [impl_isSum.l0])
  | succ k1 =>
   have H := HA.out
   clear HA
   simp only [impl_isSum.l0] at H
   by_cases c2 : x3_1 < (a0.size : Int)
   rotate_left
   ·rw [if_neg c2] at H
    have c2b0 := decide_eq_false c2
    clear c2
    obtain rfl := Option.some.inj H
    go_wp2
    go_ret
    exact ⟨xR, xW⟩
   rw [if_pos c2] at H
   have c2b0 := decide_eq_true c2
   clear c2
   replace H := ipd H
   obtain ⟨c3b0, H⟩ := H
   replace H := oa H
   obtain ⟨t536, A5, H⟩ := H
   by_cases c6 : t536 = true
   ·subst c6
    rw [if_pos rfl] at H
    have H' := Aside0.mk H
    clear H
    have p4 : 0 ≤ (x3_1 : Int) := of_decide_eq_true xA
    have q4 : x3_1 < (a0.size : Int) := of_decide_eq_true xA
    have hx4 := bt_at a0 x3_1
    replace p4 := eq_true p4
    replace q4 := eq_true q4
    go_wp2_with ((with_reducible refine gg ?_); refine gL 14 Tryz.func33 #[.int .i64 (wrap64 (bt a0 x3_1)), .int .i64 48, .int .i64 57] ?_; (with_reducible refine (impl_in.calls (wrap64 (bt a0 x3_1)) 48 57 true _ A5.out).mono ?_); rintro e w' ⟨rfl, ⟨nd, rfl⟩⟩; refine ⟨_, rfl, ?_⟩)
    go_roundg k1
    case measure => have := HK1.out; omega
    case rel => exact ⟨(wrap64 (x3_1 + 1)), xR, H', ⟨xL HK1⟩, xW⟩
   replace c6 := Bool.eq_false_iff.mpr c6
   subst c6
   rw [if_neg (show ¬ (false = true) by decide)] at H
   replace H := oa H
   obtain ⟨t537, A8, H⟩ := H
   have p4 : 0 ≤ (x3_1 : Int) := of_decide_eq_true xA
   have q4 : x3_1 < (a0.size : Int) := of_decide_eq_true xA
   have hx4 := bt_at a0 x3_1
   replace p4 := eq_true p4
   replace q4 := eq_true q4
   go_upto_if 23 with (first | ((with_reducible refine gg ?_); refine gL 14 Tryz.func33 #[.int .i64 (wrap64 (bt a0 x3_1)), .int .i64 48, .int .i64 57] ?_; (with_reducible refine (impl_in.calls (wrap64 (bt a0 x3_1)) 48 57 false _ A5.out).mono ?_); rintro e w' ⟨rfl, ⟨nd, rfl⟩⟩; refine ⟨_, rfl, ?_⟩; have p7 : 0 ≤ (x3_1 : Int) := of_decide_eq_true xA; have q7 : x3_1 < (a0.size : Int) := of_decide_eq_true xA; have hx7 := bt_at a0 x3_1; replace p7 := eq_true p7; replace q7 := eq_true q7) | (go_at_call 33; (with_reducible refine (impl_in.calls (wrap64 (bt a0 x3_1)) 97 102 t537 _ A8.out).mono ?_); rintro e w' ⟨rfl, ⟨nd, rfl⟩⟩))
   by_cases c9 : t537 = true
   rotate_left
   ·replace c9 := Bool.eq_false_iff.mpr c9
    subst c9
    try simp only [Bool.not_true, Bool.not_false]
    rw [if_neg (show ¬ (false = true) by decide)] at H
    obtain rfl := Option.some.inj H
    go_wp2
    go_ret
    exact ⟨xR, xW⟩
   subst c9
   try simp only [Bool.not_true, Bool.not_false]
   rw [if_pos rfl] at H
   have H' := Aside0.mk H
   clear H
   go_wp2
   go_roundg k1
   case measure => have := HK1.out; omega
   case rel => exact ⟨(wrap64 (x3_1 + 1)), xR, H', ⟨xL HK1⟩, xW⟩
def impl_headOk.f (k : Nat) (a0_0 : ByteArray) (a0_1 : ByteArray) (a0_2 : Int) (a0_3 : Int) (a0_4 : Int) : Option (Bool) := (impl_isSum.f k a0_0).bind fun t539 => (if t539 = true then ((impl_isSum.f k a0_1).bind fun t540 => (if t540 = true then ((impl_in.f a0_2 0 99999).bind fun t541 => (if t541 = true then ((impl_in.f a0_3 1 8).bind fun t542 => (if t542 = true then ((impl_in.f a0_4 0 400).bind fun t543 => (some t543)) else (some false))) else (some false))) else (some false))) else (some false))
theorem impl_headOk.mono : ∀ a0 a1 a2 a3 a4 k, LeO (impl_headOk.f k a0 a1 a2 a3 a4) (impl_headOk.f (k + 1) a0 a1 a2 a3 a4) := by
 intro a0 a1 a2 a3 a4 k
 unfold impl_headOk.f
 exact mo1 impl_isSum.mono
theorem impl_headOk.calls (k : Nat) (a0_0 : ByteArray) (a0_1 : ByteArray) (a0_2 : Int) (a0_3 : Int) (a0_4 : Int) (r : Bool) (w : World) (h : impl_headOk.f k a0_0 a0_1 a0_2 a0_3 a0_4 = some r) :
  Calls Tryz.prog 49 #[.agg #[.string a0_0, .string a0_1, .int .i64 a0_2, .int .i64 a0_3, .int .i64 a0_4]] w fun e w' => e = .returned (.bool r) ∧ Below w.heap.size w w' := by
 have hu24 := Tryz.underlying24
 have HB := Aside0.mk (Below.refl w.heap.size w)
 have H : ((impl_isSum.f k a0_0).bind fun t539 => (if t539 = true then ((impl_isSum.f k a0_1).bind fun t540 => (if t540 = true then ((impl_in.f a0_2 0 99999).bind fun t541 => (if t541 = true then ((impl_in.f a0_3 1 8).bind fun t542 => (if t542 = true then ((impl_in.f a0_4 0 400).bind fun t543 => (some t543)) else (some false))) else (some false))) else (some false))) else (some false))) = some r := h
 clear h
 replace H := oa H
 obtain ⟨t539, A2, H⟩ := H
 go_enter Tryz.func49, Tryz.ntmps49
 go_upto_region 1 with ((with_reducible refine gg ?_); refine bE 1 #[.string a0_0, .string a0_1, .int .i64 a0_2, .int .i64 a0_3, .int .i64 a0_4] 24 ?_; intro gb538 hg w11 hbox hb; have BK538 := am (hbox); have GW538 := zB hg HB; have GE538 := zB hg HB; replace HB := kH HB hb; clear hb hbox hg; have hz12 := bc5 BK538)
 by_cases c3 : t539 = true
 rotate_left
 ·replace c3 := Bool.eq_false_iff.mpr c3
  subst c3
  try simp only [Bool.not_true, Bool.not_false]
  rw [if_neg (show ¬ (false = true) by decide)] at H
  obtain rfl := Option.some.inj H
  go_wp2_with ((with_reducible refine gg ?_); refine gL 5 Tryz.func52 #[.string a0_0] ?_; (with_reducible refine (impl_isSum.calls k a0_0 false _ A2.out).mono ?_); rintro e w' ⟨rfl, ⟨nd, rfl⟩⟩; refine ⟨_, rfl, ?_⟩)
  go_ret
  exact ⟨xE, xB HB⟩
 subst c3
 try simp only [Bool.not_true, Bool.not_false]
 rw [if_pos rfl] at H
 replace H := oa H
 obtain ⟨t540, A4, H⟩ := H
 by_cases c5 : t540 = true
 rotate_left
 ·replace c5 := Bool.eq_false_iff.mpr c5
  subst c5
  rw [if_neg (show ¬ (false = true) by decide)] at H
  obtain rfl := Option.some.inj H
  go_wp2_with (first | ((with_reducible refine gg ?_); refine gL 5 Tryz.func52 #[.string a0_0] ?_; (with_reducible refine (impl_isSum.calls k a0_0 true _ A2.out).mono ?_); rintro e w' ⟨rfl, ⟨nd, rfl⟩⟩; refine ⟨_, rfl, ?_⟩) | (go_at_call 52; (with_reducible refine (impl_isSum.calls k a0_1 false _ A4.out).mono ?_); rintro e w' ⟨rfl, ⟨nd, rfl⟩⟩))
  go_ret
  exact ⟨xE, xB HB⟩
 subst c5
 rw [if_pos rfl] at H
 replace H := oa H
 obtain ⟨t541, A6, H⟩ := H
 by_cases c7 : t541 = true
 rotate_left
 ·replace c7 := Bool.eq_false_iff.mpr c7
  subst c7
  rw [if_neg (show ¬ (false = true) by decide)] at H
  obtain rfl := Option.some.inj H
  go_wp2_with (first | ((with_reducible refine gg ?_); refine gL 5 Tryz.func52 #[.string a0_0] ?_; (with_reducible refine (impl_isSum.calls k a0_0 true _ A2.out).mono ?_); rintro e w' ⟨rfl, ⟨nd, rfl⟩⟩; refine ⟨_, rfl, ?_⟩) | (go_at_call 52; (with_reducible refine (impl_isSum.calls k a0_1 true _ A4.out).mono ?_); rintro e w' ⟨rfl, ⟨nd, rfl⟩⟩) | (go_at_call 33; (with_reducible refine (impl_in.calls a0_2 0 99999 false _ A6.out).mono ?_); rintro e w' ⟨rfl, ⟨nd, rfl⟩⟩))
  go_ret
  exact ⟨xE, xB HB⟩
 subst c7
 rw [if_pos rfl] at H
 replace H := oa H
 obtain ⟨t542, A8, H⟩ := H
 by_cases c9 : t542 = true
 rotate_left
 ·replace c9 := Bool.eq_false_iff.mpr c9
  subst c9
  rw [if_neg (show ¬ (false = true) by decide)] at H
  obtain rfl := Option.some.inj H
  go_wp2_with (first | ((with_reducible refine gg ?_); refine gL 5 Tryz.func52 #[.string a0_0] ?_; (with_reducible refine (impl_isSum.calls k a0_0 true _ A2.out).mono ?_); rintro e w' ⟨rfl, ⟨nd, rfl⟩⟩; refine ⟨_, rfl, ?_⟩) | (go_at_call 52; (with_reducible refine (impl_isSum.calls k a0_1 true _ A4.out).mono ?_); rintro e w' ⟨rfl, ⟨nd, rfl⟩⟩) | (go_at_call 33; (with_reducible refine (impl_in.calls a0_2 0 99999 true _ A6.out).mono ?_); rintro e w' ⟨rfl, ⟨nd, rfl⟩⟩) | (go_at_call 33; (with_reducible refine (impl_in.calls a0_3 1 8 false _ A8.out).mono ?_); rintro e w' ⟨rfl, ⟨nd, rfl⟩⟩))
  go_ret
  exact ⟨xE, xB HB⟩
 subst c9
 rw [if_pos rfl] at H
 replace H := oa H
 obtain ⟨t543, A10, H⟩ := H
 obtain rfl := Option.some.inj H
 go_wp2_with (first | ((with_reducible refine gg ?_); refine gL 5 Tryz.func52 #[.string a0_0] ?_; (with_reducible refine (impl_isSum.calls k a0_0 true _ A2.out).mono ?_); rintro e w' ⟨rfl, ⟨nd, rfl⟩⟩; refine ⟨_, rfl, ?_⟩) | (go_at_call 52; (with_reducible refine (impl_isSum.calls k a0_1 true _ A4.out).mono ?_); rintro e w' ⟨rfl, ⟨nd, rfl⟩⟩) | (go_at_call 33; (with_reducible refine (impl_in.calls a0_2 0 99999 true _ A6.out).mono ?_); rintro e w' ⟨rfl, ⟨nd, rfl⟩⟩) | (go_at_call 33; (with_reducible refine (impl_in.calls a0_3 1 8 true _ A8.out).mono ?_); rintro e w' ⟨rfl, ⟨nd, rfl⟩⟩) | (go_at_call 33; (with_reducible refine (impl_in.calls a0_4 0 400 t543 _ A10.out).mono ?_); rintro e w' ⟨rfl, ⟨nd, rfl⟩⟩))
 go_ret
 exact ⟨xE, xB HB⟩
def impl_peakOk.f (k : Nat) (a0_0 : ByteArray) (a0_1 : Int) (a0_2 : Int) : Option (Bool) := (impl_isSum.f k a0_0).bind fun t545 => (if t545 = true then ((impl_in.f a0_2 1 20).bind fun t546 => (if t546 = true then ((impl_in.f a0_1 a0_2 (wrap64 (a0_2 * 8))).bind fun t547 => (some t547)) else (some false))) else (some false))
theorem impl_peakOk.mono : ∀ a0 a1 a2 k, LeO (impl_peakOk.f k a0 a1 a2) (impl_peakOk.f (k + 1) a0 a1 a2) := by
 intro a0 a1 a2 k
 unfold impl_peakOk.f
 exact mo1 impl_isSum.mono
theorem impl_peakOk.calls (k : Nat) (a0_0 : ByteArray) (a0_1 : Int) (a0_2 : Int) (r : Bool) (w : World) (h : impl_peakOk.f k a0_0 a0_1 a0_2 = some r) :
  Calls Tryz.prog 51 #[.agg #[.string a0_0, .int .i64 a0_1, .int .i64 a0_2]] w fun e w' => e = .returned (.bool r) ∧ Below w.heap.size w w' := by
 have hu93 := Tryz.underlying93
 have HB := Aside0.mk (Below.refl w.heap.size w)
 have H : ((impl_isSum.f k a0_0).bind fun t545 => (if t545 = true then ((impl_in.f a0_2 1 20).bind fun t546 => (if t546 = true then ((impl_in.f a0_1 a0_2 (wrap64 (a0_2 * 8))).bind fun t547 => (some t547)) else (some false))) else (some false))) = some r := h
 clear h
 replace H := oa H
 obtain ⟨t545, A2, H⟩ := H
 go_enter Tryz.func51, Tryz.ntmps51
 go_upto_region 1 with ((with_reducible refine gg ?_); refine bE 1 #[.string a0_0, .int .i64 a0_1, .int .i64 a0_2] 93 ?_; intro gb544 hg w7 hbox hb; have BK544 := am (hbox); have GW544 := zB hg HB; have GE544 := zB hg HB; replace HB := kH HB hb; clear hb hbox hg; have hz8 := bc3 BK544)
 by_cases c3 : t545 = true
 rotate_left
 ·replace c3 := Bool.eq_false_iff.mpr c3
  subst c3
  try simp only [Bool.not_true, Bool.not_false]
  rw [if_neg (show ¬ (false = true) by decide)] at H
  obtain rfl := Option.some.inj H
  go_wp2_with ((with_reducible refine gg ?_); refine gL 5 Tryz.func52 #[.string a0_0] ?_; (with_reducible refine (impl_isSum.calls k a0_0 false _ A2.out).mono ?_); rintro e w' ⟨rfl, ⟨nd, rfl⟩⟩; refine ⟨_, rfl, ?_⟩)
  go_ret
  exact ⟨xE, xB HB⟩
 subst c3
 try simp only [Bool.not_true, Bool.not_false]
 rw [if_pos rfl] at H
 replace H := oa H
 obtain ⟨t546, A4, H⟩ := H
 by_cases c5 : t546 = true
 rotate_left
 ·replace c5 := Bool.eq_false_iff.mpr c5
  subst c5
  rw [if_neg (show ¬ (false = true) by decide)] at H
  obtain rfl := Option.some.inj H
  go_wp2_with (first | ((with_reducible refine gg ?_); refine gL 5 Tryz.func52 #[.string a0_0] ?_; (with_reducible refine (impl_isSum.calls k a0_0 true _ A2.out).mono ?_); rintro e w' ⟨rfl, ⟨nd, rfl⟩⟩; refine ⟨_, rfl, ?_⟩) | (go_at_call 33; (with_reducible refine (impl_in.calls a0_2 1 20 false _ A4.out).mono ?_); rintro e w' ⟨rfl, ⟨nd, rfl⟩⟩))
  go_ret
  exact ⟨xE, xB HB⟩
 subst c5
 rw [if_pos rfl] at H
 replace H := oa H
 obtain ⟨t547, A6, H⟩ := H
 obtain rfl := Option.some.inj H
 go_wp2_with (first | ((with_reducible refine gg ?_); refine gL 5 Tryz.func52 #[.string a0_0] ?_; (with_reducible refine (impl_isSum.calls k a0_0 true _ A2.out).mono ?_); rintro e w' ⟨rfl, ⟨nd, rfl⟩⟩; refine ⟨_, rfl, ?_⟩) | (go_at_call 33; (with_reducible refine (impl_in.calls a0_2 1 20 true _ A4.out).mono ?_); rintro e w' ⟨rfl, ⟨nd, rfl⟩⟩) | (go_at_call 33; (with_reducible refine (impl_in.calls a0_1 a0_2 (wrap64 (a0_2 * 8)) t547 _ A6.out).mono ?_); rintro e w' ⟨rfl, ⟨nd, rfl⟩⟩))
 go_ret
 exact ⟨xE, xB HB⟩

end Go.Proofs.YtgjljbaadglpnaaGreatDoor.PFnPaidPut
