/- Functions of the program and what each answers: the kit's print, shortened (wip/press2.py). -/
import Derived.Test.YtgjljbaadglpnaaDoorPFnHeadGetx0
import Derived.Test.YtgjljbaadglpnaaDoorPFnHeadGetx1
import Derived.Test.YtgjljbaadglpnaaDoorPFnHeadGetx2
import Derived.Test.YtgjljbaadglpnaaDoorPFnHeadGetx5
import Derived.Test.YtgjljbaadglpnaaDoorPFnHeadGetx7
import Derived.Test.YtgjljbaadglpnaaDoorPFnHeadGetx8
import Derived.Test.YtgjljbaadglpnaaDoorPFnHeadGetx11
import Derived.Test.YtgjljbaadglpnaaDoorPFnHeadGetx17
namespace Go.Proofs.YtgjljbaadglpnaaDoor.PFnHeadGet
open Go.Proofs.YtgjljbaadglpnaaDoor.Sq Go.RowKit Go.Proofs.YtgjljbaadglpnaaDoorW.PrintWords Go.Proofs.YtgjljbaadglpnaaDoorW.PrintLast Go.Proofs.YtgjljbaadglpnaaDoorW.PrintMore
attribute [local go_sem] max2_int min2_int max_two min_two max_three min_three max_four min_four   -- for this text's walks alone
set_option linter.unusedVariables false
set_option linter.unusedSimpArgs false
set_option maxHeartbeats 64000000
set_option maxRecDepth 100000
attribute [local go_sem high] eqA23
def spec_l20Head.f (k : Nat) (s0_0 : List Int) (s0_1 : Int) : Option (ByteArray × ByteArray × Int × Int × Int × Int) := (spec_l20Sum.f k s0_0 s0_1).bind fun bt473 => ((spec_l20Sum.f k s0_0 bt473.2).bind fun bt475 => ((spec_l20Rd_one.f k s0_0 bt475.2 (([0, 7, 99999, 100000] : List Int))).bind fun bt480 => ((spec_l20Rd_one.f k s0_0 bt480.2 (([1, 2, 8, 9, 1] : List Int))).bind fun bt485 => ((spec_l20Rd_one.f k s0_0 bt485.2 (([0, 5, 400, 401] : List Int))).bind fun bt490 => ((spec_l20Heads.f k s0_0 bt490.2).bind fun bt493 => (if (bt493.1.length : Int) > 0 then ((spec_l20Rd_pick.f k s0_0 bt493.2 3).bind fun bt497 => (if bt497.1 > 0 then ((spec_l20Rd_pick.f k s0_0 bt497.2 (bt493.1.length : Int)).bind fun bt499 => (if 0 ≤ bt499.1 then (if bt499.1 < (bt493.1.length : Int) then (some ((rd_T23 bt493.1 bt499.1).f0, (rd_T23 bt493.1 bt499.1).f1, (rd_T23 bt493.1 bt499.1).f2, (rd_T23 bt493.1 bt499.1).f3, (rd_T23 bt493.1 bt499.1).f4, bt499.2)) else (none)) else (none))) else (some (bt473.1, bt475.1, bt480.1, bt485.1, bt490.1, bt497.2)))) else (some (bt473.1, bt475.1, bt480.1, bt485.1, bt490.1, bt493.2))))))))
theorem spec_l20Head.mono : ∀ a0 a1 k, LeO (spec_l20Head.f k a0 a1) (spec_l20Head.f (k + 1) a0 a1) := by
 intro a0 a1 k
 unfold spec_l20Head.f
 exact mo4 spec_l20Heads.mono spec_l20Rd_one.mono spec_l20Rd_pick.mono spec_l20Sum.mono
theorem spec_l20Head.calls (k : Nat) (g : Nat) (s0_0 : List Int) (s0_1 : Int) (r1 : ByteArray) (r2 : ByteArray) (r3 : Int) (r4 : Int) (r5 : Int) (r6 : Int) (w0 w : World) (hI : IsS111 w0 w g s0_0 s0_1) (hB : Below w0.heap.size w0 w) (h : spec_l20Head.f k s0_0 s0_1 = some (r1, r2, r3, r4, r5, r6)) :
  Calls Tryd.prog 54 #[.pointer (some ⟨g, 0, none⟩)] w fun e w' => e = .returned (.agg #[.string r1, .string r2, .int .i64 r3, .int .i64 r4, .int .i64 r5]) ∧ IsS111 w0 w' g s0_0 r6 ∧ Below w0.heap.size w0 w' ∧ KeepBut w w' g none := by
 have hu23 := Tryd.underlying23
 have HI0 := Aside0.mk hI
 have HK := Aside0.mk (KeepBut.refl w g none)
 have HL := Aside0.mk hB.size
 clear hI
 have HW0 := Aside0.mk hB.size
 have HB := Aside0.mk hB
 clear hB
 have H : ((spec_l20Sum.f k s0_0 s0_1).bind fun bt473 => ((spec_l20Sum.f k s0_0 bt473.2).bind fun bt475 => ((spec_l20Rd_one.f k s0_0 bt475.2 (([0, 7, 99999, 100000] : List Int))).bind fun bt480 => ((spec_l20Rd_one.f k s0_0 bt480.2 (([1, 2, 8, 9, 1] : List Int))).bind fun bt485 => ((spec_l20Rd_one.f k s0_0 bt485.2 (([0, 5, 400, 401] : List Int))).bind fun bt490 => ((spec_l20Heads.f k s0_0 bt490.2).bind fun bt493 => (if (bt493.1.length : Int) > 0 then ((spec_l20Rd_pick.f k s0_0 bt493.2 3).bind fun bt497 => (if bt497.1 > 0 then ((spec_l20Rd_pick.f k s0_0 bt497.2 (bt493.1.length : Int)).bind fun bt499 => (if 0 ≤ bt499.1 then (if bt499.1 < (bt493.1.length : Int) then (some ((rd_T23 bt493.1 bt499.1).f0, (rd_T23 bt493.1 bt499.1).f1, (rd_T23 bt493.1 bt499.1).f2, (rd_T23 bt493.1 bt499.1).f3, (rd_T23 bt493.1 bt499.1).f4, bt499.2)) else (none)) else (none))) else (some (bt473.1, bt475.1, bt480.1, bt485.1, bt490.1, bt497.2)))) else (some (bt473.1, bt475.1, bt480.1, bt485.1, bt490.1, bt493.2))))))))) = some (r1, r2, r3, r4, r5, r6) := h
 clear h
 replace H := Option.bind_eq_some_iff.mp H
 obtain ⟨⟨t473, t474⟩, A20, H⟩ := H
 have A2 := Aside0.mk A20
 clear A20
 replace H := Option.bind_eq_some_iff.mp H
 obtain ⟨⟨t475, t476⟩, A30, H⟩ := H
 have A3 := Aside0.mk A30
 clear A30
 obtain ⟨y477, Ny477⟩ := yA (([0, 7, 99999, 100000] : List Int) : List Int)
 rw [← Ny477.out] at H
 replace H := Option.bind_eq_some_iff.mp H
 obtain ⟨⟨t480, t481⟩, A40, H⟩ := H
 have A4 := Aside0.mk A40
 clear A40
 obtain ⟨y482, Ny482⟩ := yA (([1, 2, 8, 9, 1] : List Int) : List Int)
 rw [← Ny482.out] at H
 replace H := Option.bind_eq_some_iff.mp H
 obtain ⟨⟨t485, t486⟩, A50, H⟩ := H
 have A5 := Aside0.mk A50
 clear A50
 obtain ⟨y487, Ny487⟩ := yA (([0, 5, 400, 401] : List Int) : List Int)
 rw [← Ny487.out] at H
 replace H := Option.bind_eq_some_iff.mp H
 obtain ⟨⟨t490, t491⟩, A60, H⟩ := H
 have A6 := Aside0.mk A60
 clear A60
 replace H := Option.bind_eq_some_iff.mp H
 obtain ⟨⟨t493, t496⟩, A70, H⟩ := H
 have A7 := Aside0.mk A70
 clear A70
 go_enter Tryd.func54, Tryd.ntmps54
 go_upto_region 3 with (first | ((with_reducible refine gg ?_); first | (refine bE 2 #[.string (⟨#[]⟩ : ByteArray), .string (⟨#[]⟩ : ByteArray), .int .i64 0, .int .i64 0, .int .i64 0] 23 ?_; intro gb472 hg w14 hbox hb; replace HB := kHi HB hb; have BK472 := am (hbox); have GW472 := gW hg HK; have GE472 := gE HW0 hg HK; replace HK := kK HK hb; have NB0_472 := iN hg HI0; have NB472_0 := iM hg HI0; replace HI0 := iK HI0 hb; clear hb hbox hg) | (refine gL 6 Tryd.func83 #[.pointer (some ⟨g, 0, none⟩)] ?_; (with_reducible refine (spec_l20Sum.calls k g s0_0 s0_1 t473 t474 w0 _ ?side1 ?side2 A2.out).mono ?_); (case side1 => exact iX HI0); (case side2 => exact xBi HB); rintro e w15 ⟨rfl, hi, hb, hk⟩; refine ⟨_, rfl, ?_⟩; replace BK472 := am (KeepBut.blk hk (g' := gb472) (o := .cells #[.string (⟨#[]⟩ : ByteArray), .string (⟨#[]⟩ : ByteArray), .int .i64 0, .int .i64 0, .int .i64 0] 23 (0, 0)) (kb BK472) NB472_0.out (by simp)); replace HK := kT HK hk; replace HB := am (hb); replace HI0 := am (hi); (try clear hb)) | (refine gL 8 Tryd.func83 #[.pointer (some ⟨g, 0, none⟩)] ?_; (with_reducible refine (spec_l20Sum.calls k g s0_0 t474 t475 t476 w0 _ ?side1 ?side2 A3.out).mono ?_); (case side1 => exact iX HI0); (case side2 => exact xBi HB); rintro e w16 ⟨rfl, hi, hb, hk⟩; refine ⟨_, rfl, ?_⟩; replace BK472 := am (KeepBut.blk hk (g' := gb472) (o := .cells #[.string (⟨#[]⟩ : ByteArray), .string (⟨#[]⟩ : ByteArray), .int .i64 0, .int .i64 0, .int .i64 0] 23 (0, 0)) (kb BK472) NB472_0.out (by simp)); replace HK := kT HK hk; replace HB := am (hb); replace HI0 := am (hi); (try clear hb))) | ((with_reducible refine gate_dst (N := 10) rfl ?_); refine Kd.R_lit (Kd.int .i64) _ 3 ?hg (N := 10) ?hd (xs := ([0, 7, 99999, 100000] : List Int)) (inner := [.int .i64 0, .int .i64 7, .int .i64 99999, .int .i64 100000]) (ok := fun _ => True) (okp := fun _ => True) ?hr ?hp (fun _ hk => hk) trivial (Below.refl _ _) (Nat.le_refl _) (by simp) ?_; (case hd => rfl); (case hg => rfl); (case hr => first | (go_simp; done) | (go_simp; rfl)); (case hp => exact xP); intro v478 w17 ho18 hb hg_ hnew_; clear hg_ hnew_; (first | rw [← Ny477.out] at ho18 | (simp only [Int.reduceToNat] at ho18; rw [← Ny477.out] at ho18)); have HO479 := am (Kd.R_lower ho18 (xZ HK)); replace BK472 := kP _ BK472 hb; replace HK := kK HK hb; replace HB := kHi HB hb; replace HI0 := iK HI0 hb; clear hb ho18; obtain ⟨Ao19, co19, eo19⟩ := Kd.R_slice HO479.out; subst eo19) | ((with_reducible refine gg ?_); refine gL 11 Tryd.func84 #[.pointer (some ⟨g, 0, none⟩), .slice Ao19 y477.length co19] ?_; (with_reducible refine (spec_l20Rd_one.calls k g s0_0 t476 _ _ y477 t480 t481 w0 _ ?side1 ?side2 ?side3 ?side4 ?side5 A4.out).mono ?_); (case side1 => exact iX HI0); (case side2 => exact xBi HB); (case side3 => exact cr (Kd.R_reads' HO479.out).2.2); (case side4 => exact sl HO479); (case side5 => exact far_slice (IsS111.own_ne HI0.out HO479.out (by decide))); rintro e w20 ⟨rfl, hi, hb, hk⟩; refine ⟨_, rfl, ?_⟩; replace BK472 := am (KeepBut.blk hk (g' := gb472) (o := .cells #[.string (⟨#[]⟩ : ByteArray), .string (⟨#[]⟩ : ByteArray), .int .i64 0, .int .i64 0, .int .i64 0] 23 (0, 0)) (kb BK472) NB472_0.out (by simp)); replace HO479 := iR HI0 HO479 hk; replace HK := kT HK hk; replace HB := am (hb); replace HI0 := am (hi); (try clear hb)) | ((with_reducible refine gate_dst (N := 13) rfl ?_); refine Kd.R_lit (Kd.int .i64) _ 3 ?hg (N := 13) ?hd (xs := ([1, 2, 8, 9, 1] : List Int)) (inner := [.int .i64 1, .int .i64 2, .int .i64 8, .int .i64 9, .int .i64 1]) (ok := fun _ => True) (okp := fun _ => True) ?hr ?hp (fun _ hk => hk) trivial (Below.refl _ _) (Nat.le_refl _) (by simp) ?_; (case hd => rfl); (case hg => rfl); (case hr => first | (go_simp; done) | (go_simp; rfl)); (case hp => exact xP); intro v483 w21 ho22 hb hg_ hnew_; clear hg_ hnew_; (first | rw [← Ny482.out] at ho22 | (simp only [Int.reduceToNat] at ho22; rw [← Ny482.out] at ho22)); have HO484 := am (Kd.R_lower (Kd.R_new' ho22 (Kd.R_lt (ra HO479))) (xZ HK)); replace HO479 := am (Kd.R_elder' (ra HO479) (Kd.R_base ho22) hb); replace BK472 := kP _ BK472 hb; replace HK := kK HK hb; replace HB := kHi HB hb; replace HI0 := iK HI0 hb; clear hb ho22; obtain ⟨Ao23, co23, eo23⟩ := Kd.R_slice HO484.out; subst eo23) | ((with_reducible refine gg ?_); refine gL 14 Tryd.func84 #[.pointer (some ⟨g, 0, none⟩), .slice Ao23 y482.length co23] ?_; (with_reducible refine (spec_l20Rd_one.calls k g s0_0 t481 _ _ y482 t485 t486 w0 _ ?side1 ?side2 ?side3 ?side4 ?side5 A5.out).mono ?_); (case side1 => exact iX HI0); (case side2 => exact xBi HB); (case side3 => exact cr (Kd.R_reads' HO484.out).2.2); (case side4 => exact sl HO484); (case side5 => exact far_slice (IsS111.own_ne HI0.out HO484.out (by decide))); rintro e w24 ⟨rfl, hi, hb, hk⟩; refine ⟨_, rfl, ?_⟩; replace BK472 := am (KeepBut.blk hk (g' := gb472) (o := .cells #[.string (⟨#[]⟩ : ByteArray), .string (⟨#[]⟩ : ByteArray), .int .i64 0, .int .i64 0, .int .i64 0] 23 (0, 0)) (kb BK472) NB472_0.out (by simp)); replace HO479 := iR HI0 HO479 hk; replace HO484 := iR HI0 HO484 hk; replace HK := kT HK hk; replace HB := am (hb); replace HI0 := am (hi); (try clear hb)) | ((with_reducible refine gate_dst (N := 16) rfl ?_); refine Kd.R_lit (Kd.int .i64) _ 3 ?hg (N := 16) ?hd (xs := ([0, 5, 400, 401] : List Int)) (inner := [.int .i64 0, .int .i64 5, .int .i64 400, .int .i64 401]) (ok := fun _ => True) (okp := fun _ => True) ?hr ?hp (fun _ hk => hk) trivial (Below.refl _ _) (Nat.le_refl _) (by simp) ?_; (case hd => rfl); (case hg => rfl); (case hr => first | (go_simp; done) | (go_simp; rfl)); (case hp => exact xP); intro v488 w25 ho26 hb hg_ hnew_; clear hg_ hnew_; (first | rw [← Ny487.out] at ho26 | (simp only [Int.reduceToNat] at ho26; rw [← Ny487.out] at ho26)); have HO489 := am (Kd.R_lower (Kd.R_new' (Kd.R_new' ho26 (Kd.R_lt (ra HO479))) (Kd.R_lt (ra HO484))) (xZ HK)); replace HO479 := am (Kd.R_elder' (ra HO479) (Kd.R_base ho26) hb); replace HO484 := am (Kd.R_elder' (ra HO484) (Kd.R_base ho26) hb); replace BK472 := kP _ BK472 hb; replace HK := kK HK hb; replace HB := kHi HB hb; replace HI0 := iK HI0 hb; clear hb ho26; obtain ⟨Ao27, co27, eo27⟩ := Kd.R_slice HO489.out; subst eo27) | ((with_reducible refine gg ?_); first | (refine gL 17 Tryd.func84 #[.pointer (some ⟨g, 0, none⟩), .slice Ao27 y487.length co27] ?_; (with_reducible refine (spec_l20Rd_one.calls k g s0_0 t486 _ _ y487 t490 t491 w0 _ ?side1 ?side2 ?side3 ?side4 ?side5 A6.out).mono ?_); (case side1 => exact iX HI0); (case side2 => exact xBi HB); (case side3 => exact cr (Kd.R_reads' HO489.out).2.2); (case side4 => exact sl HO489); (case side5 => exact far_slice (IsS111.own_ne HI0.out HO489.out (by decide))); rintro e w28 ⟨rfl, hi, hb, hk⟩; refine ⟨_, rfl, ?_⟩; replace BK472 := am (KeepBut.blk hk (g' := gb472) (o := .cells #[.string (⟨#[]⟩ : ByteArray), .string (⟨#[]⟩ : ByteArray), .int .i64 0, .int .i64 0, .int .i64 0] 23 (0, 0)) (kb BK472) NB472_0.out (by simp)); replace HO479 := iR HI0 HO479 hk; replace HO484 := iR HI0 HO484 hk; replace HO489 := iR HI0 HO489 hk; replace HK := kT HK hk; replace HB := am (hb); replace HI0 := am (hi); (try clear hb)) | (refine bE 3 #[.string (⟨#[]⟩ : ByteArray), .string (⟨#[]⟩ : ByteArray), .int .i64 0, .int .i64 0, .int .i64 0] 23 ?_; intro gb492 hg w29 hbox hb; replace HO479 := rk HO479 hb; replace HO484 := rk HO484 hb; replace HO489 := rk HO489 hb; replace HB := kHi HB hb; have BK492 := am (hbox); have GW492 := gW hg HK; have GE492 := gE HW0 hg HK; replace HK := kK HK hb; have NB472_492 := nl hg (kb BK472); have NB492_472 := ng hg (kb BK472); replace BK472 := kP _ BK472 hb; have NB0_492 := iN hg HI0; have NB492_0 := iM hg HI0; replace HI0 := iK HI0 hb; clear hb hbox hg; have hnb30 := NB492_472.out; have hnc30 := NB472_492.out; have hnb31 := NB492_0.out; have hnc31 := NB0_492.out; have hz32 := bc5 BK492) | (refine gL 20 Tryd.func85 #[.pointer (some ⟨g, 0, none⟩)] ?_; (with_reducible refine (spec_l20Heads.calls k g s0_0 t491 t493 t496 w0 _ ?side1 ?side2 A7.out).mono ?_); (case side1 => exact iX HI0); (case side2 => exact xBi HB); rintro e w33 ⟨v494, rfl, ho0, hi, hb, hk⟩; refine ⟨_, rfl, ?_⟩; replace HO479 := am (Kd.R_mono (Kd.R_keep (IsS111.apart (show IsS111 w0 _ g s0_0 t491 from iX HI0) (rf HO479 BK492) (by decide)) hk (fun _ h => h.2)) (fun _ h => h.1)); replace HO484 := am (Kd.R_mono (Kd.R_keep (IsS111.apart (show IsS111 w0 _ g s0_0 t491 from iX HI0) (rf HO484 BK492) (by decide)) hk (fun _ h => h.2)) (fun _ h => h.1)); replace HO489 := am (Kd.R_mono (Kd.R_keep (IsS111.apart (show IsS111 w0 _ g s0_0 t491 from iX HI0) (rf HO489 BK492) (by decide)) hk (fun _ h => h.2)) (fun _ h => h.1)); have HO495 := am (Kd.R_lower (Kd.R_newB (Kd.R_newB ho0 (g := gb472) (o := .cells #[.string (⟨#[]⟩ : ByteArray), .string (⟨#[]⟩ : ByteArray), .int .i64 0, .int .i64 0, .int .i64 0] 23 (0, 0)) (fb BK472)) (g := gb492) (o := .cells #[.string t473, .string t475, .int .i64 t480, .int .i64 t485, .int .i64 t490] 23 (0, 0)) (fb BK492)) (xZ HK)); replace BK472 := am (KeepBut.blk hk (g' := gb472) (o := .cells #[.string (⟨#[]⟩ : ByteArray), .string (⟨#[]⟩ : ByteArray), .int .i64 0, .int .i64 0, .int .i64 0] 23 (0, 0)) (fb BK472) NB472_0.out (by simp)); replace BK492 := am (KeepBut.blk hk (g' := gb492) (o := .cells #[.string t473, .string t475, .int .i64 t480, .int .i64 t485, .int .i64 t490] 23 (0, 0)) (fb BK492) NB492_0.out (by simp)); replace HK := kT HK hk; replace HB := am (hb); replace HI0 := am (hi); (try clear hb); (try clear ho0); obtain ⟨Ao34, co34, eo34⟩ := Kd.R_slice HO495.out; subst eo34)))
 by_cases c8 : (t493.length : Int) > 0
 rotate_left
 ·rw [if_neg c8] at H
  have c8b0 := decide_eq_false c8
  have c8b1 : decide (0 < t493.length) = false := decide_eq_false (by omega)
  try simp only [c8b0, c8b1, Bool.not_true, Bool.not_false]
  clear c8
  simp only [Option.some.injEq, Prod.mk.injEq] at H
  obtain ⟨rfl, rfl, rfl, rfl, rfl, rfl⟩ := H
  have hz85 := bc5 BK492
  have hnb86 := NB472_0.out
  have hnc86 := NB0_472.out
  have hz87 := bc5 BK472
  go_wp2
  refine bodyPost_ret (results_cell_row rfl _ _ gb472 23 #[.string t473, .string t475, .int .i64 t480, .int .i64 t485, .int .i64 t490] (0, 0) _ rfl (fb BK472) Tryd.underlying23 rfl (by kernel_rfl)) rfl ?_
  exact ⟨xE, iX HI0, xBi HB, xK HK⟩
 rw [if_pos c8] at H
 have c8b0 := decide_eq_true c8
 have c8b1 : decide (0 < t493.length) = true := decide_eq_true (by omega)
 try simp only [c8b0, c8b1, Bool.not_true, Bool.not_false]
 clear c8
 replace H := Option.bind_eq_some_iff.mp H
 obtain ⟨⟨t497, t498⟩, A90, H⟩ := H
 have A9 := Aside0.mk A90
 clear A90
 go_upto_if 28 with (go_at_call 55; (with_reducible refine (spec_l20Rd_pick.calls k g s0_0 t496 3 t497 t498 w0 _ ?side1 ?side2 A9.out).mono ?_); (case side1 => exact iX HI0); (case side2 => exact xBi HB); rintro e w35 ⟨rfl, hi, hb, hk⟩; replace BK472 := am (KeepBut.blk hk (g' := gb472) (o := .cells #[.string (⟨#[]⟩ : ByteArray), .string (⟨#[]⟩ : ByteArray), .int .i64 0, .int .i64 0, .int .i64 0] 23 (0, 0)) (kb BK472) NB472_0.out (by simp)); replace HO479 := iR HI0 HO479 hk; replace HO484 := iR HI0 HO484 hk; replace HO489 := iR HI0 HO489 hk; replace BK492 := am (KeepBut.blk hk (g' := gb492) (o := .cells #[.string t473, .string t475, .int .i64 t480, .int .i64 t485, .int .i64 t490] 23 (0, 0)) (kb BK492) NB492_0.out (by simp)); replace HO495 := iR HI0 HO495 hk; replace HK := kT HK hk; replace HB := am (hb); replace HI0 := am (hi); (try clear hb))
 by_cases c10 : t497 > 0
 rotate_left
 ·rw [if_neg c10] at H
  have c10b0 := decide_eq_false c10
  try simp only [c10b0, Bool.not_true, Bool.not_false]
  clear c10
  simp only [Option.some.injEq, Prod.mk.injEq] at H
  obtain ⟨rfl, rfl, rfl, rfl, rfl, rfl⟩ := H
  have hz61 := bc5 BK492
  have hnb62 := NB472_0.out
  have hnc62 := NB0_472.out
  have hz63 := bc5 BK472
  go_wp2
  refine bodyPost_ret (results_cell_row rfl _ _ gb472 23 #[.string t473, .string t475, .int .i64 t480, .int .i64 t485, .int .i64 t490] (0, 0) _ rfl (fb BK472) Tryd.underlying23 rfl (by kernel_rfl)) rfl ?_
  exact ⟨xE, iX HI0, xBi HB, xK HK⟩
 rw [if_pos c10] at H
 have c10b0 := decide_eq_true c10
 try simp only [c10b0, Bool.not_true, Bool.not_false]
 clear c10
 replace H := Option.bind_eq_some_iff.mp H
 obtain ⟨⟨t499, t500⟩, A110, H⟩ := H
 have A11 := Aside0.mk A110
 clear A110
 replace H := ipd H
 obtain ⟨c12b0, H⟩ := H
 replace H := ipd H
 obtain ⟨c13b0, H⟩ := H
 simp only [Option.some.injEq, Prod.mk.injEq] at H
 obtain ⟨rfl, rfl, rfl, rfl, rfl, rfl⟩ := H
 go_wp2_with ((with_reducible refine gg ?_); refine gL 33 Tryd.func55 #[.pointer (some ⟨g, 0, none⟩), .int .i64 (t493.length : Int)] ?_; (with_reducible refine (spec_l20Rd_pick.calls k g s0_0 t498 (t493.length : Int) t499 t500 w0 _ ?side1 ?side2 A11.out).mono ?_); (case side1 => exact iX HI0); (case side2 => exact xBi HB); rintro e w36 ⟨rfl, hi, hb, hk⟩; refine ⟨_, rfl, ?_⟩; replace BK472 := am (KeepBut.blk hk (g' := gb472) (o := .cells #[.string (⟨#[]⟩ : ByteArray), .string (⟨#[]⟩ : ByteArray), .int .i64 0, .int .i64 0, .int .i64 0] 23 (0, 0)) (kb BK472) NB472_0.out (by simp)); replace HO479 := iR HI0 HO479 hk; replace HO484 := iR HI0 HO484 hk; replace HO489 := iR HI0 HO489 hk; replace BK492 := am (KeepBut.blk hk (g' := gb492) (o := .cells #[.string t473, .string t475, .int .i64 t480, .int .i64 t485, .int .i64 t490] 23 (0, 0)) (kb BK492) NB492_0.out (by simp)); replace HO495 := iR HI0 HO495 hk; replace HK := kT HK hk; replace HB := am (hb); replace HI0 := am (hi); (try clear hb); have p501 : 0 ≤ (t499 : Int) := of_decide_eq_true xA; have q501 : t499 < (t493.length : Int) := of_decide_eq_true xA; obtain ⟨ad501, e501, hx501_0, hx501_1, hx501_2, hx501_3, hx501_4⟩ := at_T23 (Kd.R_reads' HO495.out).2.2 t499 p501 q501; cases e501; replace p501 := eq_true p501; replace q501 := eq_true q501; have hnb37 := NB472_0.out; have hnc37 := NB0_472.out; have hz38 := bc5 BK472)
 refine bodyPost_ret (results_cell_row rfl _ _ gb472 23 #[.string ((rd_T23 t493 t499).f0), .string ((rd_T23 t493 t499).f1), .int .i64 ((rd_T23 t493 t499).f2), .int .i64 ((rd_T23 t493 t499).f3), .int .i64 ((rd_T23 t493 t499).f4)] (0, 0) _ rfl (fb BK472) Tryd.underlying23 rfl (by kernel_rfl)) rfl ?_
 exact ⟨xE, iX HI0, xBi HB, xK HK⟩
def spec_l20Bent.f (k : Nat) (s0_0 : List Int) (s0_1 : Int) (a1 : ByteArray) : Option (ByteArray × Int) := (spec_l20Rd_pick.f k s0_0 s0_1 (wrap64 ((a1.size : Int) + 1))).bind fun bt502 => ((spec_l20Rd_pick.f k s0_0 bt502.2 5).bind fun bt504 => (if bt504.1 = 0 then (if bt502.1 < (a1.size : Int) then (if 0 ≤ bt502.1 then (if bt502.1 ≤ (a1.size : Int) then ((spec_l20Rd_of.f k s0_0 bt504.2 (([(⟨#[48]⟩ : ByteArray), (⟨#[97]⟩ : ByteArray), (⟨#[32]⟩ : ByteArray), (⟨#[0]⟩ : ByteArray), (⟨#[255]⟩ : ByteArray), (⟨#[128]⟩ : ByteArray), (⟨#[102]⟩ : ByteArray), (⟨#[10]⟩ : ByteArray)] : List ByteArray))).bind fun bt509 => (if (a1.extract 0 (bt502.1 : Int).toNat).size + bt509.1.size ≤ 9223372036854775807 then (if 0 ≤ (wrap64 (bt502.1 + 1)) then (if (wrap64 (bt502.1 + 1)) ≤ (a1.size : Int) then (if ((a1.extract 0 (bt502.1 : Int).toNat) ++ bt509.1).size + (a1.extract ((wrap64 (bt502.1 + 1)) : Int).toNat a1.size).size ≤ 9223372036854775807 then (some (((a1.extract 0 (bt502.1 : Int).toNat) ++ bt509.1) ++ (a1.extract ((wrap64 (bt502.1 + 1)) : Int).toNat a1.size), bt509.2)) else (none)) else (none)) else (none)) else (none))) else (none)) else (none)) else (some (a1, bt504.2))) else (if bt504.1 = 1 then (if 0 ≤ bt502.1 then (if bt502.1 ≤ (a1.size : Int) then (some (a1.extract 0 (bt502.1 : Int).toNat, bt504.2)) else (none)) else (none)) else (if bt504.1 = 2 then ((spec_l20Rd_of.f k s0_0 bt504.2 (([(⟨#[48]⟩ : ByteArray), (⟨#[32]⟩ : ByteArray), (⟨#[0]⟩ : ByteArray), (⟨#[255]⟩ : ByteArray)] : List ByteArray))).bind fun bt514 => (if a1.size + bt514.1.size ≤ 9223372036854775807 then (some (a1 ++ bt514.1, bt514.2)) else (none))) else (some (a1, bt504.2))))))
theorem spec_l20Bent.mono : ∀ a0 a1 a2 k, LeO (spec_l20Bent.f k a0 a1 a2) (spec_l20Bent.f (k + 1) a0 a1 a2) := by
 intro a0 a1 a2 k
 unfold spec_l20Bent.f
 exact mo2 spec_l20Rd_of.mono spec_l20Rd_pick.mono
def spec_l20Bent.T5 : Bool × List (List Nat × List Nat) := (true, [([], []), ([], []), ([0, 1], [0, 1]), ([], []), ([], []), ([3, 4], [3, 4]), ([2, 5], [2, 5]), ([], []), ([], []), ([8], [8]), ([7, 9], [7, 9]), ([6, 10], [6, 10]), ([11, 5, 0, 1, 2, 3, 4, 5, 6, 7, 8, 9, 10, 11], [11])])
def spec_l20Bent.B5 : List Nat := [0, 0, 3, 0, 0, 24, 63, 0, 0, 256, 896, 2047, 4095]
theorem spec_l20Bent.tab5 : rtab .any (opsOf Tryd.f56 5) = spec_l20Bent.T5 := by kernel_rfl
theorem spec_l20Bent.bits5 : waitsOk spec_l20Bent.T5.2 spec_l20Bent.B5 = true := by kernel_rfl
theorem spec_l20Bent.calls (k : Nat) (g : Nat) (s0_0 : List Int) (s0_1 : Int) (a1 : ByteArray) (r1 : ByteArray) (r2 : Int) (w0 w : World) (hI : IsS111 w0 w g s0_0 s0_1) (hB : Below w0.heap.size w0 w) (h : spec_l20Bent.f k s0_0 s0_1 a1 = some (r1, r2)) :
  Calls Tryd.prog 56 #[.pointer (some ⟨g, 0, none⟩), .string a1] w fun e w' => e = .returned (.string r1) ∧ IsS111 w0 w' g s0_0 r2 ∧ Below w0.heap.size w0 w' ∧ KeepBut w w' g none := by
 have HI0 := Aside0.mk hI
 have HK := Aside0.mk (KeepBut.refl w g none)
 have HL := Aside0.mk hB.size
 clear hI
 have HW0 := Aside0.mk hB.size
 have HB := Aside0.mk hB
 clear hB
 have H : ((spec_l20Rd_pick.f k s0_0 s0_1 (wrap64 ((a1.size : Int) + 1))).bind fun bt502 => ((spec_l20Rd_pick.f k s0_0 bt502.2 5).bind fun bt504 => (if bt504.1 = 0 then (if bt502.1 < (a1.size : Int) then (if 0 ≤ bt502.1 then (if bt502.1 ≤ (a1.size : Int) then ((spec_l20Rd_of.f k s0_0 bt504.2 (([(⟨#[48]⟩ : ByteArray), (⟨#[97]⟩ : ByteArray), (⟨#[32]⟩ : ByteArray), (⟨#[0]⟩ : ByteArray), (⟨#[255]⟩ : ByteArray), (⟨#[128]⟩ : ByteArray), (⟨#[102]⟩ : ByteArray), (⟨#[10]⟩ : ByteArray)] : List ByteArray))).bind fun bt509 => (if (a1.extract 0 (bt502.1 : Int).toNat).size + bt509.1.size ≤ 9223372036854775807 then (if 0 ≤ (wrap64 (bt502.1 + 1)) then (if (wrap64 (bt502.1 + 1)) ≤ (a1.size : Int) then (if ((a1.extract 0 (bt502.1 : Int).toNat) ++ bt509.1).size + (a1.extract ((wrap64 (bt502.1 + 1)) : Int).toNat a1.size).size ≤ 9223372036854775807 then (some (((a1.extract 0 (bt502.1 : Int).toNat) ++ bt509.1) ++ (a1.extract ((wrap64 (bt502.1 + 1)) : Int).toNat a1.size), bt509.2)) else (none)) else (none)) else (none)) else (none))) else (none)) else (none)) else (some (a1, bt504.2))) else (if bt504.1 = 1 then (if 0 ≤ bt502.1 then (if bt502.1 ≤ (a1.size : Int) then (some (a1.extract 0 (bt502.1 : Int).toNat, bt504.2)) else (none)) else (none)) else (if bt504.1 = 2 then ((spec_l20Rd_of.f k s0_0 bt504.2 (([(⟨#[48]⟩ : ByteArray), (⟨#[32]⟩ : ByteArray), (⟨#[0]⟩ : ByteArray), (⟨#[255]⟩ : ByteArray)] : List ByteArray))).bind fun bt514 => (if a1.size + bt514.1.size ≤ 9223372036854775807 then (some (a1 ++ bt514.1, bt514.2)) else (none))) else (some (a1, bt504.2))))))) = some (r1, r2) := h
 clear h
 replace H := Option.bind_eq_some_iff.mp H
 obtain ⟨⟨t502, t503⟩, A30, H⟩ := H
 have A3 := Aside0.mk A30
 clear A30
 replace H := Option.bind_eq_some_iff.mp H
 obtain ⟨⟨t504, t505⟩, A40, H⟩ := H
 have A4 := Aside0.mk A40
 clear A40
 by_cases c5 : t504 = 0
 rotate_left
 ·rw [if_neg c5] at H
  have c5b0 := beq_eq_false_iff_ne.mpr c5
  have c5b1 := bne_iff_ne.mpr c5
  go_enter Tryd.func56, Tryd.ntmps56
  go_upto_if 31 with ((with_reducible refine gg ?_); first | (refine gL 10 Tryd.func55 #[.pointer (some ⟨g, 0, none⟩), .int .i64 (wrap64 ((a1.size : Int) + 1))] ?_; (with_reducible refine (spec_l20Rd_pick.calls k g s0_0 s0_1 (wrap64 ((a1.size : Int) + 1)) t502 t503 w0 _ ?side1 ?side2 A3.out).mono ?_); (case side1 => exact iX HI0); (case side2 => exact xBi HB); rintro e w27 ⟨rfl, hi, hb, hk⟩; refine ⟨_, rfl, ?_⟩; replace HK := kT HK hk; replace HB := am (hb); replace HI0 := am (hi); (try clear hb)) | (refine gL 12 Tryd.func55 #[.pointer (some ⟨g, 0, none⟩), .int .i64 5] ?_; (with_reducible refine (spec_l20Rd_pick.calls k g s0_0 t503 5 t504 t505 w0 _ ?side1 ?side2 A4.out).mono ?_); (case side1 => exact iX HI0); (case side2 => exact xBi HB); rintro e w28 ⟨rfl, hi, hb, hk⟩; refine ⟨_, rfl, ?_⟩; replace HK := kT HK hk; replace HB := am (hb); replace HI0 := am (hi); (try clear hb)))
  by_cases c24 : t504 = 1
  ·rw [if_pos c24] at H
   have c24b0 := beq_iff_eq.mpr c24
   have c24b1 := bne_eq_false_iff_eq.mpr c24
   try simp only [c24b0, c24b1, Bool.not_true, Bool.not_false]
   clear c24
   replace H := ip H
   obtain ⟨c25, H⟩ := H
   have c25b0 := eq_true c25
   have c25b1 := decide_eq_true c25
   clear c25
   replace H := ip H
   obtain ⟨c26, H⟩ := H
   have c26b0 := eq_true c26
   have c26b1 := decide_eq_true c26
   clear c26
   simp only [Option.some.injEq, Prod.mk.injEq] at H
   obtain ⟨rfl, rfl⟩ := H
   go_wp2
   go_ret
   exact ⟨xE, iX HI0, xBi HB, xK HK⟩
  rw [if_neg c24] at H
  have c24b0 := beq_eq_false_iff_ne.mpr c24
  have c24b1 := bne_iff_ne.mpr c24
  try simp only [c24b0, c24b1, Bool.not_true, Bool.not_false]
  by_cases c29 : t504 = 2
  rotate_left
  ·rw [if_neg c29] at H
   have c29b0 := beq_eq_false_iff_ne.mpr c29
   have c29b1 := bne_iff_ne.mpr c29
   simp only [Option.some.injEq, Prod.mk.injEq] at H
   obtain ⟨rfl, rfl⟩ := H
   go_wp2
   go_ret
   exact ⟨xE, iX HI0, xBi HB, xK HK⟩
  rw [if_pos c29] at H
  have c29b0 := beq_iff_eq.mpr c29
  have c29b1 := bne_eq_false_iff_eq.mpr c29
  clear c29
  obtain ⟨y511, Ny511⟩ := yA (([(⟨#[48]⟩ : ByteArray), (⟨#[32]⟩ : ByteArray), (⟨#[0]⟩ : ByteArray), (⟨#[255]⟩ : ByteArray)] : List ByteArray) : List ByteArray)
  rw [← Ny511.out] at H
  replace H := Option.bind_eq_some_iff.mp H
  obtain ⟨⟨t514, t515⟩, A300, H⟩ := H
  have A30 := Aside0.mk A300
  clear A300
  replace H := ip H
  obtain ⟨c31, H⟩ := H
  have c31b0 := eq_true c31
  have c31b1 := decide_eq_true c31
  have c31b2 := nf c31
  simp only [Option.some.injEq, Prod.mk.injEq] at H
  obtain ⟨rfl, rfl⟩ := H
  go_wp2_with (first | ((with_reducible refine gate_dst (N := 40) rfl ?_); refine Kd.R_lit Kd.string _ 9 ?hg (N := 40) ?hd (xs := ([(⟨#[48]⟩ : ByteArray), (⟨#[32]⟩ : ByteArray), (⟨#[0]⟩ : ByteArray), (⟨#[255]⟩ : ByteArray)] : List ByteArray)) (inner := [.string (⟨#[48]⟩ : ByteArray), .string (⟨#[32]⟩ : ByteArray), .string (⟨#[0]⟩ : ByteArray), .string (⟨#[255]⟩ : ByteArray)]) (ok := fun _ => True) (okp := fun _ => True) ?hr ?hp (fun _ hk => hk) trivial (Below.refl _ _) (Nat.le_refl _) (by simp) ?_; (case hd => rfl); (case hg => rfl); (case hr => first | (go_simp; done) | (go_simp; rfl)); (case hp => exact xP); intro v512 w34 ho35 hb hg_ hnew_; clear hg_ hnew_; (first | rw [← Ny511.out] at ho35 | (simp only [Int.reduceToNat] at ho35; rw [← Ny511.out] at ho35)); have HO513 := am (Kd.R_lower ho35 (xZ HK)); replace HK := kK HK hb; replace HB := kHi HB hb; replace HI0 := iK HI0 hb; clear hb ho35; obtain ⟨Ao36, co36, eo36⟩ := Kd.R_slice HO513.out; subst eo36) | ((with_reducible refine gg ?_); refine gL 41 Tryd.func86 #[.pointer (some ⟨g, 0, none⟩), .slice Ao36 y511.length co36] ?_; (with_reducible refine (spec_l20Rd_of.calls k g s0_0 t505 _ _ y511 t514 t515 w0 _ ?side1 ?side2 ?side3 ?side4 ?side5 A30.out).mono ?_); (case side1 => exact iX HI0); (case side2 => exact xBi HB); (case side3 => exact cr (Kd.R_reads' HO513.out).2.2); (case side4 => exact sl HO513); (case side5 => exact far_slice (IsS111.own_ne HI0.out HO513.out (by decide))); rintro e w37 ⟨rfl, hi, hb, hk⟩; refine ⟨_, rfl, ?_⟩; replace HO513 := iR HI0 HO513 hk; replace HK := kT HK hk; replace HB := am (hb); replace HI0 := am (hi); (try clear hb)))
  go_ret
  exact ⟨xE, iX HI0, xBi HB, xK HK⟩
 rw [if_pos c5] at H
 have c5b0 := beq_iff_eq.mpr c5
 have c5b1 := bne_eq_false_iff_eq.mpr c5
 clear c5
 by_cases c6 : t502 < (a1.size : Int)
 rotate_left
 ·rw [if_neg c6] at H
  have c6b0 := decide_eq_false c6
  clear c6
  simp only [Option.some.injEq, Prod.mk.injEq] at H
  obtain ⟨rfl, rfl⟩ := H
  go_enter Tryd.func56, Tryd.ntmps56
  go_wp2_with ((with_reducible refine gg ?_); first | (refine gL 10 Tryd.func55 #[.pointer (some ⟨g, 0, none⟩), .int .i64 (wrap64 ((a1.size : Int) + 1))] ?_; (with_reducible refine (spec_l20Rd_pick.calls k g s0_0 s0_1 (wrap64 ((a1.size : Int) + 1)) t502 t503 w0 _ ?side1 ?side2 A3.out).mono ?_); (case side1 => exact iX HI0); (case side2 => exact xBi HB); rintro e w22 ⟨rfl, hi, hb, hk⟩; refine ⟨_, rfl, ?_⟩; replace HK := kT HK hk; replace HB := am (hb); replace HI0 := am (hi); (try clear hb)) | (refine gL 12 Tryd.func55 #[.pointer (some ⟨g, 0, none⟩), .int .i64 5] ?_; (with_reducible refine (spec_l20Rd_pick.calls k g s0_0 t503 5 t504 t505 w0 _ ?side1 ?side2 A4.out).mono ?_); (case side1 => exact iX HI0); (case side2 => exact xBi HB); rintro e w23 ⟨rfl, hi, hb, hk⟩; refine ⟨_, rfl, ?_⟩; replace HK := kT HK hk; replace HB := am (hb); replace HI0 := am (hi); (try clear hb)))
  go_ret
  exact ⟨xE, iX HI0, xBi HB, xK HK⟩
 rw [if_pos c6] at H
 have c6b0 := decide_eq_true c6
 clear c6
 replace H := ip H
 obtain ⟨c7, H⟩ := H
 have c7b0 := eq_true c7
 have c7b1 := decide_eq_true c7
 clear c7
 replace H := ip H
 obtain ⟨c8, H⟩ := H
 have c8b0 := eq_true c8
 have c8b1 := decide_eq_true c8
 clear c8
 obtain ⟨y506, Ny506⟩ := yA (([(⟨#[48]⟩ : ByteArray), (⟨#[97]⟩ : ByteArray), (⟨#[32]⟩ : ByteArray), (⟨#[0]⟩ : ByteArray), (⟨#[255]⟩ : ByteArray), (⟨#[128]⟩ : ByteArray), (⟨#[102]⟩ : ByteArray), (⟨#[10]⟩ : ByteArray)] : List ByteArray) : List ByteArray)
 rw [← Ny506.out] at H
 replace H := Option.bind_eq_some_iff.mp H
 obtain ⟨⟨t509, t510⟩, A90, H⟩ := H
 have A9 := Aside0.mk A90
 clear A90
 replace H := ip H
 obtain ⟨c10, H⟩ := H
 have c10b0 := eq_true c10
 have c10b1 := decide_eq_true c10
 have c10b2 := nf c10
 have c10b3 : (9223372036854775807 < t502.toNat + t509.size) = False := eq_false (by have h_ := c10; try dsimp only at h_; have h2_ : t502 ≤ (a1.size : Int) := of_eq_true (by assumption); rw [ByteArray.size_extract] at h_; omega)
 obtain ⟨ji11, hji11⟩ := je (wrap64 (t502 + 1))
 first | rw [hji11] at H | simp only [hji11] at H
 (try rw [hji11] at A3)
 (try rw [hji11] at A4)
 (try rw [hji11] at A9)
 have hji11w : (IntKind.i64.wrap (t502 + 1)) = ji11 := (i64_w _).trans hji11
 replace H := ip H
 obtain ⟨c12, H⟩ := H
 have c12b0 := eq_true c12
 have c12b1 := decide_eq_true c12
 clear c12
 replace H := ip H
 obtain ⟨c13, H⟩ := H
 have c13b0 := eq_true c13
 have c13b1 := decide_eq_true c13
 clear c13
 replace H := ip H
 obtain ⟨c14, H⟩ := H
 have c14b0 := eq_true c14
 have c14b1 := decide_eq_true c14
 have c14b2 := nf c14
 try (have c14b3 := c14b2; simp only [ByteArray.size_append] at c14b3)
 have c14b3 : (9223372036854775807 < t502.toNat + t509.size + (a1.size - ji11.toNat)) = False := eq_false (by have h_ := c14; try dsimp only at h_; have h2_ : t502 ≤ (a1.size : Int) := of_eq_true (by assumption); rw [ByteArray.size_append, ByteArray.size_extract, ByteArray.size_extract] at h_; omega)
 simp only [Option.some.injEq, Prod.mk.injEq] at H
 obtain ⟨rfl, rfl⟩ := H
 go_enter Tryd.func56, Tryd.ntmps56
 try go_wp2_with ((with_reducible refine gg ?_); first | (refine gL 10 Tryd.func55 #[.pointer (some ⟨g, 0, none⟩), .int .i64 (wrap64 ((a1.size : Int) + 1))] ?_; (with_reducible refine (spec_l20Rd_pick.calls k g s0_0 s0_1 (wrap64 ((a1.size : Int) + 1)) t502 t503 w0 _ ?side1 ?side2 A3.out).mono ?_); (case side1 => exact iX HI0); (case side2 => exact xBi HB); rintro e w15 ⟨rfl, hi, hb, hk⟩; refine ⟨_, rfl, ?_⟩; replace HK := kT HK hk; replace HB := am (hb); replace HI0 := am (hi); (try clear hb)) | (refine gL 12 Tryd.func55 #[.pointer (some ⟨g, 0, none⟩), .int .i64 5] ?_; (with_reducible refine (spec_l20Rd_pick.calls k g s0_0 t503 5 t504 t505 w0 _ ?side1 ?side2 A4.out).mono ?_); (case side1 => exact iX HI0); (case side2 => exact xBi HB); rintro e w16 ⟨rfl, hi, hb, hk⟩; refine ⟨_, rfl, ?_⟩; replace HK := kT HK hk; replace HB := am (hb); replace HI0 := am (hi); (try clear hb)))
 replace HI0 := am (IsS111.drew HI0.out)
 replace HK := am (keep_drew HK.out)
 replace HB := am (below_drew1 HB.out)
 refine start_ (n := 13) (S := fun w' => True) (ds := []) (bm 13 0) (by kernel_rfl) rfl rfl trivial (fun hHeld => ?_); refine with_tabW spec_l20Bent.tab5 spec_l20Bent.bits5 (fun HT_ HW_ => ?_)
 generalize w16.drew = w17 at HI0 HK HB hHeld ⊢
 refine pA 0 19 (bm 13 1) HT_ ?_
 refine pA 1 20 (bm 13 3) HT_ ?_
 refine pA 2 21 (bm 13 7) HT_ ?_
 refine pA 3 22 (bm 13 15) HT_ ?_
 refine pA 7 26 (bm 13 143) HT_ ?_
 refine pA 8 27 (bm 13 399) HT_ ?_
 refine pA 9 28 (bm 13 911) HT_ ?_
 refine pA 10 29 (bm 13 1935) HT_ ?_
 refine oA 4 (some 23) (bm 13 1951) HT_ fun K hK => ?_
 refine Kd.R_lit_step Kd.string _ 9 ?hg (N := 23) ?hd (xs := ([(⟨#[48]⟩ : ByteArray), (⟨#[97]⟩ : ByteArray), (⟨#[32]⟩ : ByteArray), (⟨#[0]⟩ : ByteArray), (⟨#[255]⟩ : ByteArray), (⟨#[128]⟩ : ByteArray), (⟨#[102]⟩ : ByteArray), (⟨#[10]⟩ : ByteArray)] : List ByteArray)) (inner := [.string (⟨#[48]⟩ : ByteArray), .string (⟨#[97]⟩ : ByteArray), .string (⟨#[32]⟩ : ByteArray), .string (⟨#[0]⟩ : ByteArray), .string (⟨#[255]⟩ : ByteArray), .string (⟨#[128]⟩ : ByteArray), .string (⟨#[102]⟩ : ByteArray), .string (⟨#[10]⟩ : ByteArray)]) (ok := fun _ => True) (okp := fun _ => True) ?hr ?hp (fun _ hk => hk) trivial (Below.refl _ _) (Nat.le_refl _) (by simp) ?_; (case hd => rfl); (case hg => rfl); (case hr => first | (go_simp; done) | (go_simp; rfl)); (case hp => exact (Reps.one (show Kd.M Kd.string _ _ _ (⟨#[48]⟩ : ByteArray) [.string (⟨#[48]⟩ : ByteArray)] from rfl) (Reps.one (show Kd.M Kd.string _ _ _ (⟨#[97]⟩ : ByteArray) [.string (⟨#[97]⟩ : ByteArray)] from rfl) (Reps.one (show Kd.M Kd.string _ _ _ (⟨#[32]⟩ : ByteArray) [.string (⟨#[32]⟩ : ByteArray)] from rfl) (Reps.one (show Kd.M Kd.string _ _ _ (⟨#[0]⟩ : ByteArray) [.string (⟨#[0]⟩ : ByteArray)] from rfl) (Reps.one (show Kd.M Kd.string _ _ _ (⟨#[255]⟩ : ByteArray) [.string (⟨#[255]⟩ : ByteArray)] from rfl) (Reps.one (show Kd.M Kd.string _ _ _ (⟨#[128]⟩ : ByteArray) [.string (⟨#[128]⟩ : ByteArray)] from rfl) (Reps.one (show Kd.M Kd.string _ _ _ (⟨#[102]⟩ : ByteArray) [.string (⟨#[102]⟩ : ByteArray)] from rfl) (Reps.one (show Kd.M Kd.string _ _ _ (⟨#[10]⟩ : ByteArray) [.string (⟨#[10]⟩ : ByteArray)] from rfl) (Reps.none _ _))))))))))
 intro v507 w18 ho19 hb hg_ hnew_
 clear hg_ hnew_
 (first | rw [← Ny506.out] at ho19 | (simp only [Int.reduceToNat] at ho19; rw [← Ny506.out] at ho19))
 have HO508 := am (Kd.R_lower ho19 (xZ HK))
 replace HK := kK HK hb
 replace HB := kHi HB hb
 replace HI0 := iK HI0 hb
 clear hb ho19
 obtain ⟨Ao20, co20, eo20⟩ := Kd.R_slice HO508.out
 (first | subst eo20 | (injection eo20 with f1_ f2_ f3_; have f4_ := f1_.symm; have f5_ := f3_.symm; clear f1_ f2_ f3_; subst f4_; subst f5_))
 refine hK.out _ _ trivial (fun hHeld => ?_)
 clear hK K
 refine nA (some 23) ?_
 refine oA 5 (some 24) (bm 13 1983) HT_ fun K hK => ?_
 refine gA Tryd.func86 #[.pointer (some ⟨g, 0, none⟩), .slice Ao20 y506.length co20] ?_
 with_reducible refine (spec_l20Rd_of.calls k g s0_0 t505 _ _ y506 t509 t510 w0 _ ?side1 ?side2 ?side3 ?side4 ?side5 A9.out).mono ?_
 (case side1 => exact iX HI0)
 (case side2 => exact xBi HB)
 (case side3 => exact cr (Kd.R_reads' HO508.out).2.2)
 (case side4 => exact sl HO508)
 (case side5 => exact far_slice (IsS111.own_ne HI0.out HO508.out (by decide)))
 rintro e w21 ⟨rfl, hi, hb, hk⟩
 refine ⟨_, rfl, ?_⟩
 replace HO508 := iR HI0 HO508 hk
 replace HK := kT HK hk
 replace HB := am (hb)
 replace HI0 := am (hi)
 (try clear hb)
 (try clear hb2)
 (try clear hk)
 (try clear hi)
 refine hK.out _ _ trivial (fun hHeld => ?_)
 clear hK K
 refine nA (some 24) ?_
 refine pA 6 25 (bm 13 2047) HT_ ?_
 refine pA 11 30 (bm 13 4095) HT_ ?_
 refine pA 12 4 (bm 13 8191) HT_ ?_
 refine done_ (done_of HT_.out (by kernel_rfl)) ?_
 try go_wp2
 go_ret
 exact ⟨by first | rfl | (simp [errW_none, errW_some] <;> rfl) | (simp only [← hji11]; first | rfl | (simp [errW_none, errW_some] <;> rfl)) | (simp [*, errW_none, errW_some] <;> rfl), iX HI0, xBi HB, xK HK⟩
def spec_DrawHeadGet.f (k : Nat) (l0 : List Int) : Option (ByteArray) := (spec_l20Open.f l0).bind fun bt516 => ((spec_l20Head.f k bt516.1 bt516.2).bind fun bt519 => ((spec_HeadPut.f k bt519.1 bt519.2.1 bt519.2.2.1 bt519.2.2.2.1 bt519.2.2.2.2.1).bind fun t525 => ((spec_l20Rd_pick.f k bt516.1 bt519.2.2.2.2.2 2).bind fun bt526 => (if bt526.1 = 0 then (some t525) else ((spec_l20Bent.f k bt516.1 bt526.2 t525).bind fun bt528 => (some bt528.1))))))
theorem spec_DrawHeadGet.mono : ∀ a0 k, LeO (spec_DrawHeadGet.f k a0) (spec_DrawHeadGet.f (k + 1) a0) := by
 intro a0 k
 unfold spec_DrawHeadGet.f
 exact mo4 spec_HeadPut.mono spec_l20Bent.mono spec_l20Head.mono spec_l20Rd_pick.mono
theorem spec_DrawHeadGet.calls (k : Nat) (A0 : Option Addr) (c0 : Nat) (l0 : List Int) (r : ByteArray) (w : World) (hr0 : Kd.C (Kd.int .u8) w A0 l0.length l0) (hc0 : l0.length ≤ c0) (h : spec_DrawHeadGet.f k l0 = some r) :
  Calls Tryd.prog 24 #[.slice A0 l0.length c0] w fun e w' => e = .returned (.string r) ∧ Below w.heap.size w w' := by
 have HR0 := Aside0.mk hr0
 have HC0 := Aside0.mk hc0
 clear hr0 hc0
 have HB := Aside0.mk (Below.refl w.heap.size w)
 have H : ((spec_l20Open.f l0).bind fun bt516 => ((spec_l20Head.f k bt516.1 bt516.2).bind fun bt519 => ((spec_HeadPut.f k bt519.1 bt519.2.1 bt519.2.2.1 bt519.2.2.2.1 bt519.2.2.2.2.1).bind fun t525 => ((spec_l20Rd_pick.f k bt516.1 bt519.2.2.2.2.2 2).bind fun bt526 => (if bt526.1 = 0 then (some t525) else ((spec_l20Bent.f k bt516.1 bt526.2 t525).bind fun bt528 => (some bt528.1))))))) = some r := h
 clear h
 replace H := Option.bind_eq_some_iff.mp H
 obtain ⟨⟨t516, t517⟩, A20, H⟩ := H
 have A2 := Aside0.mk A20
 clear A20
 replace H := Option.bind_eq_some_iff.mp H
 obtain ⟨⟨t519, t520, t521, t522, t523, t524⟩, A30, H⟩ := H
 have A3 := Aside0.mk A30
 clear A30
 replace H := oa H
 obtain ⟨t525, A4, H⟩ := H
 replace H := Option.bind_eq_some_iff.mp H
 obtain ⟨⟨t526, t527⟩, A50, H⟩ := H
 have A5 := Aside0.mk A50
 clear A50
 go_enter Tryd.func24, Tryd.ntmps24
 go_upto_if 12 with ((with_reducible refine gg ?_); first | (refine gL 6 Tryd.func53 #[.slice A0 l0.length c0] ?_; (with_reducible refine (spec_l20Open.calls _ _ l0 t516 t517 w _ ?side1 ?side2 ?side3 A2.out).mono ?_); (case side1 => exact xB HB); (case side2 => exact HR0.out); (case side3 => exact HC0.out); rintro e w7 ⟨g518, rfl, hi, hb, hb2⟩; refine ⟨_, rfl, ?_⟩; replace HB := am (hb); have HI518 := am (hi); (try clear hb)) | (refine gL 8 Tryd.func54 #[.pointer (some ⟨g518, 0, none⟩)] ?_; (with_reducible refine (spec_l20Head.calls k g518 t516 t517 t519 t520 t521 t522 t523 t524 w _ ?side1 ?side2 A3.out).mono ?_); (case side1 => exact iX HI518); (case side2 => exact xBi HB); rintro e w8 ⟨rfl, hi, hb, hk⟩; refine ⟨_, rfl, ?_⟩; replace HB := am (hb); replace HI518 := am (hi); (try clear hb)) | (refine gL 9 Tryd.func14 #[.agg #[.string t519, .string t520, .int .i64 t521, .int .i64 t522, .int .i64 t523]] ?_; (with_reducible refine (spec_HeadPut.calls k t519 t520 t521 t522 t523 t525 _ A4.out).mono ?_); rintro e w9 ⟨rfl, hb⟩; refine ⟨_, rfl, ?_⟩; replace HB := kHi HB hb; replace HI518 := iK HI518 hb; (try clear hb)) | (refine gL 11 Tryd.func55 #[.pointer (some ⟨g518, 0, none⟩), .int .i64 2] ?_; (with_reducible refine (spec_l20Rd_pick.calls k g518 t516 t524 2 t526 t527 w _ ?side1 ?side2 A5.out).mono ?_); (case side1 => exact iX HI518); (case side2 => exact xBi HB); rintro e w10 ⟨rfl, hi, hb, hk⟩; refine ⟨_, rfl, ?_⟩; replace HB := am (hb); replace HI518 := am (hi); (try clear hb)))
 by_cases c6 : t526 = 0
 ·rw [if_pos c6] at H
  have c6b0 := beq_iff_eq.mpr c6
  have c6b1 := bne_eq_false_iff_eq.mpr c6
  try simp only [c6b0, c6b1, Bool.not_true, Bool.not_false]
  clear c6
  obtain rfl := Option.some.inj H
  go_wp2
  go_ret
  exact ⟨xE, xBi HB⟩
 rw [if_neg c6] at H
 have c6b0 := beq_eq_false_iff_ne.mpr c6
 have c6b1 := bne_iff_ne.mpr c6
 try simp only [c6b0, c6b1, Bool.not_true, Bool.not_false]
 replace H := Option.bind_eq_some_iff.mp H
 obtain ⟨⟨t528, t529⟩, A110, H⟩ := H
 have A11 := Aside0.mk A110
 clear A110
 obtain rfl := Option.some.inj H
 go_wp2_with ((with_reducible refine gg ?_); refine gL 16 Tryd.func56 #[.pointer (some ⟨g518, 0, none⟩), .string t525] ?_; (with_reducible refine (spec_l20Bent.calls k g518 t516 t527 t525 t528 t529 w _ ?side1 ?side2 A11.out).mono ?_); (case side1 => exact iX HI518); (case side2 => exact xBi HB); rintro e w16 ⟨rfl, hi, hb, hk⟩; refine ⟨_, rfl, ?_⟩; replace HB := am (hb); replace HI518 := am (hi); (try clear hb))
 go_ret
 exact ⟨xE, xBi HB⟩
def laws_FnHeadGet.f (k : Nat) (l0 : List Int) : Option (Bool) := if (l0.length : Int) > 1048576 then (some true) else ((spec_DrawHeadGet.f k l0).bind fun t530 => ((impl_HeadGet.f k t530).bind fun bt531 => ((spec_HeadGet.f k t530).bind fun bt538 => (if (bt531.2.2.2.2.2 != bt538.2.2.2.2.2) = true then (if (bt531.2.2.2.2.2 == bt538.2.2.2.2.2) = true then (some (bt531.1.toList == bt538.1.toList && (bt531.2.1.toList == bt538.2.1.toList && (bt531.2.2.1 == bt538.2.2.1 && (bt531.2.2.2.1 == bt538.2.2.2.1 && (bt531.2.2.2.2.1 == bt538.2.2.2.2.1)))))) else (some false)) else (if (!(bt531.1.toList == bt538.1.toList) || (!(bt531.2.1.toList == bt538.2.1.toList) || (!(bt531.2.2.1 == bt538.2.2.1) || (!(bt531.2.2.2.1 == bt538.2.2.2.1) || (!(bt531.2.2.2.2.1 == bt538.2.2.2.2.1)))))) = true then (if (bt531.2.2.2.2.2 == bt538.2.2.2.2.2) = true then (some (bt531.1.toList == bt538.1.toList && (bt531.2.1.toList == bt538.2.1.toList && (bt531.2.2.1 == bt538.2.2.1 && (bt531.2.2.2.1 == bt538.2.2.2.1 && (bt531.2.2.2.2.1 == bt538.2.2.2.2.1)))))) else (some false)) else (if bt531.2.2.2.2.2 = true then ((impl_HeadPut.f k bt531.1 bt531.2.1 bt531.2.2.1 bt531.2.2.2.1 bt531.2.2.2.2.1).bind fun t545 => (some (t545.toList == t530.toList))) else (if (bt531.2.2.2.2.2 == bt538.2.2.2.2.2) = true then (some (bt531.1.toList == bt538.1.toList && (bt531.2.1.toList == bt538.2.1.toList && (bt531.2.2.1 == bt538.2.2.1 && (bt531.2.2.2.1 == bt538.2.2.2.1 && (bt531.2.2.2.2.1 == bt538.2.2.2.2.1)))))) else (some false))))))))
theorem laws_FnHeadGet.mono : ∀ a0 k, LeO (laws_FnHeadGet.f k a0) (laws_FnHeadGet.f (k + 1) a0) := by
 intro a0 k
 unfold laws_FnHeadGet.f
 exact mo4 impl_HeadGet.mono impl_HeadPut.mono spec_DrawHeadGet.mono spec_HeadGet.mono
theorem laws_FnHeadGet.calls (k : Nat) (A0 : Option Addr) (c0 : Nat) (l0 : List Int) (r : Bool) (w : World) (hr0 : Kd.C (Kd.int .u8) w A0 l0.length l0) (hc0 : l0.length ≤ c0) (h : laws_FnHeadGet.f k l0 = some r) (PQM_ : Aside0 (Sh.HasM w)) (PQT_ : Aside0 (Sh.HasT w)) :
  Calls Tryd.prog 7 #[.slice A0 l0.length c0] w fun e w' => e = .returned (.bool r) ∧ Below w.heap.size w w' := by
 have hu23 := Tryd.underlying23
 have HR0 := Aside0.mk hr0
 have HC0 := Aside0.mk hc0
 clear hr0 hc0
 have HB := Aside0.mk (Below.refl w.heap.size w)
 have H : (if (l0.length : Int) > 1048576 then (some true) else ((spec_DrawHeadGet.f k l0).bind fun t530 => ((impl_HeadGet.f k t530).bind fun bt531 => ((spec_HeadGet.f k t530).bind fun bt538 => (if (bt531.2.2.2.2.2 != bt538.2.2.2.2.2) = true then (if (bt531.2.2.2.2.2 == bt538.2.2.2.2.2) = true then (some (bt531.1.toList == bt538.1.toList && (bt531.2.1.toList == bt538.2.1.toList && (bt531.2.2.1 == bt538.2.2.1 && (bt531.2.2.2.1 == bt538.2.2.2.1 && (bt531.2.2.2.2.1 == bt538.2.2.2.2.1)))))) else (some false)) else (if (!(bt531.1.toList == bt538.1.toList) || (!(bt531.2.1.toList == bt538.2.1.toList) || (!(bt531.2.2.1 == bt538.2.2.1) || (!(bt531.2.2.2.1 == bt538.2.2.2.1) || (!(bt531.2.2.2.2.1 == bt538.2.2.2.2.1)))))) = true then (if (bt531.2.2.2.2.2 == bt538.2.2.2.2.2) = true then (some (bt531.1.toList == bt538.1.toList && (bt531.2.1.toList == bt538.2.1.toList && (bt531.2.2.1 == bt538.2.2.1 && (bt531.2.2.2.1 == bt538.2.2.2.1 && (bt531.2.2.2.2.1 == bt538.2.2.2.2.1)))))) else (some false)) else (if bt531.2.2.2.2.2 = true then ((impl_HeadPut.f k bt531.1 bt531.2.1 bt531.2.2.1 bt531.2.2.2.1 bt531.2.2.2.2.1).bind fun t545 => (some (t545.toList == t530.toList))) else (if (bt531.2.2.2.2.2 == bt538.2.2.2.2.2) = true then (some (bt531.1.toList == bt538.1.toList && (bt531.2.1.toList == bt538.2.1.toList && (bt531.2.2.1 == bt538.2.2.1 && (bt531.2.2.2.1 == bt538.2.2.2.1 && (bt531.2.2.2.2.1 == bt538.2.2.2.2.1)))))) else (some false))))))))) = some r := h
 clear h
 by_cases c2 : (l0.length : Int) > 1048576 -- slot 10
 ·rw [if_pos c2] at H
  have c2b0 := decide_eq_true c2
  have c2b1 : decide (1048576 < l0.length) = true := decide_eq_true (by omega)
  clear c2
  obtain rfl := Option.some.inj H
  go_enter Tryd.func7, Tryd.ntmps7
  go_wp2
  go_ret
  exact ⟨xE, bl HB⟩
 ·rw [if_neg c2] at H
  have c2b0 := decide_eq_false c2
  have c2b1 : decide (1048576 < l0.length) = false := decide_eq_false (by omega)
  clear c2
  replace H := oa H
  obtain ⟨t530, A3, H⟩ := H
  replace H := Option.bind_eq_some_iff.mp H
  obtain ⟨⟨t531, t532, t533, t534, t535, t536⟩, A40, H⟩ := H
  have A4 := Aside0.mk A40
  clear A40
  replace H := Option.bind_eq_some_iff.mp H
  obtain ⟨⟨t538, t539, t540, t541, t542, t543⟩, A50, H⟩ := H
  have A5 := Aside0.mk A50
  clear A50
  by_cases c6 : (t536 != t543) = true -- reg 6
  ·rw [if_pos c6] at H
   have c6b0 : (t536 != t543) = true := c6
   (try (have c6b1 : decide (t536 = t543) = false := by simpa using c6))
   (try (have c6b2 : (t536 == t543) = false := by simpa using c6))
   (try (have c6b3 : ¬ (t536 = t543) := by simpa using c6))
   clear c6
   by_cases c7 : (t536 == t543) = true -- reg 7
   ·rw [if_pos c7] at H
    have c7b0 : (t536 == t543) = true := c7
    exact absurd (c7b0.symm.trans c6b2) (by decide)
   ·rw [if_neg c7] at H
    have c7b0 : (t536 == t543) = false := by simpa using c7
    (try (have c7b1 : decide (t536 = t543) = false := by simpa using c7))
    (try (have c7b2 : (t536 == t543) = false := by simpa using c7))
    (try (have c7b3 : ¬ (t536 = t543) := by simpa using c7))
    clear c7
    obtain rfl := Option.some.inj H
    go_enter Tryd.func7, Tryd.ntmps7
    go_wp2_with ((with_reducible refine gg ?_); first | (refine gL 12 Tryd.func24 #[.slice A0 l0.length c0] ?_; (with_reducible refine (spec_DrawHeadGet.calls k _ _ l0 t530 _ ?side1 ?side2 A3.out).mono ?_); (case side1 => exact cr HR0.out); (case side2 => exact HC0.out); rintro e w17 ⟨rfl, hb⟩; refine ⟨_, rfl, ?_⟩; replace HB := kH HB hb; (try clear hb)) | (refine gL 15 Tryd.func18 #[.string t530] ?_; (with_reducible refine (impl_HeadGet.calls k t530 t531 t532 t533 t534 t535 t536 _ A4.out (Aside0.mk (Sh.hasM_of PQM_ (bl HB)))).mono ?_); rintro e w18 ⟨rfl, hb⟩; refine ⟨_, rfl, ?_⟩; replace HB := kH HB hb; (try clear hb)) | (refine bE 4 #[.string (⟨#[]⟩ : ByteArray), .string (⟨#[]⟩ : ByteArray), .int .i64 0, .int .i64 0, .int .i64 0] 23 ?_; intro gb537 hg w19 hbox hb; have BK537 := am (hbox); have GW537 := zB hg HB; have GE537 := zB hg HB; replace HB := kH HB hb; clear hb hbox hg; have hz20 := bc5 BK537) | (refine store_event (t := 23) (p := 4) (v := ?vo_) (w1 := ?wo_) ?hg ?ho ?hn ?hr ?_; (case ho => rfl); (case hg => rfl); (case hn => rfl); (case hr => go_simp; rfl); intro wq_ hW_; (first | (have BQ_ := kF (.cells #[.string t531, .string t532, .int .i64 t533, .int .i64 t534, .int .i64 t535] 23 (0, 0)) BK537 hW_; have hzq_ := bc5 BQ_) | (have BQ_ := am hW_; have hzq_ := am hW_)); replace hW_ := am hW_) | (refine gL 20 Tryd.func17 #[.string t530] ?_; (try (clear hzq_ BQ_; obtain ⟨hW_⟩ := hW_; subst hW_)); (with_reducible refine (spec_HeadGet.calls k t530 t538 t539 t540 t541 t542 t543 _ A5.out).mono ?_); rintro e w21 ⟨rfl, hb⟩; refine ⟨_, rfl, ?_⟩; replace BK537 := kP (.cells #[.string t531, .string t532, .int .i64 t533, .int .i64 t534, .int .i64 t535] 23 (0, 0)) BK537 hb; replace HB := kH HB hb; (try clear hb)) | (refine bE 6 #[.string (⟨#[]⟩ : ByteArray), .string (⟨#[]⟩ : ByteArray), .int .i64 0, .int .i64 0, .int .i64 0] 23 ?_; (try (clear hzq_ BQ_; obtain ⟨hW_⟩ := hW_; subst hW_)); intro gb544 hg w22 hbox hb; have BK544 := am (hbox); have GW544 := zB hg HB; have GE544 := zB hg HB; replace HB := kH HB hb; have NB537_544 := nl hg (kb BK537); have NB544_537 := ng hg (kb BK537); replace BK537 := kP _ BK537 hb; clear hb hbox hg; have hnb23 := NB544_537.out; have hnc23 := NB537_544.out; have hz24 := bc5 BK544) | (refine store_event (t := 23) (p := 6) (v := ?vo_) (w1 := ?wo_) ?hg ?ho ?hn ?hr ?_; (case ho => rfl); (case hg => rfl); (case hn => rfl); (case hr => go_simp; rfl); intro wq_ hW_; (first | (have BQ_ := kF (.cells #[.string t538, .string t539, .int .i64 t540, .int .i64 t541, .int .i64 t542] 23 (0, 0)) BK544 hW_; have hzq_ := bc5 BQ_) | (have BQ_ := am hW_; have hzq_ := am hW_)); replace hW_ := am hW_))
    (try (clear hzq_ BQ_; obtain ⟨hW_⟩ := hW_; subst hW_))
    go_ret
    exact ⟨xE, xB HB⟩
  ·rw [if_neg c6] at H
   have c6b0 : (t536 != t543) = false := by simpa using c6
   (try (have c6b1 : decide (t536 = t543) = true := by simpa using c6))
   (try (have c6b2 : (t536 == t543) = true := by simpa using c6))
   clear c6
   by_cases c25 : (!(t531.toList == t538.toList) || (!(t532.toList == t539.toList) || (!(t533 == t540) || (!(t534 == t541) || (!(t535 == t542)))))) = true -- reg 6
   ·rw [if_pos c25] at H
    have c25b0 : (!(t531.toList == t538.toList) || (!(t532.toList == t539.toList) || (!(t533 == t540) || (!(t534 == t541) || (!(t535 == t542)))))) = true := c25
    clear c25
    by_cases c26 : (t536 == t543) = true -- reg 7
    ·rw [if_pos c26] at H
     have c26b0 : (t536 == t543) = true := c26
     (try (have c26b1 : decide (t536 = t543) = true := by simpa using c26))
     (try (have c26b2 : (t536 == t543) = true := by simpa using c26))
     clear c26
     obtain rfl := Option.some.inj H
     go_enter Tryd.func7, Tryd.ntmps7
     go_wp2_with ((with_reducible refine gg ?_); first | (refine gL 12 Tryd.func24 #[.slice A0 l0.length c0] ?_; (try (clear hzq_ BQ_; obtain ⟨hW_⟩ := hW_; subst hW_)); (with_reducible refine (spec_DrawHeadGet.calls k _ _ l0 t530 _ ?side1 ?side2 A3.out).mono ?_); (case side1 => exact cr HR0.out); (case side2 => exact HC0.out); rintro e w27 ⟨rfl, hb⟩; refine ⟨_, rfl, ?_⟩; replace HB := kH HB hb; (try clear hb)) | (refine gL 15 Tryd.func18 #[.string t530] ?_; (try (clear hzq_ BQ_; obtain ⟨hW_⟩ := hW_; subst hW_)); (with_reducible refine (impl_HeadGet.calls k t530 t531 t532 t533 t534 t535 t536 _ A4.out (Aside0.mk (Sh.hasM_of PQM_ (bl HB)))).mono ?_); rintro e w28 ⟨rfl, hb⟩; refine ⟨_, rfl, ?_⟩; replace HB := kH HB hb; (try clear hb)) | (refine bE 4 #[.string (⟨#[]⟩ : ByteArray), .string (⟨#[]⟩ : ByteArray), .int .i64 0, .int .i64 0, .int .i64 0] 23 ?_; (try (clear hzq_ BQ_; obtain ⟨hW_⟩ := hW_; subst hW_)); intro gb537 hg w29 hbox hb; have BK537 := am (hbox); have GW537 := zB hg HB; have GE537 := zB hg HB; replace HB := kH HB hb; clear hb hbox hg; have hz30 := bc5 BK537) | (refine store_event (t := 23) (p := 4) (v := ?vo_) (w1 := ?wo_) ?hg ?ho ?hn ?hr ?_; (case ho => rfl); (case hg => rfl); (case hn => rfl); (case hr => go_simp; rfl); intro wq_ hW_; (first | (have BQ_ := kF (.cells #[.string t531, .string t532, .int .i64 t533, .int .i64 t534, .int .i64 t535] 23 (0, 0)) BK537 hW_; have hzq_ := bc5 BQ_) | (have BQ_ := am hW_; have hzq_ := am hW_)); replace hW_ := am hW_) | (refine gL 20 Tryd.func17 #[.string t530] ?_; (try (clear hzq_ BQ_; obtain ⟨hW_⟩ := hW_; subst hW_)); (with_reducible refine (spec_HeadGet.calls k t530 t538 t539 t540 t541 t542 t543 _ A5.out).mono ?_); rintro e w31 ⟨rfl, hb⟩; refine ⟨_, rfl, ?_⟩; replace BK537 := kP (.cells #[.string t531, .string t532, .int .i64 t533, .int .i64 t534, .int .i64 t535] 23 (0, 0)) BK537 hb; replace HB := kH HB hb; (try clear hb)) | (refine bE 6 #[.string (⟨#[]⟩ : ByteArray), .string (⟨#[]⟩ : ByteArray), .int .i64 0, .int .i64 0, .int .i64 0] 23 ?_; (try (clear hzq_ BQ_; obtain ⟨hW_⟩ := hW_; subst hW_)); intro gb544 hg w32 hbox hb; have BK544 := am (hbox); have GW544 := zB hg HB; have GE544 := zB hg HB; replace HB := kH HB hb; have NB537_544 := nl hg (kb BK537); have NB544_537 := ng hg (kb BK537); replace BK537 := kP _ BK537 hb; clear hb hbox hg; have hnb33 := NB544_537.out; have hnc33 := NB537_544.out; have hz34 := bc5 BK544; have hz35 := bc5 BK537) | (refine store_event (t := 23) (p := 6) (v := ?vo_) (w1 := ?wo_) ?hg ?ho ?hn ?hr ?_; (case ho => rfl); (case hg => rfl); (case hn => rfl); (case hr => go_simp; rfl); intro wq_ hW_; (first | (have BQ_ := kF (.cells #[.string t538, .string t539, .int .i64 t540, .int .i64 t541, .int .i64 t542] 23 (0, 0)) BK544 hW_; have hzq_ := bc5 BQ_) | (have BQ_ := am hW_; have hzq_ := am hW_)); replace hW_ := am hW_))
     (try (clear hzq_ BQ_; obtain ⟨hW_⟩ := hW_; subst hW_))
     go_ret
     exact ⟨xE, xB HB⟩
    ·rw [if_neg c26] at H
     have c26b0 : (t536 == t543) = false := by simpa using c26
     exact absurd (c26b0.symm.trans c6b2) (by decide)
   ·rw [if_neg c25] at H
    have c25b0 : (!(t531.toList == t538.toList) || (!(t532.toList == t539.toList) || (!(t533 == t540) || (!(t534 == t541) || (!(t535 == t542)))))) = false := by simpa using c25
    clear c25
    by_cases c45 : t536 = true -- slot 34
    ·subst c45
     rw [if_pos rfl] at H
     replace H := oa H
     obtain ⟨t545, A46, H⟩ := H
     obtain rfl := Option.some.inj H
     go_enter Tryd.func7, Tryd.ntmps7
     go_wp2_with ((with_reducible refine gg ?_); first | (refine gL 12 Tryd.func24 #[.slice A0 l0.length c0] ?_; (try (clear hzq_ BQ_; obtain ⟨hW_⟩ := hW_; subst hW_)); (with_reducible refine (spec_DrawHeadGet.calls k _ _ l0 t530 _ ?side1 ?side2 A3.out).mono ?_); (case side1 => exact cr HR0.out); (case side2 => exact HC0.out); rintro e w47 ⟨rfl, hb⟩; refine ⟨_, rfl, ?_⟩; replace HB := kH HB hb; (try clear hb)) | (refine gL 15 Tryd.func18 #[.string t530] ?_; (try (clear hzq_ BQ_; obtain ⟨hW_⟩ := hW_; subst hW_)); (with_reducible refine (impl_HeadGet.calls k t530 t531 t532 t533 t534 t535 true _ A4.out (Aside0.mk (Sh.hasM_of PQM_ (bl HB)))).mono ?_); rintro e w48 ⟨rfl, hb⟩; refine ⟨_, rfl, ?_⟩; replace HB := kH HB hb; (try clear hb)) | (refine bE 4 #[.string (⟨#[]⟩ : ByteArray), .string (⟨#[]⟩ : ByteArray), .int .i64 0, .int .i64 0, .int .i64 0] 23 ?_; (try (clear hzq_ BQ_; obtain ⟨hW_⟩ := hW_; subst hW_)); intro gb537 hg w49 hbox hb; have BK537 := am (hbox); have GW537 := zB hg HB; have GE537 := zB hg HB; replace HB := kH HB hb; clear hb hbox hg; have hz50 := bc5 BK537) | (refine store_event (t := 23) (p := 4) (v := ?vo_) (w1 := ?wo_) ?hg ?ho ?hn ?hr ?_; (case ho => rfl); (case hg => rfl); (case hn => rfl); (case hr => go_simp; rfl); intro wq_ hW_; (first | (have BQ_ := kF (.cells #[.string t531, .string t532, .int .i64 t533, .int .i64 t534, .int .i64 t535] 23 (0, 0)) BK537 hW_; have hzq_ := bc5 BQ_) | (have BQ_ := am hW_; have hzq_ := am hW_)); replace hW_ := am hW_) | (refine gL 20 Tryd.func17 #[.string t530] ?_; (try (clear hzq_ BQ_; obtain ⟨hW_⟩ := hW_; subst hW_)); (with_reducible refine (spec_HeadGet.calls k t530 t538 t539 t540 t541 t542 t543 _ A5.out).mono ?_); rintro e w51 ⟨rfl, hb⟩; refine ⟨_, rfl, ?_⟩; replace BK537 := kP (.cells #[.string t531, .string t532, .int .i64 t533, .int .i64 t534, .int .i64 t535] 23 (0, 0)) BK537 hb; replace HB := kH HB hb; (try clear hb)) | (refine bE 6 #[.string (⟨#[]⟩ : ByteArray), .string (⟨#[]⟩ : ByteArray), .int .i64 0, .int .i64 0, .int .i64 0] 23 ?_; (try (clear hzq_ BQ_; obtain ⟨hW_⟩ := hW_; subst hW_)); intro gb544 hg w52 hbox hb; have BK544 := am (hbox); have GW544 := zB hg HB; have GE544 := zB hg HB; replace HB := kH HB hb; have NB537_544 := nl hg (kb BK537); have NB544_537 := ng hg (kb BK537); replace BK537 := kP _ BK537 hb; clear hb hbox hg; have hnb53 := NB544_537.out; have hnc53 := NB537_544.out; have hz54 := bc5 BK544; have hz55 := bc5 BK537) | (refine store_event (t := 23) (p := 6) (v := ?vo_) (w1 := ?wo_) ?hg ?ho ?hn ?hr ?_; (case ho => rfl); (case hg => rfl); (case hn => rfl); (case hr => go_simp; rfl); intro wq_ hW_; (first | (have BQ_ := kF (.cells #[.string t538, .string t539, .int .i64 t540, .int .i64 t541, .int .i64 t542] 23 (0, 0)) BK544 hW_; have hzq_ := bc5 BQ_) | (have BQ_ := am hW_; have hzq_ := am hW_)); replace hW_ := am hW_) | (refine gL 44 Tryd.func16 #[.agg #[.string t531, .string t532, .int .i64 t533, .int .i64 t534, .int .i64 t535]] ?_; (try (clear hzq_ BQ_; obtain ⟨hW_⟩ := hW_; subst hW_)); (with_reducible refine (impl_HeadPut.calls k t531 t532 t533 t534 t535 t545 _ A46.out (Aside0.mk (Sh.hasT_of PQT_ (xB HB)))).mono ?_); rintro e w56 ⟨rfl, hb⟩; refine ⟨_, rfl, ?_⟩; replace BK537 := kP _ BK537 hb; replace BK544 := kP (.cells #[.string t538, .string t539, .int .i64 t540, .int .i64 t541, .int .i64 t542] 23 (0, 0)) BK544 hb; replace HB := kH HB hb; (try clear hb)))
     (try (clear hzq_ BQ_; obtain ⟨hW_⟩ := hW_; subst hW_))
     go_ret
     exact ⟨xE, xB HB⟩
    ·replace c45 := Bool.eq_false_iff.mpr c45
     subst c45
     rw [if_neg (show ¬ (false = true) by decide)] at H
     by_cases c57 : (false == t543) = true -- reg 7
     ·rw [if_pos c57] at H
      have c57b0 : (false == t543) = true := c57
      (try (have c57b1 : decide (false = t543) = true := by simpa using c57))
      (try (have c57b2 : (false == t543) = true := by simpa using c57))
      clear c57
      obtain rfl := Option.some.inj H
      go_enter Tryd.func7, Tryd.ntmps7
      go_wp2_with ((with_reducible refine gg ?_); first | (refine gL 12 Tryd.func24 #[.slice A0 l0.length c0] ?_; (try (clear hzq_ BQ_; obtain ⟨hW_⟩ := hW_; subst hW_)); (with_reducible refine (spec_DrawHeadGet.calls k _ _ l0 t530 _ ?side1 ?side2 A3.out).mono ?_); (case side1 => exact cr HR0.out); (case side2 => exact HC0.out); rintro e w58 ⟨rfl, hb⟩; refine ⟨_, rfl, ?_⟩; replace HB := kH HB hb; (try clear hb)) | (refine gL 15 Tryd.func18 #[.string t530] ?_; (try (clear hzq_ BQ_; obtain ⟨hW_⟩ := hW_; subst hW_)); (with_reducible refine (impl_HeadGet.calls k t530 t531 t532 t533 t534 t535 false _ A4.out (Aside0.mk (Sh.hasM_of PQM_ (bl HB)))).mono ?_); rintro e w59 ⟨rfl, hb⟩; refine ⟨_, rfl, ?_⟩; replace HB := kH HB hb; (try clear hb)) | (refine bE 4 #[.string (⟨#[]⟩ : ByteArray), .string (⟨#[]⟩ : ByteArray), .int .i64 0, .int .i64 0, .int .i64 0] 23 ?_; (try (clear hzq_ BQ_; obtain ⟨hW_⟩ := hW_; subst hW_)); intro gb537 hg w60 hbox hb; have BK537 := am (hbox); have GW537 := zB hg HB; have GE537 := zB hg HB; replace HB := kH HB hb; clear hb hbox hg; have hz61 := bc5 BK537) | (refine store_event (t := 23) (p := 4) (v := ?vo_) (w1 := ?wo_) ?hg ?ho ?hn ?hr ?_; (case ho => rfl); (case hg => rfl); (case hn => rfl); (case hr => go_simp; rfl); intro wq_ hW_; (first | (have BQ_ := kF (.cells #[.string t531, .string t532, .int .i64 t533, .int .i64 t534, .int .i64 t535] 23 (0, 0)) BK537 hW_; have hzq_ := bc5 BQ_) | (have BQ_ := am hW_; have hzq_ := am hW_)); replace hW_ := am hW_) | (refine gL 20 Tryd.func17 #[.string t530] ?_; (try (clear hzq_ BQ_; obtain ⟨hW_⟩ := hW_; subst hW_)); (with_reducible refine (spec_HeadGet.calls k t530 t538 t539 t540 t541 t542 t543 _ A5.out).mono ?_); rintro e w62 ⟨rfl, hb⟩; refine ⟨_, rfl, ?_⟩; replace BK537 := kP (.cells #[.string t531, .string t532, .int .i64 t533, .int .i64 t534, .int .i64 t535] 23 (0, 0)) BK537 hb; replace HB := kH HB hb; (try clear hb)) | (refine bE 6 #[.string (⟨#[]⟩ : ByteArray), .string (⟨#[]⟩ : ByteArray), .int .i64 0, .int .i64 0, .int .i64 0] 23 ?_; (try (clear hzq_ BQ_; obtain ⟨hW_⟩ := hW_; subst hW_)); intro gb544 hg w63 hbox hb; have BK544 := am (hbox); have GW544 := zB hg HB; have GE544 := zB hg HB; replace HB := kH HB hb; have NB537_544 := nl hg (kb BK537); have NB544_537 := ng hg (kb BK537); replace BK537 := kP _ BK537 hb; clear hb hbox hg; have hnb64 := NB544_537.out; have hnc64 := NB537_544.out; have hz65 := bc5 BK544; have hz66 := bc5 BK537) | (refine store_event (t := 23) (p := 6) (v := ?vo_) (w1 := ?wo_) ?hg ?ho ?hn ?hr ?_; (case ho => rfl); (case hg => rfl); (case hn => rfl); (case hr => go_simp; rfl); intro wq_ hW_; have BQ_ := am hW_; have hzq_ := am hW_; replace hW_ := am hW_))
      (try (clear hzq_ BQ_; obtain ⟨hW_⟩ := hW_; subst hW_))
      go_ret
      exact ⟨xE, xB HB⟩
     ·rw [if_neg c57] at H
      have c57b0 : (false == t543) = false := by simpa using c57
      exact absurd (c57b0.symm.trans c6b2) (by decide)
/-- THE ONE PURE STATEMENT of laws_FnHeadGet: yours. -/
def laws_FnHeadGet.Pure : Prop := ∀ (l0 : List Int), l0.length ≤ maxLen → l0.length * 1 ≤ 140737488351232 → (∀ x ∈ l0, (Lit.int .u8 x).wf = true) → ∃ k, laws_FnHeadGet.f k l0 = some true
theorem laws_FnHeadGet.walk (P : laws_FnHeadGet.Pure) (a0 : Option Addr) (len0 cap0 : Nat) (z0 : List Int) (w : World) (w0 : (a0 = none ∧ len0 = 0 ∧ cap0 = 0 ∧ z0 = []) ∨ ∃ x, a0 = some x ∧ len0 ≤ cap0 ∧ cap0 ≤ maxLen ∧ z0.length = cap0 ∧ (∀ i, i < z0.length → w.cell? (x.add i) = some (.int .u8 (z0.getD i 0))) ∧ ∀ n ∈ z0, (Lit.int .u8 n).wf = true) (y0 : len0 * 1 ≤ 140737488351232) (PQM_ : Aside0 (Sh.HasM w)) (PQT_ : Aside0 (Sh.HasT w)) :
  Calls Tryd.prog 7 #[.slice a0 len0 cap0] w fun e w' => e = .returned (.bool true) ∧ Below w.heap.size w w' := by
 obtain ⟨l0, rfl, hr0, hm0, hw0, hc0⟩ := ReadsInt.ofRowC w0
 obtain ⟨k, h⟩ := P l0 hm0 y0 hw0
 refine (laws_FnHeadGet.calls k _ _ l0 true w (Kd.C_of_reads (d := (0 : Int)) (h1 := fun _ => rfl) hr0) hc0 h PQM_ PQT_).mono ?_
 rintro e w' ⟨rfl, hd⟩
 exact ⟨rfl, hd⟩
end Go.Proofs.YtgjljbaadglpnaaDoor.PFnHeadGet
