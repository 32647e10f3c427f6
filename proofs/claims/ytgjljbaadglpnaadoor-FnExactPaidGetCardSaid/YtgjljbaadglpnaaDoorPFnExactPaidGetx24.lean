/- Functions of the program and what each answers: the kit's print, shortened (wip/press2.py). -/
import Derived.Test.YtgjljbaadglpnaaDoorPFnExactPaidGetx0
import Derived.Test.YtgjljbaadglpnaaDoorPFnExactPaidGetx10
import Derived.Test.YtgjljbaadglpnaaDoorPFnExactPaidGetx19
import Derived.Test.YtgjljbaadglpnaaDoorPFnExactPaidGetx21
import Derived.Test.YtgjljbaadglpnaaDoorPFnExactPaidGetx23
namespace Go.Proofs.YtgjljbaadglpnaaDoor.PFnExactPaidGet
open Go.Proofs.YtgjljbaadglpnaaDoor.Sq Go.RowKit Go.Proofs.YtgjljbaadglpnaaDoorW.PrintWords Go.Proofs.YtgjljbaadglpnaaDoorW.PrintLast Go.Proofs.YtgjljbaadglpnaaDoorW.PrintMore
attribute [local go_sem] max2_int min2_int max_two min_two max_three min_three max_four min_four   -- for this text's walks alone
set_option linter.unusedVariables false
set_option linter.unusedSimpArgs false
set_option maxHeartbeats 64000000
set_option maxRecDepth 100000
mutual
def laws_FnExactPaidGet.j0 : Nat → ByteArray → Bool → Bool → Int → ByteArray → ByteArray → Int → Int → Int → List (S93) → List (S93) → List (S85) → Int → ByteArray → ByteArray → Int → Int → Int → List (S93) → List (S93) → List (S85) → Option (Bool)
 | 0, _, _, _, _, _, _, _, _, _, _, _, _, _, _, _, _, _, _, _, _, _ => none
 | k + 1, x0, x4, x32, x460000, x460001, x460002, x460003, x460004, x460005, x460006, x460007, x460008, x477000, x477001, x477002, x477003, x477004, x477005, x477006, x477007, x477008 => if x32 = true then (some false) else ((laws_markPaid.f k x477000 x477001 x477002 x477003 x477004 x477005 x477006 x477007 x477008 1).bind fun bt478 => ((laws_heldPaid.f k x477000 x477001 x477002 x477003 x477004 x477005 bt478.2.1 bt478.2.2.1 bt478.2.2.2 1).bind fun t482 => (if t482 < 0 then (some false) else (if t482 = bt478.1 then ((impl_PaidGet.f k x0).bind fun bt483 => ((laws_eqPaid.f k bt483.1 bt483.2.1 bt483.2.2.1 bt483.2.2.2.1 bt483.2.2.2.2.1 bt483.2.2.2.2.2.1 bt483.2.2.2.2.2.2.1 bt483.2.2.2.2.2.2.2.1 bt483.2.2.2.2.2.2.2.2.1 x460000 x460001 x460002 x460003 x460004 x460005 x460006 x460007 x460008).bind fun t500 => (if t500 = true then (laws_FnExactPaidGet.j1 k bt478.1 (bt483.2.2.2.2.2.2.2.2.2 != x4) x477000 x477001 x477002 x477003 x477004 x477005 bt478.2.1 bt478.2.2.1 bt478.2.2.2) else (laws_FnExactPaidGet.j1 k bt478.1 true x477000 x477001 x477002 x477003 x477004 x477005 bt478.2.1 bt478.2.2.1 bt478.2.2.2)))) else (some false)))))
def laws_FnExactPaidGet.j1 : Nat → Int → Bool → Int → ByteArray → ByteArray → Int → Int → Int → List (S93) → List (S93) → List (S85) → Option (Bool)
 | 0, _, _, _, _, _, _, _, _, _, _, _ => none
 | k + 1, x7, x57, x477000, x477001, x477002, x477003, x477004, x477005, x477006, x477007, x477008 => if x57 = true then (some false) else ((laws_heldPaid.f k x477000 x477001 x477002 x477003 x477004 x477005 x477006 x477007 x477008 1).bind fun t501 => (if t501 < 0 then (some false) else (if t501 = x7 then (some true) else (some false))))
end
def laws_FnExactPaidGet.f (k : Nat) (a0 : ByteArray) : Option (Bool) := if (a0.size : Int) > 1048576 then (some true) else ((spec_PaidGet.f k a0).bind fun bt443 => ((impl_PaidGet.f k a0).bind fun bt460 => ((laws_eqPaid.f k bt460.1 bt460.2.1 bt460.2.2.1 bt460.2.2.2.1 bt460.2.2.2.2.1 bt460.2.2.2.2.2.1 bt460.2.2.2.2.2.2.1 bt460.2.2.2.2.2.2.2.1 bt460.2.2.2.2.2.2.2.2.1 bt443.1 bt443.2.1 bt443.2.2.1 bt443.2.2.2.1 bt443.2.2.2.2.1 bt443.2.2.2.2.2.1 bt443.2.2.2.2.2.2.1 bt443.2.2.2.2.2.2.2.1 bt443.2.2.2.2.2.2.2.2.1).bind fun t477 => (if t477 = true then (laws_FnExactPaidGet.j0 k a0 bt443.2.2.2.2.2.2.2.2.2 (bt460.2.2.2.2.2.2.2.2.2 != bt443.2.2.2.2.2.2.2.2.2) bt443.1 bt443.2.1 bt443.2.2.1 bt443.2.2.2.1 bt443.2.2.2.2.1 bt443.2.2.2.2.2.1 bt443.2.2.2.2.2.2.1 bt443.2.2.2.2.2.2.2.1 bt443.2.2.2.2.2.2.2.2.1 bt460.1 bt460.2.1 bt460.2.2.1 bt460.2.2.2.1 bt460.2.2.2.2.1 bt460.2.2.2.2.2.1 bt460.2.2.2.2.2.2.1 bt460.2.2.2.2.2.2.2.1 bt460.2.2.2.2.2.2.2.2.1) else (laws_FnExactPaidGet.j0 k a0 bt443.2.2.2.2.2.2.2.2.2 true bt443.1 bt443.2.1 bt443.2.2.1 bt443.2.2.2.1 bt443.2.2.2.2.1 bt443.2.2.2.2.2.1 bt443.2.2.2.2.2.2.1 bt443.2.2.2.2.2.2.2.1 bt443.2.2.2.2.2.2.2.2.1 bt460.1 bt460.2.1 bt460.2.2.1 bt460.2.2.2.1 bt460.2.2.2.2.1 bt460.2.2.2.2.2.1 bt460.2.2.2.2.2.2.1 bt460.2.2.2.2.2.2.2.1 bt460.2.2.2.2.2.2.2.2.1)))))
theorem laws_FnExactPaidGet.mono_l : ∀ k, (∀ y0 y1 y2 y3 y4 y5 y6 y7 y8 y9 y10 y11 y12 y13 y14 y15 y16 y17 y18 y19 y20, LeO (laws_FnExactPaidGet.j0 k y0 y1 y2 y3 y4 y5 y6 y7 y8 y9 y10 y11 y12 y13 y14 y15 y16 y17 y18 y19 y20) (laws_FnExactPaidGet.j0 (k + 1) y0 y1 y2 y3 y4 y5 y6 y7 y8 y9 y10 y11 y12 y13 y14 y15 y16 y17 y18 y19 y20)) ∧ (∀ y0 y1 y2 y3 y4 y5 y6 y7 y8 y9 y10, LeO (laws_FnExactPaidGet.j1 k y0 y1 y2 y3 y4 y5 y6 y7 y8 y9 y10) (laws_FnExactPaidGet.j1 (k + 1) y0 y1 y2 y3 y4 y5 y6 y7 y8 y9 y10))
 | 0 => ⟨fun _ _ _ _ _ _ _ _ _ _ _ _ _ _ _ _ _ _ _ _ _ r h => by simp [laws_FnExactPaidGet.j0] at h, fun _ _ _ _ _ _ _ _ _ _ _ r h => by simp [laws_FnExactPaidGet.j1] at h⟩
 | k + 1 => by
  obtain ⟨ih0, ih1⟩ := laws_FnExactPaidGet.mono_l k
  refine ⟨?_, ?_⟩
  ·intro y0 y1 y2 y3 y4 y5 y6 y7 y8 y9 y10 y11 y12 y13 y14 y15 y16 y17 y18 y19 y20
   unfold laws_FnExactPaidGet.j0
   exact mo7 ih0 ih1 impl_PaidGet.mono laws_eqPaid.mono laws_heldPaid.mono laws_markPaid.mono spec_PaidGet.mono
  ·intro y0 y1 y2 y3 y4 y5 y6 y7 y8 y9 y10
   unfold laws_FnExactPaidGet.j1
   exact mo7 ih0 ih1 impl_PaidGet.mono laws_eqPaid.mono laws_heldPaid.mono laws_markPaid.mono spec_PaidGet.mono
theorem laws_FnExactPaidGet.mono : ∀ a0 k, LeO (laws_FnExactPaidGet.f k a0) (laws_FnExactPaidGet.f (k + 1) a0) := by
 intro a0 k
 obtain ⟨ih0, ih1⟩ := laws_FnExactPaidGet.mono_l k
 unfold laws_FnExactPaidGet.f
 exact mo7 ih0 ih1 impl_PaidGet.mono laws_eqPaid.mono laws_heldPaid.mono laws_markPaid.mono spec_PaidGet.mono
theorem laws_FnExactPaidGet.calls (k : Nat) (a0 : ByteArray) (r : Bool) (w : World) (h : laws_FnExactPaidGet.f k a0 = some r) (PQM_ : Aside0 (Sh.HasM w)) (PQT_ : Aside0 (Sh.HasT w)) :
  Calls Tryd.prog 3 #[.string a0] w fun e w' => e = .returned (.bool r) ∧ Below w.heap.size w w' := by
 have hu29 := Tryd.underlying29
 have HB := Aside0.mk (Below.refl w.heap.size w)
 have H : (if (a0.size : Int) > 1048576 then (some true) else ((spec_PaidGet.f k a0).bind fun bt443 => ((impl_PaidGet.f k a0).bind fun bt460 => ((laws_eqPaid.f k bt460.1 bt460.2.1 bt460.2.2.1 bt460.2.2.2.1 bt460.2.2.2.2.1 bt460.2.2.2.2.2.1 bt460.2.2.2.2.2.2.1 bt460.2.2.2.2.2.2.2.1 bt460.2.2.2.2.2.2.2.2.1 bt443.1 bt443.2.1 bt443.2.2.1 bt443.2.2.2.1 bt443.2.2.2.2.1 bt443.2.2.2.2.2.1 bt443.2.2.2.2.2.2.1 bt443.2.2.2.2.2.2.2.1 bt443.2.2.2.2.2.2.2.2.1).bind fun t477 => (if t477 = true then (laws_FnExactPaidGet.j0 k a0 bt443.2.2.2.2.2.2.2.2.2 (bt460.2.2.2.2.2.2.2.2.2 != bt443.2.2.2.2.2.2.2.2.2) bt443.1 bt443.2.1 bt443.2.2.1 bt443.2.2.2.1 bt443.2.2.2.2.1 bt443.2.2.2.2.2.1 bt443.2.2.2.2.2.2.1 bt443.2.2.2.2.2.2.2.1 bt443.2.2.2.2.2.2.2.2.1 bt460.1 bt460.2.1 bt460.2.2.1 bt460.2.2.2.1 bt460.2.2.2.2.1 bt460.2.2.2.2.2.1 bt460.2.2.2.2.2.2.1 bt460.2.2.2.2.2.2.2.1 bt460.2.2.2.2.2.2.2.2.1) else (laws_FnExactPaidGet.j0 k a0 bt443.2.2.2.2.2.2.2.2.2 true bt443.1 bt443.2.1 bt443.2.2.1 bt443.2.2.2.1 bt443.2.2.2.2.1 bt443.2.2.2.2.2.1 bt443.2.2.2.2.2.2.1 bt443.2.2.2.2.2.2.2.1 bt443.2.2.2.2.2.2.2.2.1 bt460.1 bt460.2.1 bt460.2.2.1 bt460.2.2.2.1 bt460.2.2.2.2.1 bt460.2.2.2.2.2.1 bt460.2.2.2.2.2.2.1 bt460.2.2.2.2.2.2.2.1 bt460.2.2.2.2.2.2.2.2.1)))))) = some r := h
 clear h
 by_cases c2 : (a0.size : Int) > 1048576
 ·rw [if_pos c2] at H
  have c2b0 := decide_eq_true c2
  have c2b1 : decide (1048576 < a0.size) = true := decide_eq_true (by omega)
  clear c2
  obtain rfl := Option.some.inj H
  go_enter Tryd.func3, Tryd.ntmps3
  go_wp2
  go_ret
  exact ⟨xE, bl HB⟩
 rw [if_neg c2] at H
 have c2b0 := decide_eq_false c2
 have c2b1 : decide (1048576 < a0.size) = false := decide_eq_false (by omega)
 clear c2
 replace H := Option.bind_eq_some_iff.mp H
 obtain ⟨⟨t443, t444, t445, t446, t447, t448, t449, t452, t455, t458⟩, A30, H⟩ := H
 have A3 := Aside0.mk A30
 clear A30
 replace H := Option.bind_eq_some_iff.mp H
 obtain ⟨⟨t460, t461, t462, t463, t464, t465, t466, t469, t472, t475⟩, A40, H⟩ := H
 have A4 := Aside0.mk A40
 clear A40
 have HC5 := Aside0.mk H
 clear H
 go_enter Tryd.func3, Tryd.ntmps3
 go_upto_region 5 with ((with_reducible refine gg ?_); first | (refine gL 16 Tryd.func8 #[.string a0] ?_; (with_reducible refine (spec_PaidGet.calls k a0 t443 t444 t445 t446 t447 t448 t449 t452 t455 t458 _ A3.out).mono ?_); rintro e w6 ⟨v450, v453, v456, rfl, ho0, ho1, ho2, hb⟩; refine ⟨_, rfl, ?_⟩; have HO451 := am (Kd.R_lower ho0 (below_size (bl HB))); have HO454 := am (Kd.R_lower ho1 (below_size (bl HB))); have HO457 := am (Kd.R_lower ho2 (below_size (bl HB))); replace HB := kH HB hb; (try clear hb); (try clear ho0); (try clear ho1); (try clear ho2)) | (refine bE 3 #[.int .i64 0, .string (⟨#[]⟩ : ByteArray), .string (⟨#[]⟩ : ByteArray), .int .i64 0, .int .i64 0, .int .i64 0, .slice none 0 0, .slice none 0 0, .slice none 0 0] 29 ?_; intro gb459 hg w7 hbox hb; replace HO451 := rk HO451 hb; replace HO454 := rk HO454 hb; replace HO457 := rk HO457 hb; have BK459 := am (hbox); have GW459 := zB hg HB; have GE459 := zB hg HB; replace HB := kH HB hb; clear hb hbox hg; have hz8 := bc9 BK459; obtain ⟨Ao9, co9, eo9⟩ := Kd.R_slice HO451.out; subst eo9; obtain ⟨Ao10, co10, eo10⟩ := Kd.R_slice HO454.out; subst eo10; obtain ⟨Ao11, co11, eo11⟩ := Kd.R_slice HO457.out; subst eo11) | (refine store_event (t := 29) (p := 3) (v := ?vo_) (w1 := ?wo_) ?hg ?ho ?hn ?hr ?_; (case ho => rfl); (case hg => rfl); (case hn => rfl); (case hr => go_simp; rfl); intro wq_ hW_; (first | (have BQ_ := kF (.cells #[.int .i64 t443, .string t444, .string t445, .int .i64 t446, .int .i64 t447, .int .i64 t448, .slice Ao9 t449.length co9, .slice Ao10 t452.length co10, .slice Ao11 t455.length co11] 29 (0, 0)) BK459 hW_; have hzq_ := bc9 BQ_) | (have BQ_ := am hW_; have hzq_ := am hW_)); replace hW_ := am hW_) | (refine gL 21 Tryd.func9 #[.string a0] ?_; (try (clear hzq_ BQ_; obtain ⟨hW_⟩ := hW_; subst hW_)); (with_reducible refine (impl_PaidGet.calls k a0 t460 t461 t462 t463 t464 t465 t466 t469 t472 t475 _ A4.out (Aside0.mk (Sh.hasM_of PQM_ (xB HB))) (Aside0.mk (Sh.hasT_of PQT_ (xB HB)))).mono ?_); rintro e w12 ⟨v467, v470, v473, rfl, ho0, ho1, ho2, hb⟩; refine ⟨_, rfl, ?_⟩; have HO468 := am (Kd.R_lower (Kd.R_new' (Kd.R_new' ho0 (Kd.R_lt (rf HO451 BK459))) (Kd.R_lt (rf HO454 BK459))) (below_size (xB HB))); have HO471 := am (Kd.R_lower (Kd.R_new' (Kd.R_new' ho1 (Kd.R_lt (rf HO451 BK459))) (Kd.R_lt (rf HO454 BK459))) (below_size (xB HB))); replace HO451 := am (Kd.R_mono (Kd.R_told (Kd.R_told (Kd.R_old (rf HO451 BK459) hb) (Kd.R_base ho0)) (Kd.R_base ho1)) (fun _ h_ => h_.1)); replace HO454 := am (Kd.R_mono (Kd.R_told (Kd.R_told (Kd.R_old (rf HO454 BK459) hb) (Kd.R_base ho0)) (Kd.R_base ho1)) (fun _ h_ => h_.1)); have HO474 := am (Kd.R_lower (Kd.R_new' ho2 (Kd.R_lt (rf HO457 BK459))) (below_size (xB HB))); replace HO457 := am (Kd.R_elder' (rf HO457 BK459) (Kd.R_base ho2) hb); replace BK459 := kP (.cells #[.int .i64 t443, .string t444, .string t445, .int .i64 t446, .int .i64 t447, .int .i64 t448, .slice Ao9 t449.length co9, .slice Ao10 t452.length co10, .slice Ao11 t455.length co11] 29 (0, 0)) BK459 hb; replace HB := kH HB hb; (try clear hb); (try clear ho0); (try clear ho1); (try clear ho2)) | (refine bE 5 #[.int .i64 0, .string (⟨#[]⟩ : ByteArray), .string (⟨#[]⟩ : ByteArray), .int .i64 0, .int .i64 0, .int .i64 0, .slice none 0 0, .slice none 0 0, .slice none 0 0] 29 ?_; (try (clear hzq_ BQ_; obtain ⟨hW_⟩ := hW_; subst hW_)); intro gb476 hg w13 hbox hb; replace HO451 := rk HO451 hb; replace HO454 := rk HO454 hb; replace HO457 := rk HO457 hb; replace HO468 := rk HO468 hb; replace HO471 := rk HO471 hb; replace HO474 := rk HO474 hb; have BK476 := am (hbox); have GW476 := zB hg HB; have GE476 := zB hg HB; replace HB := kH HB hb; have NB459_476 := nl hg (kb BK459); have NB476_459 := ng hg (kb BK459); replace BK459 := kP _ BK459 hb; clear hb hbox hg; have hnb14 := NB476_459.out; have hnc14 := NB459_476.out; have hz15 := bc9 BK476; obtain ⟨Ao16, co16, eo16⟩ := Kd.R_slice HO468.out; subst eo16; obtain ⟨Ao17, co17, eo17⟩ := Kd.R_slice HO471.out; subst eo17; obtain ⟨Ao18, co18, eo18⟩ := Kd.R_slice HO474.out; subst eo18) | (refine store_event (t := 29) (p := 5) (v := ?vo_) (w1 := ?wo_) ?hg ?ho ?hn ?hr ?_; (case ho => rfl); (case hg => rfl); (case hn => rfl); (case hr => go_simp; rfl); intro wq_ hW_; (first | (have BQ_ := kF (.cells #[.int .i64 t460, .string t461, .string t462, .int .i64 t463, .int .i64 t464, .int .i64 t465, .slice Ao16 t466.length co16, .slice Ao17 t469.length co17, .slice Ao18 t472.length co18] 29 (0, 0)) BK476 hW_; have hzq_ := bc9 BQ_) | (have BQ_ := am hW_; have hzq_ := am hW_)); replace hW_ := am hW_))
 (try simp only [Act.put, sa, s0, s1])
 (try (clear hzq_ BQ_; obtain ⟨hW_⟩ := hW_; subst hW_))
 go_cut [32] (fun v32 wc => ∃ (kq : Nat) (x32_4 : Bool), v32 = .bool x32_4 ∧ Aside0 (laws_FnExactPaidGet.j0 kq a0 t458 x32_4 t443 t444 t445 t446 t447 t448 t449 t452 t455 t460 t461 t462 t463 t464 t465 t466 t469 t472 = some r) ∧ Aside0 (kq ≤ k) ∧ Aside0 (Kd.R k93 93 wc w.heap.size (fun k_ => some k_ ≠ ((.slice Ao10 t452.length co10) : Value).ownBlock ∧ some k_ ≠ ((.slice Ao16 t466.length co16) : Value).ownBlock ∧ some k_ ≠ ((.slice Ao17 t469.length co17) : Value).ownBlock) (.slice Ao9 t449.length co9) t449) ∧ Aside0 (Kd.R k93 93 wc w.heap.size (fun k_ => some k_ ≠ ((.slice Ao9 t449.length co9) : Value).ownBlock ∧ some k_ ≠ ((.slice Ao16 t466.length co16) : Value).ownBlock ∧ some k_ ≠ ((.slice Ao17 t469.length co17) : Value).ownBlock) (.slice Ao10 t452.length co10) t452) ∧ Aside0 (Kd.R k85 85 wc w.heap.size (fun k_ => some k_ ≠ ((.slice Ao18 t472.length co18) : Value).ownBlock) (.slice Ao11 t455.length co11) t455) ∧ Aside0 (Kd.R k93 93 wc w.heap.size (fun k_ => some k_ ≠ ((.slice Ao9 t449.length co9) : Value).ownBlock ∧ some k_ ≠ ((.slice Ao10 t452.length co10) : Value).ownBlock ∧ some k_ ≠ ((.slice Ao17 t469.length co17) : Value).ownBlock) (.slice Ao16 t466.length co16) t466) ∧ Aside0 (Kd.R k93 93 wc w.heap.size (fun k_ => some k_ ≠ ((.slice Ao9 t449.length co9) : Value).ownBlock ∧ some k_ ≠ ((.slice Ao10 t452.length co10) : Value).ownBlock ∧ some k_ ≠ ((.slice Ao16 t466.length co16) : Value).ownBlock) (.slice Ao17 t469.length co17) t469) ∧ Aside0 (Kd.R k85 85 wc w.heap.size (fun k_ => some k_ ≠ ((.slice Ao11 t455.length co11) : Value).ownBlock) (.slice Ao18 t472.length co18) t472) ∧ Aside0 (wc.heap[gb459]? = some (.cells #[.int .i64 t443, .string t444, .string t445, .int .i64 t446, .int .i64 t447, .int .i64 t448, (.slice Ao9 t449.length co9), (.slice Ao10 t452.length co10), (.slice Ao11 t455.length co11)] 29 (0, 0))) ∧ Aside0 (wc.heap[gb476]? = some (.cells #[.int .i64 t460, .string t461, .string t462, .int .i64 t463, .int .i64 t464, .int .i64 t465, (.slice Ao16 t466.length co16), (.slice Ao17 t469.length co17), (.slice Ao18 t472.length co18)] 29 (0, 0))) ∧ Aside0 (Below w.heap.size w wc))
 case first =>
  have H := HC5.out
  clear HC5
  replace H := oa H
  obtain ⟨t477, A19, H⟩ := H
  by_cases c20 : t477 = true
  ·subst c20
   rw [if_pos rfl] at H
   have H' := Aside0.mk H
   clear H
   have hnb21 := NB476_459.out
   have hnc21 := NB459_476.out
   (first | have hz22 := bc9 (kF _ BK476 hW_.out) | have hz22 := bc9 BK476)
   (first | have hz23 := bc9 (kF _ BK459 hW_.out) | have hz23 := bc9 BK459)
   go_wp2_with ((with_reducible refine gg ?_); refine gL 26 Tryd.func10 #[.agg #[.int .i64 t460, .string t461, .string t462, .int .i64 t463, .int .i64 t464, .int .i64 t465, .slice Ao16 t466.length co16, .slice Ao17 t469.length co17, .slice Ao18 t472.length co18], .agg #[.int .i64 t443, .string t444, .string t445, .int .i64 t446, .int .i64 t447, .int .i64 t448, .slice Ao9 t449.length co9, .slice Ao10 t452.length co10, .slice Ao11 t455.length co11]] ?_; (try (clear hzq_ BQ_; obtain ⟨hW_⟩ := hW_; subst hW_)); (with_reducible refine (laws_eqPaid.calls k t460 t461 t462 t463 t464 t465 _ _ t466 _ _ t469 _ _ t472 t443 t444 t445 t446 t447 t448 _ _ t449 _ _ t452 _ _ t455 true _ ?side1 ?side2 ?side3 ?side4 ?side5 ?side6 ?side7 ?side8 ?side9 ?side10 ?side11 ?side12 A19.out).mono ?_); (case side1 => exact (Kd.R_reads' (rf HO468 BK476)).2.2); (case side2 => exact (Kd.R_reads' HO468.out).2.1); (case side3 => exact (Kd.R_reads' (rf HO471 BK476)).2.2); (case side4 => exact (Kd.R_reads' HO471.out).2.1); (case side5 => exact (Kd.R_reads' (rf HO474 BK476)).2.2); (case side6 => exact (Kd.R_reads' HO474.out).2.1); (case side7 => exact (Kd.R_reads' (rf HO451 BK476)).2.2); (case side8 => exact (Kd.R_reads' HO451.out).2.1); (case side9 => exact (Kd.R_reads' (rf HO454 BK476)).2.2); (case side10 => exact (Kd.R_reads' HO454.out).2.1); (case side11 => exact (Kd.R_reads' (rf HO457 BK476)).2.2); (case side12 => exact (Kd.R_reads' HO457.out).2.1); rintro e w24 ⟨rfl, hb⟩; refine ⟨_, rfl, ?_⟩; replace HO451 := am (Kd.R_below (rf HO451 BK476) hb); replace HO454 := am (Kd.R_below (rf HO454 BK476) hb); replace HO457 := am (Kd.R_below (rf HO457 BK476) hb); replace HO468 := am (Kd.R_below (rf HO468 BK476) hb); replace HO471 := am (Kd.R_below (rf HO471 BK476) hb); replace HO474 := am (Kd.R_below (rf HO474 BK476) hb); replace BK459 := kP _ BK459 hb; replace BK476 := kP (.cells #[.int .i64 t460, .string t461, .string t462, .int .i64 t463, .int .i64 t464, .int .i64 t465, .slice Ao16 t466.length co16, .slice Ao17 t469.length co17, .slice Ao18 t472.length co18] 29 (0, 0)) BK476 hb; replace HB := kH HB hb; (try clear hb))
   (try (clear hzq_ BQ_; obtain ⟨hW_⟩ := hW_; subst hW_))
   go_meet
   case rel => exact ⟨_, ((t475 != t458)), xR, H', ⟨xO⟩, ⟨rM HO451 (fun _ hk => ⟨hk.1.1, ⟨hk.1.2, hk.2⟩⟩)⟩, ⟨rM HO454 (fun _ hk => ⟨hk.1.1, ⟨hk.1.2, hk.2⟩⟩)⟩, ⟨rM HO457 (fun _ hk => hk.2)⟩, ⟨rM HO468 (fun _ hk => ⟨hk.1.2, ⟨hk.2, hk.1.1⟩⟩)⟩, ⟨rM HO471 (fun _ hk => ⟨hk.1.2, ⟨hk.2, hk.1.1⟩⟩)⟩, ⟨rM HO474 (fun _ hk => hk.2)⟩, ⟨kb BK459⟩, ⟨kb BK476⟩, ⟨xB HB⟩⟩
  replace c20 := Bool.eq_false_iff.mpr c20
  subst c20
  rw [if_neg (show ¬ (false = true) by decide)] at H
  have H' := Aside0.mk H
  clear H
  have hnb25 := NB476_459.out
  have hnc25 := NB459_476.out
  (first | have hz26 := bc9 (kF _ BK476 hW_.out) | have hz26 := bc9 BK476)
  (first | have hz27 := bc9 (kF _ BK459 hW_.out) | have hz27 := bc9 BK459)
  go_wp2_with ((with_reducible refine gg ?_); refine gL 26 Tryd.func10 #[.agg #[.int .i64 t460, .string t461, .string t462, .int .i64 t463, .int .i64 t464, .int .i64 t465, .slice Ao16 t466.length co16, .slice Ao17 t469.length co17, .slice Ao18 t472.length co18], .agg #[.int .i64 t443, .string t444, .string t445, .int .i64 t446, .int .i64 t447, .int .i64 t448, .slice Ao9 t449.length co9, .slice Ao10 t452.length co10, .slice Ao11 t455.length co11]] ?_; (try (clear hzq_ BQ_; obtain ⟨hW_⟩ := hW_; subst hW_)); (with_reducible refine (laws_eqPaid.calls k t460 t461 t462 t463 t464 t465 _ _ t466 _ _ t469 _ _ t472 t443 t444 t445 t446 t447 t448 _ _ t449 _ _ t452 _ _ t455 false _ ?side1 ?side2 ?side3 ?side4 ?side5 ?side6 ?side7 ?side8 ?side9 ?side10 ?side11 ?side12 A19.out).mono ?_); (case side1 => exact (Kd.R_reads' (rf HO468 BK476)).2.2); (case side2 => exact (Kd.R_reads' HO468.out).2.1); (case side3 => exact (Kd.R_reads' (rf HO471 BK476)).2.2); (case side4 => exact (Kd.R_reads' HO471.out).2.1); (case side5 => exact (Kd.R_reads' (rf HO474 BK476)).2.2); (case side6 => exact (Kd.R_reads' HO474.out).2.1); (case side7 => exact (Kd.R_reads' (rf HO451 BK476)).2.2); (case side8 => exact (Kd.R_reads' HO451.out).2.1); (case side9 => exact (Kd.R_reads' (rf HO454 BK476)).2.2); (case side10 => exact (Kd.R_reads' HO454.out).2.1); (case side11 => exact (Kd.R_reads' (rf HO457 BK476)).2.2); (case side12 => exact (Kd.R_reads' HO457.out).2.1); rintro e w28 ⟨rfl, hb⟩; refine ⟨_, rfl, ?_⟩; replace HO451 := am (Kd.R_below (rf HO451 BK476) hb); replace HO454 := am (Kd.R_below (rf HO454 BK476) hb); replace HO457 := am (Kd.R_below (rf HO457 BK476) hb); replace HO468 := am (Kd.R_below (rf HO468 BK476) hb); replace HO471 := am (Kd.R_below (rf HO471 BK476) hb); replace HO474 := am (Kd.R_below (rf HO474 BK476) hb); replace BK459 := kP _ BK459 hb; replace BK476 := kP (.cells #[.int .i64 t460, .string t461, .string t462, .int .i64 t463, .int .i64 t464, .int .i64 t465, .slice Ao16 t466.length co16, .slice Ao17 t469.length co17, .slice Ao18 t472.length co18] 29 (0, 0)) BK476 hb; replace HB := kH HB hb; (try clear hb))
  (try (clear hzq_ BQ_; obtain ⟨hW_⟩ := hW_; subst hW_))
  go_meet
  case rel => exact ⟨_, (true), xR, H', ⟨xO⟩, ⟨rM HO451 (fun _ hk => ⟨hk.1.1, ⟨hk.1.2, hk.2⟩⟩)⟩, ⟨rM HO454 (fun _ hk => ⟨hk.1.1, ⟨hk.1.2, hk.2⟩⟩)⟩, ⟨rM HO457 (fun _ hk => hk.2)⟩, ⟨rM HO468 (fun _ hk => ⟨hk.1.2, ⟨hk.2, hk.1.1⟩⟩)⟩, ⟨rM HO471 (fun _ hk => ⟨hk.1.2, ⟨hk.2, hk.1.1⟩⟩)⟩, ⟨rM HO474 (fun _ hk => hk.2)⟩, ⟨kb BK459⟩, ⟨kb BK476⟩, ⟨xB HB⟩⟩
 case rest =>
  clear HC5
  try clear c1
  try clear c2
  try clear c2b0
  try clear c2b1
  try clear p2
  try clear c3
  try clear c8
  try clear c9
  try clear c10
  try clear c14
  try clear c20
  try clear c21
  try clear c25
  try clear hz15
  try clear hz22
  try clear hz23
  try clear hz26
  try clear hz27
  try clear hz8
  obtain ⟨kq, x32_4, rfl, HA, HJ4, HO_460006, HO_460007, HO_460008, HO_477006, HO_477007, HO_477008, BK459, BK476, HB⟩ := hcut
  cases kq with
  | zero => exact absurd HA.out (by simp [laws_FnExactPaidGet.j0])
  | succ kj4 =>
   have H := HA.out
   clear HA
   simp only [laws_FnExactPaidGet.j0] at H
   by_cases c29 : x32_4 = true
   ·subst c29
    rw [if_pos rfl] at H
    obtain rfl := Option.some.inj H
    go_wp2
    (try (clear hzq_ BQ_; obtain ⟨hW_⟩ := hW_; subst hW_))
    go_ret
    exact ⟨xE, xB HB⟩
   replace c29 := Bool.eq_false_iff.mpr c29
   subst c29
   rw [if_neg (show ¬ (false = true) by decide)] at H
   replace H := Option.bind_eq_some_iff.mp H
   obtain ⟨⟨t478, t479, t480, t481⟩, A300, H⟩ := H
   have A30 := Aside0.mk A300
   clear A300
   replace H := oa H
   obtain ⟨t482, A31, H⟩ := H
   by_cases c32 : t482 < 0
   ·rw [if_pos c32] at H
    have c32b0 := decide_eq_true c32
    clear c32
    obtain rfl := Option.some.inj H
    have hnb33 := NB476_459.out
    have hnc33 := NB459_476.out
    (first | have hz34 := bc9 (kF _ BK476 hW_.out) | have hz34 := bc9 BK476)
    go_wp2_with (first | ((with_reducible refine gg ?_); refine gL 35 Tryd.func11 #[.agg #[.int .i64 t460, .string t461, .string t462, .int .i64 t463, .int .i64 t464, .int .i64 t465, .slice Ao16 t466.length co16, .slice Ao17 t469.length co17, .slice Ao18 t472.length co18], .int .i64 1] ?_; (try (clear hzq_ BQ_; obtain ⟨hW_⟩ := hW_; subst hW_)); (with_reducible refine (laws_markPaid.calls kj4 t460 t461 t462 t463 t464 t465 (fun k_ => some k_ = (.slice Ao16 t466.length co16 : Value).ownBlock) (.slice Ao16 t466.length co16) t466 (fun k_ => some k_ = (.slice Ao17 t469.length co17 : Value).ownBlock) (.slice Ao17 t469.length co17) t469 (fun k_ => some k_ = (.slice Ao18 t472.length co18 : Value).ownBlock) (.slice Ao18 t472.length co18) t472 1 t478 t479 t480 t481 w _ ?side1 ?side2 ?side3 ?side4 ?side5 ?side6 A30.out).mono ?_); (case side1 => exact xB HB); (case side2 => exact Kd.R_tight rfl HO_477006.out); (case side3 => exact fun k_ e_ => (HO_477006.out.1 k_ e_.symm).2.2); (case side4 => exact Kd.R_tight rfl HO_477007.out); (case side5 => exact fun k_ e_ => (HO_477007.out.1 k_ e_.symm).2.2); (case side6 => exact Kd.R_tight rfl HO_477008.out); rintro e w35 ⟨rfl, hy0, hy1, hy2, hb, hkp⟩; refine ⟨_, rfl, ?_⟩; replace HO_460006 := am (Kd.R_mono (ok' := fun k_ => some k_ ≠ (.slice Ao10 t452.length co10 : Value).ownBlock ∧ some k_ ≠ (.slice Ao16 t466.length co16 : Value).ownBlock ∧ some k_ ≠ (.slice Ao17 t469.length co17 : Value).ownBlock) (Kd.R_keptB ((Kd.R_apart' HO_460006.out (Kd.R_typed HO_477008.out) (by decide))) hkp (fun k_ hk_ hs_ => Or.elim hs_ (fun e_ => (hk_.1.2.1) e_) (fun e_ => Or.elim e_ (fun e_ => (hk_.1.2.2) e_) (fun e_ => (hk_.2) e_)))) (fun k_ hk_ => ⟨hk_.1.1.1, hk_.1.1.2.1, hk_.1.1.2.2⟩)); replace HO_460007 := am (Kd.R_mono (ok' := fun k_ => some k_ ≠ (.slice Ao9 t449.length co9 : Value).ownBlock ∧ some k_ ≠ (.slice Ao16 t466.length co16 : Value).ownBlock ∧ some k_ ≠ (.slice Ao17 t469.length co17 : Value).ownBlock) (Kd.R_keptB ((Kd.R_apart' HO_460007.out (Kd.R_typed HO_477008.out) (by decide))) hkp (fun k_ hk_ hs_ => Or.elim hs_ (fun e_ => (hk_.1.2.1) e_) (fun e_ => Or.elim e_ (fun e_ => (hk_.1.2.2) e_) (fun e_ => (hk_.2) e_)))) (fun k_ hk_ => ⟨hk_.1.1.1, hk_.1.1.2.1, hk_.1.1.2.2⟩)); replace HO_460008 := am (Kd.R_mono (ok' := fun k_ => some k_ ≠ (.slice Ao18 t472.length co18 : Value).ownBlock) (Kd.R_keptB ((Kd.R_apart' (Kd.R_apart' HO_460008.out (Kd.R_typed HO_477006.out) (by decide)) (Kd.R_typed HO_477007.out) (by decide))) hkp (fun k_ hk_ hs_ => Or.elim hs_ (fun e_ => (hk_.1.2) e_) (fun e_ => Or.elim e_ (fun e_ => (hk_.2) e_) (fun e_ => (hk_.1.1) e_)))) (fun k_ hk_ => hk_.1.1.1)); replace BK459 := am (blk_kept (kb BK459) hkp (fun hs_ => Or.elim hs_ (fun e_ => (fun e_ => (Kd.R_ne HO_477006.out BK459.out (by decide)) e_) e_) (fun e_ => Or.elim e_ (fun e_ => (fun e_ => (Kd.R_ne HO_477007.out BK459.out (by decide)) e_) e_) (fun e_ => (fun e_ => (Kd.R_ne HO_477008.out BK459.out (by decide)) e_) e_)))); replace BK476 := am (blk_kept (kb BK476) hkp (fun hs_ => Or.elim hs_ (fun e_ => (fun e_ => (Kd.R_ne HO_477006.out BK476.out (by decide)) e_) e_) (fun e_ => Or.elim e_ (fun e_ => (fun e_ => (Kd.R_ne HO_477007.out BK476.out (by decide)) e_) e_) (fun e_ => (fun e_ => (Kd.R_ne HO_477008.out BK476.out (by decide)) e_) e_)))); replace HO_477006 := am (Kd.R_reok rfl hy0 (fun k_ e_ => HO_477006.out.1 k_ e_)); replace HO_477007 := am (Kd.R_reok rfl hy1 (fun k_ e_ => HO_477007.out.1 k_ e_)); replace HO_477008 := am (Kd.R_reok rfl hy2 (fun k_ e_ => HO_477008.out.1 k_ e_)); replace HB := am (hb); (try clear hb); (try clear hkp); (try clear hy0); (try clear hy1); (try clear hy2); have hz36 := bc9 BK476) | ((with_reducible refine gate_callee (f := 12) rfl ?_); refine goesL_ (some 38) rfl rfl Tryd.func12 (by kernel_rfl) rfl #[.agg #[.int .i64 t460, .string t461, .string t462, .int .i64 t463, .int .i64 t464, .int .i64 t465, .slice Ao16 t479.length co16, .slice Ao17 t480.length co17, .slice Ao18 t481.length co18], .int .i64 1] rfl (by (try simp only [List.map_toArray, List.map_cons, List.map_nil]); first | done | (rw [show t479.length = t466.length from (Kd.R_reads' HO_477006.out).1.symm, show t480.length = t469.length from (Kd.R_reads' HO_477007.out).1.symm, show t481.length = t472.length from (Kd.R_reads' HO_477008.out).1.symm] <;> rfl) | rfl | (simp only [List.length_drop, List.length_take]; rfl)) ?_; (try (clear hzq_ BQ_; obtain ⟨hW_⟩ := hW_; subst hW_)); (with_reducible refine (laws_heldPaid.calls kj4 t460 t461 t462 t463 t464 t465 _ _ t479 _ _ t480 _ _ t481 1 t482 _ ?side1 ?side2 ?side3 ?side4 ?side5 ?side6 A31.out).mono ?_); (case side1 => exact cr (Kd.R_reads' HO_477006.out).2.2); (case side2 => rw [show t479.length = t466.length from (Kd.R_reads' HO_477006.out).1.symm]; exact (Kd.R_reads' HO_477006.out).2.1); (case side3 => exact cr (Kd.R_reads' HO_477007.out).2.2); (case side4 => rw [show t480.length = t469.length from (Kd.R_reads' HO_477007.out).1.symm]; exact (Kd.R_reads' HO_477007.out).2.1); (case side5 => exact cr (Kd.R_reads' HO_477008.out).2.2); (case side6 => rw [show t481.length = t472.length from (Kd.R_reads' HO_477008.out).1.symm]; exact (Kd.R_reads' HO_477008.out).2.1); rintro e w37 ⟨rfl, hb⟩; refine ⟨_, rfl, ?_⟩; replace HO_460006 := rk HO_460006 hb; replace HO_460007 := rk HO_460007 hb; replace HO_460008 := rk HO_460008 hb; replace HO_477006 := rk HO_477006 hb; replace HO_477007 := rk HO_477007 hb; replace HO_477008 := rk HO_477008 hb; replace BK459 := kP _ BK459 hb; replace BK476 := kP _ BK476 hb; replace HB := kH HB hb; (try clear hb)))
    (try (clear hzq_ BQ_; obtain ⟨hW_⟩ := hW_; subst hW_))
    go_ret
    exact ⟨xE, xB HB⟩
   rw [if_neg c32] at H
   have c32b0 := decide_eq_false c32
   clear c32
   by_cases c38 : t482 = t478
   rotate_left
   ·rw [if_neg c38] at H
    have c38b0 := beq_eq_false_iff_ne.mpr c38
    have c38b1 := bne_iff_ne.mpr c38
    obtain rfl := Option.some.inj H
    have hnb84 := NB476_459.out
    have hnc84 := NB459_476.out
    (first | have hz85 := bc9 (kF _ BK476 hW_.out) | have hz85 := bc9 BK476)
    go_wp2_with (first | ((with_reducible refine gg ?_); refine gL 35 Tryd.func11 #[.agg #[.int .i64 t460, .string t461, .string t462, .int .i64 t463, .int .i64 t464, .int .i64 t465, .slice Ao16 t466.length co16, .slice Ao17 t469.length co17, .slice Ao18 t472.length co18], .int .i64 1] ?_; (try (clear hzq_ BQ_; obtain ⟨hW_⟩ := hW_; subst hW_)); (with_reducible refine (laws_markPaid.calls kj4 t460 t461 t462 t463 t464 t465 (fun k_ => some k_ = (.slice Ao16 t466.length co16 : Value).ownBlock) (.slice Ao16 t466.length co16) t466 (fun k_ => some k_ = (.slice Ao17 t469.length co17 : Value).ownBlock) (.slice Ao17 t469.length co17) t469 (fun k_ => some k_ = (.slice Ao18 t472.length co18 : Value).ownBlock) (.slice Ao18 t472.length co18) t472 1 t478 t479 t480 t481 w _ ?side1 ?side2 ?side3 ?side4 ?side5 ?side6 A30.out).mono ?_); (case side1 => exact xB HB); (case side2 => exact Kd.R_tight rfl HO_477006.out); (case side3 => exact fun k_ e_ => (HO_477006.out.1 k_ e_.symm).2.2); (case side4 => exact Kd.R_tight rfl HO_477007.out); (case side5 => exact fun k_ e_ => (HO_477007.out.1 k_ e_.symm).2.2); (case side6 => exact Kd.R_tight rfl HO_477008.out); rintro e w86 ⟨rfl, hy0, hy1, hy2, hb, hkp⟩; refine ⟨_, rfl, ?_⟩; replace HO_460006 := am (Kd.R_mono (ok' := fun k_ => some k_ ≠ (.slice Ao10 t452.length co10 : Value).ownBlock ∧ some k_ ≠ (.slice Ao16 t466.length co16 : Value).ownBlock ∧ some k_ ≠ (.slice Ao17 t469.length co17 : Value).ownBlock) (Kd.R_keptB ((Kd.R_apart' HO_460006.out (Kd.R_typed HO_477008.out) (by decide))) hkp (fun k_ hk_ hs_ => Or.elim hs_ (fun e_ => (hk_.1.2.1) e_) (fun e_ => Or.elim e_ (fun e_ => (hk_.1.2.2) e_) (fun e_ => (hk_.2) e_)))) (fun k_ hk_ => ⟨hk_.1.1.1, hk_.1.1.2.1, hk_.1.1.2.2⟩)); replace HO_460007 := am (Kd.R_mono (ok' := fun k_ => some k_ ≠ (.slice Ao9 t449.length co9 : Value).ownBlock ∧ some k_ ≠ (.slice Ao16 t466.length co16 : Value).ownBlock ∧ some k_ ≠ (.slice Ao17 t469.length co17 : Value).ownBlock) (Kd.R_keptB ((Kd.R_apart' HO_460007.out (Kd.R_typed HO_477008.out) (by decide))) hkp (fun k_ hk_ hs_ => Or.elim hs_ (fun e_ => (hk_.1.2.1) e_) (fun e_ => Or.elim e_ (fun e_ => (hk_.1.2.2) e_) (fun e_ => (hk_.2) e_)))) (fun k_ hk_ => ⟨hk_.1.1.1, hk_.1.1.2.1, hk_.1.1.2.2⟩)); replace HO_460008 := am (Kd.R_mono (ok' := fun k_ => some k_ ≠ (.slice Ao18 t472.length co18 : Value).ownBlock) (Kd.R_keptB ((Kd.R_apart' (Kd.R_apart' HO_460008.out (Kd.R_typed HO_477006.out) (by decide)) (Kd.R_typed HO_477007.out) (by decide))) hkp (fun k_ hk_ hs_ => Or.elim hs_ (fun e_ => (hk_.1.2) e_) (fun e_ => Or.elim e_ (fun e_ => (hk_.2) e_) (fun e_ => (hk_.1.1) e_)))) (fun k_ hk_ => hk_.1.1.1)); replace BK459 := am (blk_kept (kb BK459) hkp (fun hs_ => Or.elim hs_ (fun e_ => (fun e_ => (Kd.R_ne HO_477006.out BK459.out (by decide)) e_) e_) (fun e_ => Or.elim e_ (fun e_ => (fun e_ => (Kd.R_ne HO_477007.out BK459.out (by decide)) e_) e_) (fun e_ => (fun e_ => (Kd.R_ne HO_477008.out BK459.out (by decide)) e_) e_)))); replace BK476 := am (blk_kept (kb BK476) hkp (fun hs_ => Or.elim hs_ (fun e_ => (fun e_ => (Kd.R_ne HO_477006.out BK476.out (by decide)) e_) e_) (fun e_ => Or.elim e_ (fun e_ => (fun e_ => (Kd.R_ne HO_477007.out BK476.out (by decide)) e_) e_) (fun e_ => (fun e_ => (Kd.R_ne HO_477008.out BK476.out (by decide)) e_) e_)))); replace HO_477006 := am (Kd.R_reok rfl hy0 (fun k_ e_ => HO_477006.out.1 k_ e_)); replace HO_477007 := am (Kd.R_reok rfl hy1 (fun k_ e_ => HO_477007.out.1 k_ e_)); replace HO_477008 := am (Kd.R_reok rfl hy2 (fun k_ e_ => HO_477008.out.1 k_ e_)); replace HB := am (hb); (try clear hb); (try clear hkp); (try clear hy0); (try clear hy1); (try clear hy2); have hz87 := bc9 BK476) | ((with_reducible refine gate_callee (f := 12) rfl ?_); refine goesL_ (some 38) rfl rfl Tryd.func12 (by kernel_rfl) rfl #[.agg #[.int .i64 t460, .string t461, .string t462, .int .i64 t463, .int .i64 t464, .int .i64 t465, .slice Ao16 t479.length co16, .slice Ao17 t480.length co17, .slice Ao18 t481.length co18], .int .i64 1] rfl (by (try simp only [List.map_toArray, List.map_cons, List.map_nil]); first | done | (rw [show t479.length = t466.length from (Kd.R_reads' HO_477006.out).1.symm, show t480.length = t469.length from (Kd.R_reads' HO_477007.out).1.symm, show t481.length = t472.length from (Kd.R_reads' HO_477008.out).1.symm] <;> rfl) | rfl | (simp only [List.length_drop, List.length_take]; rfl)) ?_; (try (clear hzq_ BQ_; obtain ⟨hW_⟩ := hW_; subst hW_)); (with_reducible refine (laws_heldPaid.calls kj4 t460 t461 t462 t463 t464 t465 _ _ t479 _ _ t480 _ _ t481 1 t482 _ ?side1 ?side2 ?side3 ?side4 ?side5 ?side6 A31.out).mono ?_); (case side1 => exact cr (Kd.R_reads' HO_477006.out).2.2); (case side2 => rw [show t479.length = t466.length from (Kd.R_reads' HO_477006.out).1.symm]; exact (Kd.R_reads' HO_477006.out).2.1); (case side3 => exact cr (Kd.R_reads' HO_477007.out).2.2); (case side4 => rw [show t480.length = t469.length from (Kd.R_reads' HO_477007.out).1.symm]; exact (Kd.R_reads' HO_477007.out).2.1); (case side5 => exact cr (Kd.R_reads' HO_477008.out).2.2); (case side6 => rw [show t481.length = t472.length from (Kd.R_reads' HO_477008.out).1.symm]; exact (Kd.R_reads' HO_477008.out).2.1); rintro e w88 ⟨rfl, hb⟩; refine ⟨_, rfl, ?_⟩; replace HO_460006 := rk HO_460006 hb; replace HO_460007 := rk HO_460007 hb; replace HO_460008 := rk HO_460008 hb; replace HO_477006 := rk HO_477006 hb; replace HO_477007 := rk HO_477007 hb; replace HO_477008 := rk HO_477008 hb; replace BK459 := kP _ BK459 hb; replace BK476 := kP _ BK476 hb; replace HB := kH HB hb; (try clear hb)))
    (try (clear hzq_ BQ_; obtain ⟨hW_⟩ := hW_; subst hW_))
    go_ret
    exact ⟨xE, xB HB⟩
   rw [if_pos c38] at H
   have c38b0 := beq_iff_eq.mpr c38
   have c38b1 := bne_eq_false_iff_eq.mpr c38
   clear c38
   replace H := Option.bind_eq_some_iff.mp H
   obtain ⟨⟨t483, t484, t485, t486, t487, t488, t489, t492, t495, t498⟩, A390, H⟩ := H
   have A39 := Aside0.mk A390
   clear A390
   have HC40 := Aside0.mk H
   clear H
   have hnb41 := NB476_459.out
   have hnc41 := NB459_476.out
   (first | have hz42 := bc9 (kF _ BK476 hW_.out) | have hz42 := bc9 BK476)
   go_upto_region 16 with (first | ((with_reducible refine gg ?_); refine gL 35 Tryd.func11 #[.agg #[.int .i64 t460, .string t461, .string t462, .int .i64 t463, .int .i64 t464, .int .i64 t465, .slice Ao16 t466.length co16, .slice Ao17 t469.length co17, .slice Ao18 t472.length co18], .int .i64 1] ?_; (try (clear hzq_ BQ_; obtain ⟨hW_⟩ := hW_; subst hW_)); (with_reducible refine (laws_markPaid.calls kj4 t460 t461 t462 t463 t464 t465 (fun k_ => some k_ = (.slice Ao16 t466.length co16 : Value).ownBlock) (.slice Ao16 t466.length co16) t466 (fun k_ => some k_ = (.slice Ao17 t469.length co17 : Value).ownBlock) (.slice Ao17 t469.length co17) t469 (fun k_ => some k_ = (.slice Ao18 t472.length co18 : Value).ownBlock) (.slice Ao18 t472.length co18) t472 1 t478 t479 t480 t481 w _ ?side1 ?side2 ?side3 ?side4 ?side5 ?side6 A30.out).mono ?_); (case side1 => exact xB HB); (case side2 => exact Kd.R_tight rfl HO_477006.out); (case side3 => exact fun k_ e_ => (HO_477006.out.1 k_ e_.symm).2.2); (case side4 => exact Kd.R_tight rfl HO_477007.out); (case side5 => exact fun k_ e_ => (HO_477007.out.1 k_ e_.symm).2.2); (case side6 => exact Kd.R_tight rfl HO_477008.out); rintro e w43 ⟨rfl, hy0, hy1, hy2, hb, hkp⟩; refine ⟨_, rfl, ?_⟩; replace HO_460006 := am (Kd.R_mono (ok' := fun k_ => some k_ ≠ (.slice Ao10 t452.length co10 : Value).ownBlock ∧ some k_ ≠ (.slice Ao16 t466.length co16 : Value).ownBlock ∧ some k_ ≠ (.slice Ao17 t469.length co17 : Value).ownBlock) (Kd.R_keptB ((Kd.R_apart' HO_460006.out (Kd.R_typed HO_477008.out) (by decide))) hkp (fun k_ hk_ hs_ => Or.elim hs_ (fun e_ => (hk_.1.2.1) e_) (fun e_ => Or.elim e_ (fun e_ => (hk_.1.2.2) e_) (fun e_ => (hk_.2) e_)))) (fun k_ hk_ => ⟨hk_.1.1.1, hk_.1.1.2.1, hk_.1.1.2.2⟩)); replace HO_460007 := am (Kd.R_mono (ok' := fun k_ => some k_ ≠ (.slice Ao9 t449.length co9 : Value).ownBlock ∧ some k_ ≠ (.slice Ao16 t466.length co16 : Value).ownBlock ∧ some k_ ≠ (.slice Ao17 t469.length co17 : Value).ownBlock) (Kd.R_keptB ((Kd.R_apart' HO_460007.out (Kd.R_typed HO_477008.out) (by decide))) hkp (fun k_ hk_ hs_ => Or.elim hs_ (fun e_ => (hk_.1.2.1) e_) (fun e_ => Or.elim e_ (fun e_ => (hk_.1.2.2) e_) (fun e_ => (hk_.2) e_)))) (fun k_ hk_ => ⟨hk_.1.1.1, hk_.1.1.2.1, hk_.1.1.2.2⟩)); replace HO_460008 := am (Kd.R_mono (ok' := fun k_ => some k_ ≠ (.slice Ao18 t472.length co18 : Value).ownBlock) (Kd.R_keptB ((Kd.R_apart' (Kd.R_apart' HO_460008.out (Kd.R_typed HO_477006.out) (by decide)) (Kd.R_typed HO_477007.out) (by decide))) hkp (fun k_ hk_ hs_ => Or.elim hs_ (fun e_ => (hk_.1.2) e_) (fun e_ => Or.elim e_ (fun e_ => (hk_.2) e_) (fun e_ => (hk_.1.1) e_)))) (fun k_ hk_ => hk_.1.1.1)); replace BK459 := am (blk_kept (kb BK459) hkp (fun hs_ => Or.elim hs_ (fun e_ => (fun e_ => (Kd.R_ne HO_477006.out BK459.out (by decide)) e_) e_) (fun e_ => Or.elim e_ (fun e_ => (fun e_ => (Kd.R_ne HO_477007.out BK459.out (by decide)) e_) e_) (fun e_ => (fun e_ => (Kd.R_ne HO_477008.out BK459.out (by decide)) e_) e_)))); replace BK476 := am (blk_kept (kb BK476) hkp (fun hs_ => Or.elim hs_ (fun e_ => (fun e_ => (Kd.R_ne HO_477006.out BK476.out (by decide)) e_) e_) (fun e_ => Or.elim e_ (fun e_ => (fun e_ => (Kd.R_ne HO_477007.out BK476.out (by decide)) e_) e_) (fun e_ => (fun e_ => (Kd.R_ne HO_477008.out BK476.out (by decide)) e_) e_)))); replace HO_477006 := am (Kd.R_reok rfl hy0 (fun k_ e_ => HO_477006.out.1 k_ e_)); replace HO_477007 := am (Kd.R_reok rfl hy1 (fun k_ e_ => HO_477007.out.1 k_ e_)); replace HO_477008 := am (Kd.R_reok rfl hy2 (fun k_ e_ => HO_477008.out.1 k_ e_)); replace HB := am (hb); (try clear hb); (try clear hkp); (try clear hy0); (try clear hy1); (try clear hy2); have hz44 := bc9 BK476) | ((with_reducible refine gate_callee (f := 12) rfl ?_); refine goesL_ (some 38) rfl rfl Tryd.func12 (by kernel_rfl) rfl #[.agg #[.int .i64 t460, .string t461, .string t462, .int .i64 t463, .int .i64 t464, .int .i64 t465, .slice Ao16 t479.length co16, .slice Ao17 t480.length co17, .slice Ao18 t481.length co18], .int .i64 1] rfl (by (try simp only [List.map_toArray, List.map_cons, List.map_nil]); first | done | (rw [show t479.length = t466.length from (Kd.R_reads' HO_477006.out).1.symm, show t480.length = t469.length from (Kd.R_reads' HO_477007.out).1.symm, show t481.length = t472.length from (Kd.R_reads' HO_477008.out).1.symm] <;> rfl) | rfl | (simp only [List.length_drop, List.length_take]; rfl)) ?_; (try (clear hzq_ BQ_; obtain ⟨hW_⟩ := hW_; subst hW_)); (with_reducible refine (laws_heldPaid.calls kj4 t460 t461 t462 t463 t464 t465 _ _ t479 _ _ t480 _ _ t481 1 t482 _ ?side1 ?side2 ?side3 ?side4 ?side5 ?side6 A31.out).mono ?_); (case side1 => exact cr (Kd.R_reads' HO_477006.out).2.2); (case side2 => rw [show t479.length = t466.length from (Kd.R_reads' HO_477006.out).1.symm]; exact (Kd.R_reads' HO_477006.out).2.1); (case side3 => exact cr (Kd.R_reads' HO_477007.out).2.2); (case side4 => rw [show t480.length = t469.length from (Kd.R_reads' HO_477007.out).1.symm]; exact (Kd.R_reads' HO_477007.out).2.1); (case side5 => exact cr (Kd.R_reads' HO_477008.out).2.2); (case side6 => rw [show t481.length = t472.length from (Kd.R_reads' HO_477008.out).1.symm]; exact (Kd.R_reads' HO_477008.out).2.1); rintro e w45 ⟨rfl, hb⟩; refine ⟨_, rfl, ?_⟩; replace HO_460006 := rk HO_460006 hb; replace HO_460007 := rk HO_460007 hb; replace HO_460008 := rk HO_460008 hb; replace HO_477006 := rk HO_477006 hb; replace HO_477007 := rk HO_477007 hb; replace HO_477008 := rk HO_477008 hb; replace BK459 := kP _ BK459 hb; replace BK476 := kP _ BK476 hb; replace HB := kH HB hb; (try clear hb)) | ((with_reducible refine gg ?_); first | (refine gL 46 Tryd.func9 #[.string a0] ?_; (try (clear hzq_ BQ_; obtain ⟨hW_⟩ := hW_; subst hW_)); (with_reducible refine (impl_PaidGet.calls kj4 a0 t483 t484 t485 t486 t487 t488 t489 t492 t495 t498 _ A39.out (Aside0.mk (Sh.hasM_of PQM_ (xB HB))) (Aside0.mk (Sh.hasT_of PQT_ (xB HB)))).mono ?_); rintro e w46 ⟨v490, v493, v496, rfl, ho0, ho1, ho2, hb⟩; refine ⟨_, rfl, ?_⟩; have HO491 := am (Kd.R_lower (Kd.R_new' (Kd.R_new' (Kd.R_new' (Kd.R_new' ho0 (Kd.R_lt (ra HO_460006))) (Kd.R_lt (ra HO_460007))) (Kd.R_lt (ra HO_477006))) (Kd.R_lt (ra HO_477007))) (below_size (xB HB))); have HO494 := am (Kd.R_lower (Kd.R_new' (Kd.R_new' (Kd.R_new' (Kd.R_new' ho1 (Kd.R_lt (ra HO_460006))) (Kd.R_lt (ra HO_460007))) (Kd.R_lt (ra HO_477006))) (Kd.R_lt (ra HO_477007))) (below_size (xB HB))); replace HO_460006 := am (Kd.R_mono (Kd.R_told (Kd.R_told (Kd.R_old (ra HO_460006) hb) (Kd.R_base ho0)) (Kd.R_base ho1)) (fun _ h_ => h_.1)); replace HO_460007 := am (Kd.R_mono (Kd.R_told (Kd.R_told (Kd.R_old (ra HO_460007) hb) (Kd.R_base ho0)) (Kd.R_base ho1)) (fun _ h_ => h_.1)); replace HO_477006 := am (Kd.R_mono (Kd.R_told (Kd.R_told (Kd.R_old (ra HO_477006) hb) (Kd.R_base ho0)) (Kd.R_base ho1)) (fun _ h_ => h_.1)); replace HO_477007 := am (Kd.R_mono (Kd.R_told (Kd.R_told (Kd.R_old (ra HO_477007) hb) (Kd.R_base ho0)) (Kd.R_base ho1)) (fun _ h_ => h_.1)); have HO497 := am (Kd.R_lower (Kd.R_new' (Kd.R_new' ho2 (Kd.R_lt (ra HO_460008))) (Kd.R_lt (ra HO_477008))) (below_size (xB HB))); replace HO_460008 := am (Kd.R_elder' (ra HO_460008) (Kd.R_base ho2) hb); replace HO_477008 := am (Kd.R_elder' (ra HO_477008) (Kd.R_base ho2) hb); replace BK459 := kP _ BK459 hb; replace BK476 := kP _ BK476 hb; replace HB := kH HB hb; (try clear hb); (try clear ho0); (try clear ho1); (try clear ho2)) | (refine bE 9 #[.int .i64 0, .string (⟨#[]⟩ : ByteArray), .string (⟨#[]⟩ : ByteArray), .int .i64 0, .int .i64 0, .int .i64 0, .slice none 0 0, .slice none 0 0, .slice none 0 0] 29 ?_; (try (clear hzq_ BQ_; obtain ⟨hW_⟩ := hW_; subst hW_)); intro gb499 hg w47 hbox hb; replace HO_460006 := rk HO_460006 hb; replace HO_460007 := rk HO_460007 hb; replace HO_460008 := rk HO_460008 hb; replace HO_477006 := rk HO_477006 hb; replace HO_477007 := rk HO_477007 hb; replace HO_477008 := rk HO_477008 hb; replace HO491 := rk HO491 hb; replace HO494 := rk HO494 hb; replace HO497 := rk HO497 hb; have BK499 := am (hbox); have GW499 := zB hg HB; have GE499 := zB hg HB; replace HB := kH HB hb; have NB459_499 := nl hg (kb BK459); have NB499_459 := ng hg (kb BK459); replace BK459 := kP _ BK459 hb; have NB476_499 := nl hg (kb BK476); have NB499_476 := ng hg (kb BK476); replace BK476 := kP _ BK476 hb; clear hb hbox hg; have hnb48 := NB499_459.out; have hnc48 := NB459_499.out; have hnb49 := NB499_476.out; have hnc49 := NB476_499.out; have hz50 := bc9 BK499; obtain ⟨Ao51, co51, eo51⟩ := Kd.R_slice HO491.out; subst eo51; obtain ⟨Ao52, co52, eo52⟩ := Kd.R_slice HO494.out; subst eo52; obtain ⟨Ao53, co53, eo53⟩ := Kd.R_slice HO497.out; subst eo53) | (refine store_event (t := 29) (p := 9) (v := ?vo_) (w1 := ?wo_) ?hg ?ho ?hn ?hr ?_; (case ho => rfl); (case hg => rfl); (case hn => rfl); (case hr => go_simp; rfl); intro wq_ hW_; (first | (have BQ_ := kF (.cells #[.int .i64 t483, .string t484, .string t485, .int .i64 t486, .int .i64 t487, .int .i64 t488, .slice Ao51 t489.length co51, .slice Ao52 t492.length co52, .slice Ao53 t495.length co53] 29 (0, 0)) BK499 hW_; have hzq_ := bc9 BQ_) | (have BQ_ := am hW_; have hzq_ := am hW_)); replace hW_ := am hW_)))
   (try simp only [Act.put, sa, s0, s1])
   (try (clear hzq_ BQ_; obtain ⟨hW_⟩ := hW_; subst hW_))
   go_cut [57] (fun v57 wc => ∃ (kq : Nat) (x57_39 : Bool), v57 = .bool x57_39 ∧ Aside0 (laws_FnExactPaidGet.j1 kq t478 x57_39 t460 t461 t462 t463 t464 t465 t479 t480 t481 = some r) ∧ Aside0 (kq ≤ kj4) ∧ Aside0 (Kd.R k93 93 wc w.heap.size (fun k_ => some k_ ≠ ((.slice Ao10 t452.length co10) : Value).ownBlock ∧ some k_ ≠ ((.slice Ao16 t466.length co16) : Value).ownBlock ∧ some k_ ≠ ((.slice Ao17 t469.length co17) : Value).ownBlock ∧ some k_ ≠ ((.slice Ao51 t489.length co51) : Value).ownBlock ∧ some k_ ≠ ((.slice Ao52 t492.length co52) : Value).ownBlock) (.slice Ao9 t449.length co9) t449) ∧ Aside0 (Kd.R k93 93 wc w.heap.size (fun k_ => some k_ ≠ ((.slice Ao9 t449.length co9) : Value).ownBlock ∧ some k_ ≠ ((.slice Ao16 t466.length co16) : Value).ownBlock ∧ some k_ ≠ ((.slice Ao17 t469.length co17) : Value).ownBlock ∧ some k_ ≠ ((.slice Ao51 t489.length co51) : Value).ownBlock ∧ some k_ ≠ ((.slice Ao52 t492.length co52) : Value).ownBlock) (.slice Ao10 t452.length co10) t452) ∧ Aside0 (Kd.R k85 85 wc w.heap.size (fun k_ => some k_ ≠ ((.slice Ao18 t472.length co18) : Value).ownBlock ∧ some k_ ≠ ((.slice Ao53 t495.length co53) : Value).ownBlock) (.slice Ao11 t455.length co11) t455) ∧ Aside0 (Kd.R k93 93 wc w.heap.size (fun k_ => some k_ ≠ ((.slice Ao9 t449.length co9) : Value).ownBlock ∧ some k_ ≠ ((.slice Ao10 t452.length co10) : Value).ownBlock ∧ some k_ ≠ ((.slice Ao17 t469.length co17) : Value).ownBlock ∧ some k_ ≠ ((.slice Ao51 t489.length co51) : Value).ownBlock ∧ some k_ ≠ ((.slice Ao52 t492.length co52) : Value).ownBlock) (.slice Ao16 t466.length co16) t479) ∧ Aside0 (Kd.R k93 93 wc w.heap.size (fun k_ => some k_ ≠ ((.slice Ao9 t449.length co9) : Value).ownBlock ∧ some k_ ≠ ((.slice Ao10 t452.length co10) : Value).ownBlock ∧ some k_ ≠ ((.slice Ao16 t466.length co16) : Value).ownBlock ∧ some k_ ≠ ((.slice Ao51 t489.length co51) : Value).ownBlock ∧ some k_ ≠ ((.slice Ao52 t492.length co52) : Value).ownBlock) (.slice Ao17 t469.length co17) t480) ∧ Aside0 (Kd.R k85 85 wc w.heap.size (fun k_ => some k_ ≠ ((.slice Ao11 t455.length co11) : Value).ownBlock ∧ some k_ ≠ ((.slice Ao53 t495.length co53) : Value).ownBlock) (.slice Ao18 t472.length co18) t481) ∧ Aside0 (Kd.R k93 93 wc w.heap.size (fun k_ => some k_ ≠ ((.slice Ao9 t449.length co9) : Value).ownBlock ∧ some k_ ≠ ((.slice Ao10 t452.length co10) : Value).ownBlock ∧ some k_ ≠ ((.slice Ao16 t466.length co16) : Value).ownBlock ∧ some k_ ≠ ((.slice Ao17 t469.length co17) : Value).ownBlock ∧ some k_ ≠ ((.slice Ao52 t492.length co52) : Value).ownBlock) (.slice Ao51 t489.length co51) t489) ∧ Aside0 (Kd.R k93 93 wc w.heap.size (fun k_ => some k_ ≠ ((.slice Ao9 t449.length co9) : Value).ownBlock ∧ some k_ ≠ ((.slice Ao10 t452.length co10) : Value).ownBlock ∧ some k_ ≠ ((.slice Ao16 t466.length co16) : Value).ownBlock ∧ some k_ ≠ ((.slice Ao17 t469.length co17) : Value).ownBlock ∧ some k_ ≠ ((.slice Ao51 t489.length co51) : Value).ownBlock) (.slice Ao52 t492.length co52) t492) ∧ Aside0 (Kd.R k85 85 wc w.heap.size (fun k_ => some k_ ≠ ((.slice Ao11 t455.length co11) : Value).ownBlock ∧ some k_ ≠ ((.slice Ao18 t472.length co18) : Value).ownBlock) (.slice Ao53 t495.length co53) t495) ∧ Aside0 (wc.heap[gb459]? = some (.cells #[.int .i64 t443, .string t444, .string t445, .int .i64 t446, .int .i64 t447, .int .i64 t448, (.slice Ao9 t449.length co9), (.slice Ao10 t452.length co10), (.slice Ao11 t455.length co11)] 29 (0, 0))) ∧ Aside0 (wc.heap[gb476]? = some (.cells #[.int .i64 t460, .string t461, .string t462, .int .i64 t463, .int .i64 t464, .int .i64 t465, (.slice Ao16 t466.length co16), (.slice Ao17 t469.length co17), (.slice Ao18 t472.length co18)] 29 (0, 0))) ∧ Aside0 (wc.heap[gb499]? = some (.cells #[.int .i64 t483, .string t484, .string t485, .int .i64 t486, .int .i64 t487, .int .i64 t488, (.slice Ao51 t489.length co51), (.slice Ao52 t492.length co52), (.slice Ao53 t495.length co53)] 29 (0, 0))) ∧ Aside0 (Below w.heap.size w wc))
   case first =>
    have H := HC40.out
    clear HC40
    replace H := oa H
    obtain ⟨t500, A54, H⟩ := H
    have hnb56 := NB499_459.out
    have hnc56 := NB459_499.out
    have hnb57 := NB499_476.out
    have hnc57 := NB476_499.out
    (first | have hz58 := bc9 (kF _ BK499 hW_.out) | have hz58 := bc9 BK499)
    have hnb59 := NB459_476.out
    have hnc59 := NB476_459.out
    (first | have hz60 := bc9 (kF _ BK459 hW_.out) | have hz60 := bc9 BK459)
    by_cases c55 : t500 = true
    ·subst c55
     rw [if_pos rfl] at H
     have H' := Aside0.mk H
     clear H
     go_wp2_with ((with_reducible refine gg ?_); refine gL 51 Tryd.func10 #[.agg #[.int .i64 t483, .string t484, .string t485, .int .i64 t486, .int .i64 t487, .int .i64 t488, .slice Ao51 t489.length co51, .slice Ao52 t492.length co52, .slice Ao53 t495.length co53], .agg #[.int .i64 t443, .string t444, .string t445, .int .i64 t446, .int .i64 t447, .int .i64 t448, .slice Ao9 t449.length co9, .slice Ao10 t452.length co10, .slice Ao11 t455.length co11]] ?_; (try (clear hzq_ BQ_; obtain ⟨hW_⟩ := hW_; subst hW_)); (with_reducible refine (laws_eqPaid.calls kj4 t483 t484 t485 t486 t487 t488 _ _ t489 _ _ t492 _ _ t495 t443 t444 t445 t446 t447 t448 _ _ t449 _ _ t452 _ _ t455 true _ ?side1 ?side2 ?side3 ?side4 ?side5 ?side6 ?side7 ?side8 ?side9 ?side10 ?side11 ?side12 A54.out).mono ?_); (case side1 => exact (Kd.R_reads' (rf HO491 BK499)).2.2); (case side2 => exact (Kd.R_reads' HO491.out).2.1); (case side3 => exact (Kd.R_reads' (rf HO494 BK499)).2.2); (case side4 => exact (Kd.R_reads' HO494.out).2.1); (case side5 => exact (Kd.R_reads' (rf HO497 BK499)).2.2); (case side6 => exact (Kd.R_reads' HO497.out).2.1); (case side7 => exact (Kd.R_reads' (rf HO_460006 BK499)).2.2); (case side8 => exact (Kd.R_reads' HO_460006.out).2.1); (case side9 => exact (Kd.R_reads' (rf HO_460007 BK499)).2.2); (case side10 => exact (Kd.R_reads' HO_460007.out).2.1); (case side11 => exact (Kd.R_reads' (rf HO_460008 BK499)).2.2); (case side12 => exact (Kd.R_reads' HO_460008.out).2.1); rintro e w61 ⟨rfl, hb⟩; refine ⟨_, rfl, ?_⟩; replace HO_460006 := am (Kd.R_below (rf HO_460006 BK499) hb); replace HO_460007 := am (Kd.R_below (rf HO_460007 BK499) hb); replace HO_460008 := am (Kd.R_below (rf HO_460008 BK499) hb); replace HO_477006 := am (Kd.R_below (rf HO_477006 BK499) hb); replace HO_477007 := am (Kd.R_below (rf HO_477007 BK499) hb); replace HO_477008 := am (Kd.R_below (rf HO_477008 BK499) hb); replace HO491 := am (Kd.R_below (rf HO491 BK499) hb); replace HO494 := am (Kd.R_below (rf HO494 BK499) hb); replace HO497 := am (Kd.R_below (rf HO497 BK499) hb); replace BK459 := kP _ BK459 hb; replace BK476 := kP _ BK476 hb; replace BK499 := kP (.cells #[.int .i64 t483, .string t484, .string t485, .int .i64 t486, .int .i64 t487, .int .i64 t488, .slice Ao51 t489.length co51, .slice Ao52 t492.length co52, .slice Ao53 t495.length co53] 29 (0, 0)) BK499 hb; replace HB := kH HB hb; (try clear hb))
     (try (clear hzq_ BQ_; obtain ⟨hW_⟩ := hW_; subst hW_))
     go_meet
     case rel => exact ⟨_, ((t498 != t458)), xR, H', ⟨by have := HJ4.out; first | omega | exact Nat.le_refl _⟩, ⟨rM HO_460006 (fun _ hk => ⟨hk.1.1.1, ⟨hk.1.1.2.1, ⟨hk.1.1.2.2, ⟨hk.1.2, hk.2⟩⟩⟩⟩)⟩, ⟨rM HO_460007 (fun _ hk => ⟨hk.1.1.1, ⟨hk.1.1.2.1, ⟨hk.1.1.2.2, ⟨hk.1.2, hk.2⟩⟩⟩⟩)⟩, ⟨ra HO_460008⟩, ⟨rM HO_477006 (fun _ hk => ⟨hk.1.1.1, ⟨hk.1.1.2.1, ⟨hk.1.1.2.2, ⟨hk.1.2, hk.2⟩⟩⟩⟩)⟩, ⟨rM HO_477007 (fun _ hk => ⟨hk.1.1.1, ⟨hk.1.1.2.1, ⟨hk.1.1.2.2, ⟨hk.1.2, hk.2⟩⟩⟩⟩)⟩, ⟨ra HO_477008⟩, ⟨rM HO491 (fun _ hk => ⟨hk.1.1.1.2, ⟨hk.1.1.2, ⟨hk.1.2, ⟨hk.2, hk.1.1.1.1⟩⟩⟩⟩)⟩, ⟨rM HO494 (fun _ hk => ⟨hk.1.1.1.2, ⟨hk.1.1.2, ⟨hk.1.2, ⟨hk.2, hk.1.1.1.1⟩⟩⟩⟩)⟩, ⟨rM HO497 (fun _ hk => ⟨hk.1.2, hk.2⟩)⟩, ⟨kb BK459⟩, ⟨kb BK476⟩, ⟨kb BK499⟩, ⟨xB HB⟩⟩
    replace c55 := Bool.eq_false_iff.mpr c55
    subst c55
    rw [if_neg (show ¬ (false = true) by decide)] at H
    have H' := Aside0.mk H
    clear H
    go_wp2_with ((with_reducible refine gg ?_); refine gL 51 Tryd.func10 #[.agg #[.int .i64 t483, .string t484, .string t485, .int .i64 t486, .int .i64 t487, .int .i64 t488, .slice Ao51 t489.length co51, .slice Ao52 t492.length co52, .slice Ao53 t495.length co53], .agg #[.int .i64 t443, .string t444, .string t445, .int .i64 t446, .int .i64 t447, .int .i64 t448, .slice Ao9 t449.length co9, .slice Ao10 t452.length co10, .slice Ao11 t455.length co11]] ?_; (try (clear hzq_ BQ_; obtain ⟨hW_⟩ := hW_; subst hW_)); (with_reducible refine (laws_eqPaid.calls kj4 t483 t484 t485 t486 t487 t488 _ _ t489 _ _ t492 _ _ t495 t443 t444 t445 t446 t447 t448 _ _ t449 _ _ t452 _ _ t455 false _ ?side1 ?side2 ?side3 ?side4 ?side5 ?side6 ?side7 ?side8 ?side9 ?side10 ?side11 ?side12 A54.out).mono ?_); (case side1 => exact (Kd.R_reads' (rf HO491 BK499)).2.2); (case side2 => exact (Kd.R_reads' HO491.out).2.1); (case side3 => exact (Kd.R_reads' (rf HO494 BK499)).2.2); (case side4 => exact (Kd.R_reads' HO494.out).2.1); (case side5 => exact (Kd.R_reads' (rf HO497 BK499)).2.2); (case side6 => exact (Kd.R_reads' HO497.out).2.1); (case side7 => exact (Kd.R_reads' (rf HO_460006 BK499)).2.2); (case side8 => exact (Kd.R_reads' HO_460006.out).2.1); (case side9 => exact (Kd.R_reads' (rf HO_460007 BK499)).2.2); (case side10 => exact (Kd.R_reads' HO_460007.out).2.1); (case side11 => exact (Kd.R_reads' (rf HO_460008 BK499)).2.2); (case side12 => exact (Kd.R_reads' HO_460008.out).2.1); rintro e w67 ⟨rfl, hb⟩; refine ⟨_, rfl, ?_⟩; replace HO_460006 := am (Kd.R_below (rf HO_460006 BK499) hb); replace HO_460007 := am (Kd.R_below (rf HO_460007 BK499) hb); replace HO_460008 := am (Kd.R_below (rf HO_460008 BK499) hb); replace HO_477006 := am (Kd.R_below (rf HO_477006 BK499) hb); replace HO_477007 := am (Kd.R_below (rf HO_477007 BK499) hb); replace HO_477008 := am (Kd.R_below (rf HO_477008 BK499) hb); replace HO491 := am (Kd.R_below (rf HO491 BK499) hb); replace HO494 := am (Kd.R_below (rf HO494 BK499) hb); replace HO497 := am (Kd.R_below (rf HO497 BK499) hb); replace BK459 := kP _ BK459 hb; replace BK476 := kP _ BK476 hb; replace BK499 := kP (.cells #[.int .i64 t483, .string t484, .string t485, .int .i64 t486, .int .i64 t487, .int .i64 t488, .slice Ao51 t489.length co51, .slice Ao52 t492.length co52, .slice Ao53 t495.length co53] 29 (0, 0)) BK499 hb; replace HB := kH HB hb; (try clear hb))
    (try (clear hzq_ BQ_; obtain ⟨hW_⟩ := hW_; subst hW_))
    go_meet
    case rel => exact ⟨_, (true), xR, H', ⟨by have := HJ4.out; first | omega | exact Nat.le_refl _⟩, ⟨rM HO_460006 (fun _ hk => ⟨hk.1.1.1, ⟨hk.1.1.2.1, ⟨hk.1.1.2.2, ⟨hk.1.2, hk.2⟩⟩⟩⟩)⟩, ⟨rM HO_460007 (fun _ hk => ⟨hk.1.1.1, ⟨hk.1.1.2.1, ⟨hk.1.1.2.2, ⟨hk.1.2, hk.2⟩⟩⟩⟩)⟩, ⟨ra HO_460008⟩, ⟨rM HO_477006 (fun _ hk => ⟨hk.1.1.1, ⟨hk.1.1.2.1, ⟨hk.1.1.2.2, ⟨hk.1.2, hk.2⟩⟩⟩⟩)⟩, ⟨rM HO_477007 (fun _ hk => ⟨hk.1.1.1, ⟨hk.1.1.2.1, ⟨hk.1.1.2.2, ⟨hk.1.2, hk.2⟩⟩⟩⟩)⟩, ⟨ra HO_477008⟩, ⟨rM HO491 (fun _ hk => ⟨hk.1.1.1.2, ⟨hk.1.1.2, ⟨hk.1.2, ⟨hk.2, hk.1.1.1.1⟩⟩⟩⟩)⟩, ⟨rM HO494 (fun _ hk => ⟨hk.1.1.1.2, ⟨hk.1.1.2, ⟨hk.1.2, ⟨hk.2, hk.1.1.1.1⟩⟩⟩⟩)⟩, ⟨rM HO497 (fun _ hk => ⟨hk.1.2, hk.2⟩)⟩, ⟨kb BK459⟩, ⟨kb BK476⟩, ⟨kb BK499⟩, ⟨xB HB⟩⟩
   case rest =>
    clear HC40
    try clear c1
    try clear c2
    try clear c2b0
    try clear c2b1
    try clear p2
    try clear c3
    try clear c4
    try clear c5
    try clear c6
    try clear c8
    try clear c9
    try clear c10
    try clear c11
    try clear c12
    try clear c14
    try clear c20
    try clear c21
    try clear c25
    try clear c29
    try clear c32
    try clear c32b0
    try clear c33
    try clear c38
    try clear c38b0
    try clear c38b1
    try clear c41
    try clear c48
    try clear c49
    try clear c55
    try clear c56
    try clear c57
    try clear c59
    try clear c62
    try clear c63
    try clear c65
    try clear hz15
    try clear hz22
    try clear hz23
    try clear hz26
    try clear hz27
    try clear hz34
    try clear hz36
    try clear hz42
    try clear hz44
    try clear hz50
    try clear hz58
    try clear hz60
    try clear hz64
    try clear hz66
    try clear hz8
    try clear p2
    obtain ⟨kq, x57_39, rfl, HA, HJ39, HO_460006, HO_460007, HO_460008, HO_477006, HO_477007, HO_477008, HO_500006, HO_500007, HO_500008, BK459, BK476, BK499, HB⟩ := hcut
    have hl477006_39 := (Kd.R_reads' HO_477006.out).1
    rw [hl477006_39] at HO_477006
    (try simp only [hl477006_39])
    (try simp only [hl477006_39] at BK459)
    (try simp only [hl477006_39] at BK476)
    (try simp only [hl477006_39] at BK499)
    (try simp only [hl477006_39] at HO_460006)
    (try simp only [hl477006_39] at HO_460007)
    (try simp only [hl477006_39] at HO_460008)
    (try simp only [hl477006_39] at HO_477007)
    (try simp only [hl477006_39] at HO_477008)
    (try simp only [hl477006_39] at HO_500006)
    (try simp only [hl477006_39] at HO_500007)
    (try simp only [hl477006_39] at HO_500008)
    have hl477007_39 := (Kd.R_reads' HO_477007.out).1
    rw [hl477007_39] at HO_477007
    (try simp only [hl477007_39])
    (try simp only [hl477007_39] at BK459)
    (try simp only [hl477007_39] at BK476)
    (try simp only [hl477007_39] at BK499)
    (try simp only [hl477007_39] at HO_460006)
    (try simp only [hl477007_39] at HO_460007)
    (try simp only [hl477007_39] at HO_460008)
    (try simp only [hl477007_39] at HO_477006)
    (try simp only [hl477007_39] at HO_477008)
    (try simp only [hl477007_39] at HO_500006)
    (try simp only [hl477007_39] at HO_500007)
    (try simp only [hl477007_39] at HO_500008)
    have hl477008_39 := (Kd.R_reads' HO_477008.out).1
    rw [hl477008_39] at HO_477008
    (try simp only [hl477008_39])
    (try simp only [hl477008_39] at BK459)
    (try simp only [hl477008_39] at BK476)
    (try simp only [hl477008_39] at BK499)
    (try simp only [hl477008_39] at HO_460006)
    (try simp only [hl477008_39] at HO_460007)
    (try simp only [hl477008_39] at HO_460008)
    (try simp only [hl477008_39] at HO_477006)
    (try simp only [hl477008_39] at HO_477007)
    (try simp only [hl477008_39] at HO_500006)
    (try simp only [hl477008_39] at HO_500007)
    (try simp only [hl477008_39] at HO_500008)
    cases kq with
    | zero => exact absurd HA.out (by simp [laws_FnExactPaidGet.j1])
    | succ kj39 =>
     have H := HA.out
     clear HA
     simp only [laws_FnExactPaidGet.j1] at H
     by_cases c68 : x57_39 = true
     ·subst c68
      rw [if_pos rfl] at H
      obtain rfl := Option.some.inj H
      go_wp2
      (try (clear hzq_ BQ_; obtain ⟨hW_⟩ := hW_; subst hW_))
      go_ret
      exact ⟨xE, xB HB⟩
     replace c68 := Bool.eq_false_iff.mpr c68
     subst c68
     rw [if_neg (show ¬ (false = true) by decide)] at H
     replace H := oa H
     obtain ⟨t501, A69, H⟩ := H
     have hnb71 := NB476_459.out
     have hnc71 := NB459_476.out
     have hnb72 := NB476_499.out
     have hnc72 := NB499_476.out
     (first | have hz73 := bc9 (kF _ BK476 hW_.out) | have hz73 := bc9 BK476)
     go_upto_if 62 with ((with_reducible refine gg ?_); refine gL 60 Tryd.func12 #[.agg #[.int .i64 t460, .string t461, .string t462, .int .i64 t463, .int .i64 t464, .int .i64 t465, .slice Ao16 t479.length co16, .slice Ao17 t480.length co17, .slice Ao18 t481.length co18], .int .i64 1] ?_; (try (clear hzq_ BQ_; obtain ⟨hW_⟩ := hW_; subst hW_)); (with_reducible refine (laws_heldPaid.calls kj39 t460 t461 t462 t463 t464 t465 _ _ t479 _ _ t480 _ _ t481 1 t501 _ ?side1 ?side2 ?side3 ?side4 ?side5 ?side6 A69.out).mono ?_); (case side1 => exact cr (Kd.R_reads' HO_477006.out).2.2); (case side2 => exact (Kd.R_reads' HO_477006.out).2.1); (case side3 => exact cr (Kd.R_reads' HO_477007.out).2.2); (case side4 => exact (Kd.R_reads' HO_477007.out).2.1); (case side5 => exact cr (Kd.R_reads' HO_477008.out).2.2); (case side6 => exact (Kd.R_reads' HO_477008.out).2.1); rintro e w74 ⟨rfl, hb⟩; refine ⟨_, rfl, ?_⟩; replace HO_460006 := rk HO_460006 hb; replace HO_460007 := rk HO_460007 hb; replace HO_460008 := rk HO_460008 hb; replace HO_477006 := rk HO_477006 hb; replace HO_477007 := rk HO_477007 hb; replace HO_477008 := rk HO_477008 hb; replace HO_500006 := rk HO_500006 hb; replace HO_500007 := rk HO_500007 hb; replace HO_500008 := rk HO_500008 hb; replace BK459 := kP _ BK459 hb; replace BK476 := kP _ BK476 hb; replace BK499 := kP _ BK499 hb; replace HB := kH HB hb; (try clear hb))
     by_cases c70 : t501 < 0
     ·rw [if_pos c70] at H
      have c70b0 := decide_eq_true c70
      try simp only [c70b0, Bool.not_true, Bool.not_false]
      clear c70
      obtain rfl := Option.some.inj H
      go_wp2
      (try (clear hzq_ BQ_; obtain ⟨hW_⟩ := hW_; subst hW_))
      go_ret
      exact ⟨xE, xB HB⟩
     rw [if_neg c70] at H
     have c70b0 := decide_eq_false c70
     try simp only [c70b0, Bool.not_true, Bool.not_false]
     clear c70
     by_cases c75 : t501 = t478
     rotate_left
     ·rw [if_neg c75] at H
      have c75b0 := beq_eq_false_iff_ne.mpr c75
      have c75b1 := bne_iff_ne.mpr c75
      obtain rfl := Option.some.inj H
      go_wp2
      (try (clear hzq_ BQ_; obtain ⟨hW_⟩ := hW_; subst hW_))
      go_ret
      exact ⟨xE, xB HB⟩
     rw [if_pos c75] at H
     have c75b0 := beq_iff_eq.mpr c75
     have c75b1 := bne_eq_false_iff_eq.mpr c75
     clear c75
     obtain rfl := Option.some.inj H
     go_wp2
     (try (clear hzq_ BQ_; obtain ⟨hW_⟩ := hW_; subst hW_))
     go_ret
     exact ⟨xE, xB HB⟩
/-- THE ONE PURE STATEMENT of laws_FnExactPaidGet: yours. -/
def laws_FnExactPaidGet.Pure : Prop := ∀ (a0 : ByteArray), a0.size ≤ 140737488351232 → ∃ k, laws_FnExactPaidGet.f k a0 = some true
theorem laws_FnExactPaidGet.walk (P : laws_FnExactPaidGet.Pure) (a0 : ByteArray) (w : World) (w0 : a0.size ≤ 140737488351232) (PQM_ : Aside0 (Sh.HasM w)) (PQT_ : Aside0 (Sh.HasT w)) :
  Calls Tryd.prog 3 #[.string a0] w fun e w' => e = .returned (.bool true) ∧ Below w.heap.size w w' := by
 obtain ⟨k, h⟩ := P a0 w0
 refine (laws_FnExactPaidGet.calls k a0 true w h PQM_ PQT_).mono ?_
 rintro e w' ⟨rfl, hd⟩
 exact ⟨rfl, hd⟩
end Go.Proofs.YtgjljbaadglpnaaDoor.PFnExactPaidGet
