/- Functions of the program and what each answers: the kit's print, shortened (wip/press2.py). -/
import Derived.Test.YtgjljbaadglpnaaGreatDoorPFnPaidGetx0
import Derived.Test.YtgjljbaadglpnaaGreatDoorPFnPaidGetx9
import Derived.Test.YtgjljbaadglpnaaGreatDoorPFnPaidGetx11
import Derived.Test.YtgjljbaadglpnaaGreatDoorPFnPaidGetx14
import Derived.Test.YtgjljbaadglpnaaGreatDoorPFnPaidGetx33
import Derived.Test.YtgjljbaadglpnaaGreatDoorPFnPaidGetx34
namespace Go.Proofs.YtgjljbaadglpnaaGreatDoor.PFnPaidGet
open Go.Proofs.YtgjljbaadglpnaaGreatDoor.Sq Go.RowKit Go.Proofs.YtgjljbaadglpnaaGreatDoorW.PrintWords Go.Proofs.YtgjljbaadglpnaaGreatDoorW.PrintLast Go.Proofs.YtgjljbaadglpnaaGreatDoorW.PrintMore
open Kd
set_option linter.unusedVariables false
set_option linter.unusedSimpArgs false
set_option maxHeartbeats 64000000
set_option maxRecDepth 100000
def laws_FnPaidGet.j0 : Nat → ByteArray → Bool → Bool → Bool → Int → ByteArray → ByteArray → Int → Int → Int → List S93 → List S93 → List S48 → Int → ByteArray → ByteArray → Int → Int → Int → List S93 → List S93 → List S48 → Option (Bool)
 | 0, _, _, _, _, _, _, _, _, _, _, _, _, _, _, _, _, _, _, _, _, _, _ => none
 | k + 1, x3, x5, x7, x35, x840000, x840001, x840002, x840003, x840004, x840005, x840006, x840007, x840008, x857000, x857001, x857002, x857003, x857004, x857005, x857006, x857007, x857008 => if x35 = true then (if (x5 == x7) = true then ((laws_coPaid.f k x840000 x840001 x840002 x840003 x840004 x840005 x840006 x840007 x840008 x857000 x857001 x857002 x857003 x857004 x857005 x857006 x857007 x857008).bind fun t858 => (some t858)) else (some false)) else ((impl_PaidPut.f k x840000 x840001 x840002 x840003 x840004 x840005 x840006 x840007 x840008).bind fun t859 => (some (t859.toList == x3.toList)))
def laws_FnPaidGet.f (k : Nat) (l0 : List Int) : Option (Bool) := if (l0.length : Int) > 1048576 then (some true) else ((spec_DrawPaidGet.f k l0).bind fun t822 => ((impl_PaidGet.f k t822).bind fun bt823 => ((spec_PaidGet.f k t822).bind fun bt840 => (if (bt823.2.2.2.2.2.2.2.2.2 != bt840.2.2.2.2.2.2.2.2.2) = true then (laws_FnPaidGet.j0 k t822 bt823.2.2.2.2.2.2.2.2.2 bt840.2.2.2.2.2.2.2.2.2 true bt823.1 bt823.2.1 bt823.2.2.1 bt823.2.2.2.1 bt823.2.2.2.2.1 bt823.2.2.2.2.2.1 bt823.2.2.2.2.2.2.1 bt823.2.2.2.2.2.2.2.1 bt823.2.2.2.2.2.2.2.2.1 bt840.1 bt840.2.1 bt840.2.2.1 bt840.2.2.2.1 bt840.2.2.2.2.1 bt840.2.2.2.2.2.1 bt840.2.2.2.2.2.2.1 bt840.2.2.2.2.2.2.2.1 bt840.2.2.2.2.2.2.2.2.1) else ((laws_coPaid.f k bt823.1 bt823.2.1 bt823.2.2.1 bt823.2.2.2.1 bt823.2.2.2.2.1 bt823.2.2.2.2.2.1 bt823.2.2.2.2.2.2.1 bt823.2.2.2.2.2.2.2.1 bt823.2.2.2.2.2.2.2.2.1 bt840.1 bt840.2.1 bt840.2.2.1 bt840.2.2.2.1 bt840.2.2.2.2.1 bt840.2.2.2.2.2.1 bt840.2.2.2.2.2.2.1 bt840.2.2.2.2.2.2.2.1 bt840.2.2.2.2.2.2.2.2.1).bind fun t857 => (if t857 = true then (laws_FnPaidGet.j0 k t822 bt823.2.2.2.2.2.2.2.2.2 bt840.2.2.2.2.2.2.2.2.2 (!bt823.2.2.2.2.2.2.2.2.2) bt823.1 bt823.2.1 bt823.2.2.1 bt823.2.2.2.1 bt823.2.2.2.2.1 bt823.2.2.2.2.2.1 bt823.2.2.2.2.2.2.1 bt823.2.2.2.2.2.2.2.1 bt823.2.2.2.2.2.2.2.2.1 bt840.1 bt840.2.1 bt840.2.2.1 bt840.2.2.2.1 bt840.2.2.2.2.1 bt840.2.2.2.2.2.1 bt840.2.2.2.2.2.2.1 bt840.2.2.2.2.2.2.2.1 bt840.2.2.2.2.2.2.2.2.1) else (laws_FnPaidGet.j0 k t822 bt823.2.2.2.2.2.2.2.2.2 bt840.2.2.2.2.2.2.2.2.2 true bt823.1 bt823.2.1 bt823.2.2.1 bt823.2.2.2.1 bt823.2.2.2.2.1 bt823.2.2.2.2.2.1 bt823.2.2.2.2.2.2.1 bt823.2.2.2.2.2.2.2.1 bt823.2.2.2.2.2.2.2.2.1 bt840.1 bt840.2.1 bt840.2.2.1 bt840.2.2.2.1 bt840.2.2.2.2.1 bt840.2.2.2.2.2.1 bt840.2.2.2.2.2.2.1 bt840.2.2.2.2.2.2.2.1 bt840.2.2.2.2.2.2.2.2.1)))))))
theorem laws_FnPaidGet.calls (k : Nat) (A0 : Option Addr) (c0 : Nat) (l0 : List Int) (r : Bool) (w : World) (hr0 : Kd.C (Kd.int .u8) w A0 l0.length l0) (hc0 : l0.length ≤ c0) (h : laws_FnPaidGet.f k l0 = some r) (PQM_ : Aside0 (Sh.HasM w)) (PQT_ : Aside0 (Sh.HasT w)) :
  Calls Tryz.prog 4 #[.slice A0 l0.length c0] w fun e w' => e = .returned (.bool r) ∧ Below w.heap.size w w' := by
 have hu30 := Tryz.underlying30
 have HR0 := am hr0
 have HC0 := am hc0
 clear hr0 hc0
 have HB := am (Below.refl w.heap.size w)
 have H : (if (l0.length : Int) > 1048576 then (some true) else ((spec_DrawPaidGet.f k l0).bind fun t822 => ((impl_PaidGet.f k t822).bind fun bt823 => ((spec_PaidGet.f k t822).bind fun bt840 => (if (bt823.2.2.2.2.2.2.2.2.2 != bt840.2.2.2.2.2.2.2.2.2) = true then (laws_FnPaidGet.j0 k t822 bt823.2.2.2.2.2.2.2.2.2 bt840.2.2.2.2.2.2.2.2.2 true bt823.1 bt823.2.1 bt823.2.2.1 bt823.2.2.2.1 bt823.2.2.2.2.1 bt823.2.2.2.2.2.1 bt823.2.2.2.2.2.2.1 bt823.2.2.2.2.2.2.2.1 bt823.2.2.2.2.2.2.2.2.1 bt840.1 bt840.2.1 bt840.2.2.1 bt840.2.2.2.1 bt840.2.2.2.2.1 bt840.2.2.2.2.2.1 bt840.2.2.2.2.2.2.1 bt840.2.2.2.2.2.2.2.1 bt840.2.2.2.2.2.2.2.2.1) else ((laws_coPaid.f k bt823.1 bt823.2.1 bt823.2.2.1 bt823.2.2.2.1 bt823.2.2.2.2.1 bt823.2.2.2.2.2.1 bt823.2.2.2.2.2.2.1 bt823.2.2.2.2.2.2.2.1 bt823.2.2.2.2.2.2.2.2.1 bt840.1 bt840.2.1 bt840.2.2.1 bt840.2.2.2.1 bt840.2.2.2.2.1 bt840.2.2.2.2.2.1 bt840.2.2.2.2.2.2.1 bt840.2.2.2.2.2.2.2.1 bt840.2.2.2.2.2.2.2.2.1).bind fun t857 => (if t857 = true then (laws_FnPaidGet.j0 k t822 bt823.2.2.2.2.2.2.2.2.2 bt840.2.2.2.2.2.2.2.2.2 (!bt823.2.2.2.2.2.2.2.2.2) bt823.1 bt823.2.1 bt823.2.2.1 bt823.2.2.2.1 bt823.2.2.2.2.1 bt823.2.2.2.2.2.1 bt823.2.2.2.2.2.2.1 bt823.2.2.2.2.2.2.2.1 bt823.2.2.2.2.2.2.2.2.1 bt840.1 bt840.2.1 bt840.2.2.1 bt840.2.2.2.1 bt840.2.2.2.2.1 bt840.2.2.2.2.2.1 bt840.2.2.2.2.2.2.1 bt840.2.2.2.2.2.2.2.1 bt840.2.2.2.2.2.2.2.2.1) else (laws_FnPaidGet.j0 k t822 bt823.2.2.2.2.2.2.2.2.2 bt840.2.2.2.2.2.2.2.2.2 true bt823.1 bt823.2.1 bt823.2.2.1 bt823.2.2.2.1 bt823.2.2.2.2.1 bt823.2.2.2.2.2.1 bt823.2.2.2.2.2.2.1 bt823.2.2.2.2.2.2.2.1 bt823.2.2.2.2.2.2.2.2.1 bt840.1 bt840.2.1 bt840.2.2.1 bt840.2.2.2.1 bt840.2.2.2.2.1 bt840.2.2.2.2.2.1 bt840.2.2.2.2.2.2.1 bt840.2.2.2.2.2.2.2.1 bt840.2.2.2.2.2.2.2.2.1)))))))) = some r := h
 clear h
 by_cases c2 : (l0.length : Int) > 1048576
 ·rw [if_pos c2] at H
  have c2b0 := dt c2
  have c2b1 : decide (1048576 < l0.length) = true := decide_eq_true (by omega)
  clear c2
  obtain rfl := oI H
  go_enter Tryz.func4, Tryz.ntmps4
  go_wp2
  go_ret
  exact ⟨xE, bl HB⟩
 rw [if_neg c2] at H
 have c2b0 := df c2
 have c2b1 : decide (1048576 < l0.length) = false := decide_eq_false (by omega)
 clear c2
 replace ⟨t822, A3, H⟩ := oa H
 replace H := Option.bind_eq_some_iff.mp H
 obtain ⟨⟨t823, t824, t825, t826, t827, t828, t829, t832, t835, t838⟩, A40, H⟩ := H
 have A4 := am A40
 clear A40
 replace H := Option.bind_eq_some_iff.mp H
 obtain ⟨⟨t840, t841, t842, t843, t844, t845, t846, t849, t852, t855⟩, A50, H⟩ := H
 have A5 := am A50
 clear A50
 have HC6 := am H
 clear H
 go_enter Tryz.func4, Tryz.ntmps4
 go_upto_region 6 with ((with_reducible refine gg ?_); first | (refine gL 12 Tryz.func11 #[.slice A0 l0.length c0] ?_; (with_reducible refine (spec_DrawPaidGet.calls k _ _ l0 t822 _ ?side1 ?side2 A3.out).mono ?_); (case side1 => exact cr HR0.out); (case side2 => exact HC0.out); rintro e w7 ⟨rfl, hb⟩; refine ⟨_, rfl, ?_⟩; replace HB := kH HB hb; (try clear hb)) | (refine gL 15 Tryz.func8 #[.string t822] ?_; (with_reducible refine (impl_PaidGet.calls k t822 t823 t824 t825 t826 t827 t828 t829 t832 t835 t838 _ A4.out (am (Sh.hasM_of PQM_ (bl HB))) (am (Sh.hasT_of PQT_ (bl HB)))).mono ?_); rintro e w8 ⟨v830, v833, v836, rfl, ho0, ho1, ho2, hb⟩; refine ⟨_, rfl, ?_⟩; have HO831 := am (R_lower ho0 (below_size (bl HB))); have HO834 := am (R_lower ho1 (below_size (bl HB))); have HO837 := am (R_lower ho2 (below_size (bl HB))); replace HB := kH HB hb; (try clear hb); (try clear ho0); (try clear ho1); (try clear ho2)) | (refine bE 4 #[.int .i64 0, .string (⟨#[]⟩ : ByteArray), .string (⟨#[]⟩ : ByteArray), .int .i64 0, .int .i64 0, .int .i64 0, .slice none 0 0, .slice none 0 0, .slice none 0 0] 30 ?_; intro gb839 hg w9 hbox hb; replace HO831 := rk HO831 hb; replace HO834 := rk HO834 hb; replace HO837 := rk HO837 hb; have BK839 := am (hbox); have GW839 := zB hg HB; have GE839 := zB hg HB; replace HB := kH HB hb; clear hb hbox hg; have hz10 := bc9 BK839; obtain ⟨Ao11, co11, rfl⟩ := R_slice HO831.out; obtain ⟨Ao12, co12, rfl⟩ := R_slice HO834.out; obtain ⟨Ao13, co13, rfl⟩ := R_slice HO837.out) | (refine store_event (t := 30) (p := 4) (v := ?vo_) (w1 := ?wo_) ?hg ?ho ?hn ?hr ?_; (case ho => rfl); (case hg => rfl); (case hn => rfl); (case hr => go_simp; rfl); intro wq_ hW_; (first | (have BQ_ := kF (.cells #[.int .i64 t823, .string t824, .string t825, .int .i64 t826, .int .i64 t827, .int .i64 t828, .slice Ao11 t829.length co11, .slice Ao12 t832.length co12, .slice Ao13 t835.length co13] 30 (0, 0)) BK839 hW_; have hzq_ := bc9 BQ_) | (have BQ_ := am hW_; have hzq_ := am hW_)); replace hW_ := am hW_) | (refine gL 20 Tryz.func12 #[.string t822] ?_; (try (clear hzq_ BQ_; obtain ⟨hW_⟩ := hW_; subst hW_)); (with_reducible refine (spec_PaidGet.calls k t822 t840 t841 t842 t843 t844 t845 t846 t849 t852 t855 _ A5.out).mono ?_); rintro e w14 ⟨v847, v850, v853, rfl, ho0, ho1, ho2, hb⟩; refine ⟨_, rfl, ?_⟩; have HO848 := am (R_lower (R_new' (R_new' ho0 (R_lt (rf HO831 BK839))) (R_lt (rf HO834 BK839))) (below_size (xB HB))); have HO851 := am (R_lower (R_new' (R_new' ho1 (R_lt (rf HO831 BK839))) (R_lt (rf HO834 BK839))) (below_size (xB HB))); replace HO831 := am (R_mono (R_told (R_told (R_old (rf HO831 BK839) hb) (R_base ho0)) (R_base ho1)) (fun _ h_ => h_.1)); replace HO834 := am (R_mono (R_told (R_told (R_old (rf HO834 BK839) hb) (R_base ho0)) (R_base ho1)) (fun _ h_ => h_.1)); have HO854 := am (R_lower (R_new' ho2 (R_lt (rf HO837 BK839))) (below_size (xB HB))); replace HO837 := am (R_elder' (rf HO837 BK839) (R_base ho2) hb); replace BK839 := kP (.cells #[.int .i64 t823, .string t824, .string t825, .int .i64 t826, .int .i64 t827, .int .i64 t828, .slice Ao11 t829.length co11, .slice Ao12 t832.length co12, .slice Ao13 t835.length co13] 30 (0, 0)) BK839 hb; replace HB := kH HB hb; (try clear hb); (try clear ho0); (try clear ho1); (try clear ho2)) | (refine bE 6 #[.int .i64 0, .string (⟨#[]⟩ : ByteArray), .string (⟨#[]⟩ : ByteArray), .int .i64 0, .int .i64 0, .int .i64 0, .slice none 0 0, .slice none 0 0, .slice none 0 0] 30 ?_; (try (clear hzq_ BQ_; obtain ⟨hW_⟩ := hW_; subst hW_)); intro gb856 hg w15 hbox hb; replace HO831 := rk HO831 hb; replace HO834 := rk HO834 hb; replace HO837 := rk HO837 hb; replace HO848 := rk HO848 hb; replace HO851 := rk HO851 hb; replace HO854 := rk HO854 hb; have BK856 := am (hbox); have GW856 := zB hg HB; have GE856 := zB hg HB; replace HB := kH HB hb; have NB839_856 := nl hg (kb BK839); have NB856_839 := ng hg (kb BK839); replace BK839 := kP _ BK839 hb; clear hb hbox hg; have hnb16 := NB856_839.out; have hnc16 := NB839_856.out; have hz17 := bc9 BK856; obtain ⟨Ao18, co18, rfl⟩ := R_slice HO848.out; obtain ⟨Ao19, co19, rfl⟩ := R_slice HO851.out; obtain ⟨Ao20, co20, rfl⟩ := R_slice HO854.out) | (refine store_event (t := 30) (p := 6) (v := ?vo_) (w1 := ?wo_) ?hg ?ho ?hn ?hr ?_; (case ho => rfl); (case hg => rfl); (case hn => rfl); (case hr => go_simp; rfl); intro wq_ hW_; (first | (have BQ_ := kF (.cells #[.int .i64 t840, .string t841, .string t842, .int .i64 t843, .int .i64 t844, .int .i64 t845, .slice Ao18 t846.length co18, .slice Ao19 t849.length co19, .slice Ao20 t852.length co20] 30 (0, 0)) BK856 hW_; have hzq_ := bc9 BQ_) | (have BQ_ := am hW_; have hzq_ := am hW_)); replace hW_ := am hW_))
 (try simp only [Act.put, sa, s0, s1])
 (try (clear hzq_ BQ_; obtain ⟨hW_⟩ := hW_; subst hW_))
 go_cut [35] (fun v35 wc => ∃ (kq : Nat) (x35_5 : Bool), v35 = .bool x35_5 ∧ Aside0 (laws_FnPaidGet.j0 kq t822 t838 t855 x35_5 t823 t824 t825 t826 t827 t828 t829 t832 t835 t840 t841 t842 t843 t844 t845 t846 t849 t852 = some r) ∧ Aside0 (kq ≤ k) ∧ Aside0 (Kd.R k93 93 wc w.heap.size (fun k_ => some k_ ≠ ((.slice Ao12 t832.length co12) : Value).ownBlock ∧ some k_ ≠ ((.slice Ao18 t846.length co18) : Value).ownBlock ∧ some k_ ≠ ((.slice Ao19 t849.length co19) : Value).ownBlock) (.slice Ao11 t829.length co11) t829) ∧ Aside0 (Kd.R k93 93 wc w.heap.size (fun k_ => some k_ ≠ ((.slice Ao11 t829.length co11) : Value).ownBlock ∧ some k_ ≠ ((.slice Ao18 t846.length co18) : Value).ownBlock ∧ some k_ ≠ ((.slice Ao19 t849.length co19) : Value).ownBlock) (.slice Ao12 t832.length co12) t832) ∧ Aside0 (Kd.R k48 48 wc w.heap.size (fun k_ => some k_ ≠ ((.slice Ao20 t852.length co20) : Value).ownBlock) (.slice Ao13 t835.length co13) t835) ∧ Aside0 (Kd.R k93 93 wc w.heap.size (fun k_ => some k_ ≠ ((.slice Ao11 t829.length co11) : Value).ownBlock ∧ some k_ ≠ ((.slice Ao12 t832.length co12) : Value).ownBlock ∧ some k_ ≠ ((.slice Ao19 t849.length co19) : Value).ownBlock) (.slice Ao18 t846.length co18) t846) ∧ Aside0 (Kd.R k93 93 wc w.heap.size (fun k_ => some k_ ≠ ((.slice Ao11 t829.length co11) : Value).ownBlock ∧ some k_ ≠ ((.slice Ao12 t832.length co12) : Value).ownBlock ∧ some k_ ≠ ((.slice Ao18 t846.length co18) : Value).ownBlock) (.slice Ao19 t849.length co19) t849) ∧ Aside0 (Kd.R k48 48 wc w.heap.size (fun k_ => some k_ ≠ ((.slice Ao13 t835.length co13) : Value).ownBlock) (.slice Ao20 t852.length co20) t852) ∧ Aside0 (wc.heap[gb839]? = some (.cells #[.int .i64 t823, .string t824, .string t825, .int .i64 t826, .int .i64 t827, .int .i64 t828, (.slice Ao11 t829.length co11), (.slice Ao12 t832.length co12), (.slice Ao13 t835.length co13)] 30 (0, 0))) ∧ Aside0 (wc.heap[gb856]? = some (.cells #[.int .i64 t840, .string t841, .string t842, .int .i64 t843, .int .i64 t844, .int .i64 t845, (.slice Ao18 t846.length co18), (.slice Ao19 t849.length co19), (.slice Ao20 t852.length co20)] 30 (0, 0))) ∧ Aside0 (Below w.heap.size w wc))
 case first =>
  have H := HC6.out
  clear HC6
  by_cases c21 : (t838 != t855) = true
  ·rw [if_pos c21] at H
   have c21b0 : (t838 != t855) = true := c21
   (try (have c21b1 : decide (t838 = t855) = false := by simpa using c21))
   (try (have c21b2 : (t838 == t855) = false := by simpa using c21))
   (try (have c21b3 : ¬ (t838 = t855) := by simpa using c21))
   clear c21
   (first | rw [c21b0] | rw [c21b1] | (simp only [i64_w, i32_w]; rw [c21b0]) | skip)
   have H' := am H
   clear H
   go_wp2
   (try (clear hzq_ BQ_; obtain ⟨hW_⟩ := hW_; subst hW_))
   go_meet
   case rel => exact ⟨_, (true), xR, H', ⟨xO⟩, ⟨rF HO831 BK856 (fun _ hk => ⟨hk.1.1, ⟨hk.1.2, hk.2⟩⟩)⟩, ⟨rF HO834 BK856 (fun _ hk => ⟨hk.1.1, ⟨hk.1.2, hk.2⟩⟩)⟩, ⟨rF HO837 BK856 h2⟩, ⟨rF HO848 BK856 (fun _ hk => ⟨hk.1.2, ⟨hk.2, hk.1.1⟩⟩)⟩, ⟨rF HO851 BK856 (fun _ hk => ⟨hk.1.2, ⟨hk.2, hk.1.1⟩⟩)⟩, ⟨rF HO854 BK856 h2⟩, ⟨fb BK839⟩, ⟨fb BK856⟩, ⟨xB HB⟩⟩
  rw [if_neg c21] at H
  have c21b0 : (t838 != t855) = false := by simpa using c21
  (try (have c21b1 : decide (t838 = t855) = true := by simpa using c21))
  (try (have c21b2 : (t838 == t855) = true := by simpa using c21))
  clear c21
  (first | rw [c21b0] | rw [c21b1] | (simp only [i64_w, i32_w]; rw [c21b0]) | skip)
  replace ⟨t857, A22, H⟩ := oa H
  by_cases c23 : t857 = true
  ·subst c23
   rw [if_pos rfl] at H
   have H' := am H
   clear H
   have hnb24 := NB839_856.out
   have hnc24 := NB856_839.out
   (first | have hz25 := bc9 (kF _ BK839 hW_.out) | have hz25 := bc9 BK839)
   (first | have hz26 := bc9 (kF _ BK856 hW_.out) | have hz26 := bc9 BK856)
   go_wp2_with (go_at_call 9; (try (clear hzq_ BQ_; obtain ⟨hW_⟩ := hW_; subst hW_)); (with_reducible refine (laws_coPaid.calls k t823 t824 t825 t826 t827 t828 _ _ t829 _ _ t832 _ _ t835 t840 t841 t842 t843 t844 t845 _ _ t846 _ _ t849 _ _ t852 true _ ?side1 ?side2 ?side3 ?side4 ?side5 ?side6 ?side7 ?side8 ?side9 ?side10 ?side11 ?side12 A22.out).mono ?_); (case side1 => exact (R_reads' (rf HO831 BK856)).2.2); (case side2 => exact sl HO831); (case side3 => exact (R_reads' (rf HO834 BK856)).2.2); (case side4 => exact sl HO834); (case side5 => exact (R_reads' (rf HO837 BK856)).2.2); (case side6 => exact sl HO837); (case side7 => exact (R_reads' (rf HO848 BK856)).2.2); (case side8 => exact sl HO848); (case side9 => exact (R_reads' (rf HO851 BK856)).2.2); (case side10 => exact sl HO851); (case side11 => exact (R_reads' (rf HO854 BK856)).2.2); (case side12 => exact sl HO854); rintro e w27 ⟨rfl, hb⟩; replace HO831 := am (R_below (rf HO831 BK856) hb); replace HO834 := am (R_below (rf HO834 BK856) hb); replace HO837 := am (R_below (rf HO837 BK856) hb); replace HO848 := am (R_below (rf HO848 BK856) hb); replace HO851 := am (R_below (rf HO851 BK856) hb); replace HO854 := am (R_below (rf HO854 BK856) hb); replace BK839 := kP _ BK839 hb; replace BK856 := kP (.cells #[.int .i64 t840, .string t841, .string t842, .int .i64 t843, .int .i64 t844, .int .i64 t845, .slice Ao18 t846.length co18, .slice Ao19 t849.length co19, .slice Ao20 t852.length co20] 30 (0, 0)) BK856 hb; replace HB := kH HB hb; (try clear hb))
   (try (clear hzq_ BQ_; obtain ⟨hW_⟩ := hW_; subst hW_))
   go_meet
   case rel => exact ⟨_, (!t838), xR, H', ⟨xO⟩, ⟨rM HO831 (fun _ hk => ⟨hk.1.1, ⟨hk.1.2, hk.2⟩⟩)⟩, ⟨rM HO834 (fun _ hk => ⟨hk.1.1, ⟨hk.1.2, hk.2⟩⟩)⟩, ⟨rM HO837 h2⟩, ⟨rM HO848 (fun _ hk => ⟨hk.1.2, ⟨hk.2, hk.1.1⟩⟩)⟩, ⟨rM HO851 (fun _ hk => ⟨hk.1.2, ⟨hk.2, hk.1.1⟩⟩)⟩, ⟨rM HO854 h2⟩, ⟨kb BK839⟩, ⟨kb BK856⟩, ⟨xB HB⟩⟩
  replace c23 := bF c23
  subst c23
  rw [if_neg nF] at H
  have H' := am H
  clear H
  have hnb28 := NB839_856.out
  have hnc28 := NB856_839.out
  (first | have hz29 := bc9 (kF _ BK839 hW_.out) | have hz29 := bc9 BK839)
  (first | have hz30 := bc9 (kF _ BK856 hW_.out) | have hz30 := bc9 BK856)
  go_wp2_with (go_at_call 9; (try (clear hzq_ BQ_; obtain ⟨hW_⟩ := hW_; subst hW_)); (with_reducible refine (laws_coPaid.calls k t823 t824 t825 t826 t827 t828 _ _ t829 _ _ t832 _ _ t835 t840 t841 t842 t843 t844 t845 _ _ t846 _ _ t849 _ _ t852 false _ ?side1 ?side2 ?side3 ?side4 ?side5 ?side6 ?side7 ?side8 ?side9 ?side10 ?side11 ?side12 A22.out).mono ?_); (case side1 => exact (R_reads' (rf HO831 BK856)).2.2); (case side2 => exact sl HO831); (case side3 => exact (R_reads' (rf HO834 BK856)).2.2); (case side4 => exact sl HO834); (case side5 => exact (R_reads' (rf HO837 BK856)).2.2); (case side6 => exact sl HO837); (case side7 => exact (R_reads' (rf HO848 BK856)).2.2); (case side8 => exact sl HO848); (case side9 => exact (R_reads' (rf HO851 BK856)).2.2); (case side10 => exact sl HO851); (case side11 => exact (R_reads' (rf HO854 BK856)).2.2); (case side12 => exact sl HO854); rintro e w31 ⟨rfl, hb⟩; replace HO831 := am (R_below (rf HO831 BK856) hb); replace HO834 := am (R_below (rf HO834 BK856) hb); replace HO837 := am (R_below (rf HO837 BK856) hb); replace HO848 := am (R_below (rf HO848 BK856) hb); replace HO851 := am (R_below (rf HO851 BK856) hb); replace HO854 := am (R_below (rf HO854 BK856) hb); replace BK839 := kP _ BK839 hb; replace BK856 := kP (.cells #[.int .i64 t840, .string t841, .string t842, .int .i64 t843, .int .i64 t844, .int .i64 t845, .slice Ao18 t846.length co18, .slice Ao19 t849.length co19, .slice Ao20 t852.length co20] 30 (0, 0)) BK856 hb; replace HB := kH HB hb; (try clear hb))
  (try (clear hzq_ BQ_; obtain ⟨hW_⟩ := hW_; subst hW_))
  go_meet
  case rel => exact ⟨_, (true), xR, H', ⟨xO⟩, ⟨rM HO831 (fun _ hk => ⟨hk.1.1, ⟨hk.1.2, hk.2⟩⟩)⟩, ⟨rM HO834 (fun _ hk => ⟨hk.1.1, ⟨hk.1.2, hk.2⟩⟩)⟩, ⟨rM HO837 h2⟩, ⟨rM HO848 (fun _ hk => ⟨hk.1.2, ⟨hk.2, hk.1.1⟩⟩)⟩, ⟨rM HO851 (fun _ hk => ⟨hk.1.2, ⟨hk.2, hk.1.1⟩⟩)⟩, ⟨rM HO854 h2⟩, ⟨kb BK839⟩, ⟨kb BK856⟩, ⟨xB HB⟩⟩
 case rest =>
  clear HC6
  try clear c2 c2b0 c2b1 hz10 hz17
  obtain ⟨kq, x35_5, rfl, HA, HJ5, HO_840006, HO_840007, HO_840008, HO_857006, HO_857007, HO_857008, BK839, BK856, HB⟩ := hcut
  cases kq with
  | zero => exact absurd HA.out (by simp [laws_FnPaidGet.j0])
  | succ kj5 =>
   have H := HA.out
   clear HA
   simp only [laws_FnPaidGet.j0] at H
   by_cases c32 : x35_5 = true
   rotate_left
   ·replace c32 := bF c32
    subst c32
    rw [if_neg nF] at H
    replace ⟨t859, A39, H⟩ := oa H
    obtain rfl := oI H
    have hnb40 := NB839_856.out
    have hnc40 := NB856_839.out
    (first | have hz41 := bc9 (kF _ BK839 hW_.out) | have hz41 := bc9 BK839)
    go_wp2_with ((with_reducible refine gg ?_); refine gL 45 Tryz.func6 #[.agg #[.int .i64 t823, .string t824, .string t825, .int .i64 t826, .int .i64 t827, .int .i64 t828, .slice Ao11 t829.length co11, .slice Ao12 t832.length co12, .slice Ao13 t835.length co13]] ?_; (try (clear hzq_ BQ_; obtain ⟨hW_⟩ := hW_; subst hW_)); (with_reducible refine (impl_PaidPut.calls kj5 t823 t824 t825 t826 t827 t828 _ _ t829 _ _ t832 _ _ t835 t859 _ ?side1 ?side2 ?side3 ?side4 ?side5 ?side6 A39.out (am (Sh.hasT_of PQT_ (xB HB)))).mono ?_); (case side1 => exact cr (R_reads' HO_840006.out).2.2); (case side2 => exact sl HO_840006); (case side3 => exact cr (R_reads' HO_840007.out).2.2); (case side4 => exact sl HO_840007); (case side5 => exact cr (R_reads' HO_840008.out).2.2); (case side6 => exact sl HO_840008); rintro e w42 ⟨rfl, hb⟩; refine ⟨_, rfl, ?_⟩; replace HO_840006 := rk HO_840006 hb; replace HO_840007 := rk HO_840007 hb; replace HO_840008 := rk HO_840008 hb; replace HO_857006 := rk HO_857006 hb; replace HO_857007 := rk HO_857007 hb; replace HO_857008 := rk HO_857008 hb; replace BK839 := kP _ BK839 hb; replace BK856 := kP _ BK856 hb; replace HB := kH HB hb; (try clear hb))
    (try (clear hzq_ BQ_; obtain ⟨hW_⟩ := hW_; subst hW_))
    go_ret
    exact ⟨xE, xB HB⟩
   subst c32
   rw [if_pos rfl] at H
   by_cases c33 : (t838 == t855) = true
   rotate_left
   ·rw [if_neg c33] at H
    have c33b0 : (t838 == t855) = false := by simpa using c33
    (try (have c33b1 : decide (t838 = t855) = false := by simpa using c33))
    (try (have c33b2 : (t838 == t855) = false := by simpa using c33))
    (try (have c33b3 : ¬ (t838 = t855) := by simpa using c33))
    clear c33
    obtain rfl := oI H
    go_wp2
    (try (clear hzq_ BQ_; obtain ⟨hW_⟩ := hW_; subst hW_))
    go_ret
    exact ⟨xE, xB HB⟩
   rw [if_pos c33] at H
   have c33b0 : (t838 == t855) = true := c33
   (try (have c33b1 : decide (t838 = t855) = true := by simpa using c33))
   (try (have c33b2 : (t838 == t855) = true := by simpa using c33))
   clear c33
   replace ⟨t858, A34, H⟩ := oa H
   obtain rfl := oI H
   have hnb35 := NB839_856.out
   have hnc35 := NB856_839.out
   (first | have hz36 := bc9 (kF _ BK839 hW_.out) | have hz36 := bc9 BK839)
   (first | have hz37 := bc9 (kF _ BK856 hW_.out) | have hz37 := bc9 BK856)
   go_wp2_with (go_at_call 9; (try (clear hzq_ BQ_; obtain ⟨hW_⟩ := hW_; subst hW_)); (with_reducible refine (laws_coPaid.calls kj5 t823 t824 t825 t826 t827 t828 _ _ t829 _ _ t832 _ _ t835 t840 t841 t842 t843 t844 t845 _ _ t846 _ _ t849 _ _ t852 t858 _ ?side1 ?side2 ?side3 ?side4 ?side5 ?side6 ?side7 ?side8 ?side9 ?side10 ?side11 ?side12 A34.out).mono ?_); (case side1 => exact cr (R_reads' HO_840006.out).2.2); (case side2 => exact sl HO_840006); (case side3 => exact cr (R_reads' HO_840007.out).2.2); (case side4 => exact sl HO_840007); (case side5 => exact cr (R_reads' HO_840008.out).2.2); (case side6 => exact sl HO_840008); (case side7 => exact cr (R_reads' HO_857006.out).2.2); (case side8 => exact sl HO_857006); (case side9 => exact cr (R_reads' HO_857007.out).2.2); (case side10 => exact sl HO_857007); (case side11 => exact cr (R_reads' HO_857008.out).2.2); (case side12 => exact sl HO_857008); rintro e w38 ⟨rfl, hb⟩; replace HO_840006 := rk HO_840006 hb; replace HO_840007 := rk HO_840007 hb; replace HO_840008 := rk HO_840008 hb; replace HO_857006 := rk HO_857006 hb; replace HO_857007 := rk HO_857007 hb; replace HO_857008 := rk HO_857008 hb; replace BK839 := kP _ BK839 hb; replace BK856 := kP _ BK856 hb; replace HB := kH HB hb; (try clear hb))
   (try (clear hzq_ BQ_; obtain ⟨hW_⟩ := hW_; subst hW_))
   go_ret
   exact ⟨xE, xB HB⟩
/-- THE ONE PURE STATEMENT of laws_FnPaidGet: yours. -/
def laws_FnPaidGet.Pure : Prop := ∀ (l0 : List Int), l0.length ≤ maxLen → l0.length * 1 ≤ 140737488351232 → (∀ x ∈ l0, (Lit.int .u8 x).wf = true) → ∃ k, laws_FnPaidGet.f k l0 = some true
theorem laws_FnPaidGet.walk (P : laws_FnPaidGet.Pure) (a0 : Option Addr) (len0 cap0 : Nat) (z0 : List Int) (w : World) (w0 : (a0 = none ∧ len0 = 0 ∧ cap0 = 0 ∧ z0 = []) ∨ ∃ x, a0 = some x ∧ len0 ≤ cap0 ∧ cap0 ≤ maxLen ∧ z0.length = cap0 ∧ (∀ i, i < z0.length → w.cell? (x.add i) = some (.int .u8 (z0.getD i 0))) ∧ ∀ n ∈ z0, (Lit.int .u8 n).wf = true) (y0 : len0 * 1 ≤ 140737488351232) (PQM_ : Aside0 (Sh.HasM w)) (PQT_ : Aside0 (Sh.HasT w)) :
  Calls Tryz.prog 4 #[.slice a0 len0 cap0] w fun e w' => e = .returned (.bool true) ∧ Below w.heap.size w w' := by
 obtain ⟨l0, rfl, hr0, hm0, hw0, hc0⟩ := ReadsInt.ofRowC w0
 obtain ⟨k, h⟩ := P l0 hm0 y0 hw0
 refine (laws_FnPaidGet.calls k _ _ l0 true w (C_of_reads (d := (0 : Int)) (h1 := fun _ => rfl) hr0) hc0 h PQM_ PQT_).mono ?_
 rintro e w' ⟨rfl, hd⟩
 exact ⟨rfl, hd⟩

end Go.Proofs.YtgjljbaadglpnaaGreatDoor.PFnPaidGet
