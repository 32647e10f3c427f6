/- Functions of the program and what each answers: the kit's print, shortened (wip/press2.py). -/
import Derived.Test.YtgjljbaadglpnaaDoorPFnExactPaidGetx0
import Derived.Test.YtgjljbaadglpnaaDoorPFnExactPaidGetx3
import Derived.Test.YtgjljbaadglpnaaDoorPFnExactPaidGetx5
import Derived.Test.YtgjljbaadglpnaaDoorPFnExactPaidGetx9
namespace Go.Proofs.YtgjljbaadglpnaaDoor.PFnExactPaidGet
open Go.Proofs.YtgjljbaadglpnaaDoor.Sq Go.RowKit Go.Proofs.YtgjljbaadglpnaaDoorW.PrintWords Go.Proofs.YtgjljbaadglpnaaDoorW.PrintLast Go.Proofs.YtgjljbaadglpnaaDoorW.PrintMore
attribute [local go_sem] max2_int min2_int max_two min_two max_three min_three max_four min_four   -- for this text's walks alone
set_option linter.unusedVariables false
set_option linter.unusedSimpArgs false

/-! ### spec_PaidGet: function 8 -/
def spec_PaidGet.j0 : Nat → ByteArray → List ByteArray → List ByteArray → List ByteArray → List ByteArray → Bool → Option (Int × ByteArray × ByteArray × Int × Int × Int × (List (S93)) × (List (S93)) × (List (S85)) × Bool)
 | 0, _, _, _, _, _, _ => none
 | k + 1, x0, x5, x6, x8, x10, x60 => if x60 = true then (some (0, (⟨#[]⟩ : ByteArray), (⟨#[]⟩ : ByteArray), 0, 0, 0, ([] : List (S93)), ([] : List (S93)), ([] : List (S85)), false)) else (if 1 < (x5.length : Int) then ((spec_HeadGet.f k (rdOf ByteArray.empty x5 1)).bind fun bt227 => (if 0 < (x5.length : Int) then ((spec_l1Num.f k (rdOf ByteArray.empty x5 0)).bind fun t235 => ((spec_l9GetPeaks.f k x6).bind fun t236 => ((spec_l9GetPeaks.f k x8).bind fun t239 => ((spec_l9GetSides.f k x10).bind fun t242 => (if bt227.2.2.2.2.2 = true then ((spec_l9Ok.f k t235 bt227.1 bt227.2.1 bt227.2.2.1 bt227.2.2.2.1 bt227.2.2.2.2.1 t236 t239 t242).bind fun t246 => (if t246 = true then ((spec_l9Put.f k t235 bt227.1 bt227.2.1 bt227.2.2.1 bt227.2.2.2.1 bt227.2.2.2.2.1 t236 t239 t242).bind fun t247 => (if t247.toList = x0.toList then (some (t235, bt227.1, bt227.2.1, bt227.2.2.1, bt227.2.2.2.1, bt227.2.2.2.2.1, t236, t239, t242, true)) else (some (0, (⟨#[]⟩ : ByteArray), (⟨#[]⟩ : ByteArray), 0, 0, 0, ([] : List (S93)), ([] : List (S93)), ([] : List (S85)), false)))) else (some (0, (⟨#[]⟩ : ByteArray), (⟨#[]⟩ : ByteArray), 0, 0, 0, ([] : List (S93)), ([] : List (S93)), ([] : List (S85)), false)))) else (some (0, (⟨#[]⟩ : ByteArray), (⟨#[]⟩ : ByteArray), 0, 0, 0, ([] : List (S93)), ([] : List (S93)), ([] : List (S85)), false))))))) else (none))) else (none))
def spec_PaidGet.f (k : Nat) (a0 : ByteArray) : Option (Int × ByteArray × ByteArray × Int × Int × Int × (List (S93)) × (List (S93)) × (List (S85)) × Bool) := (spec_l1Cut.f k a0 10 5).bind fun t204 => (if (t204.length : Int) = 5 then (if 0 < (t204.length : Int) then ((spec_l1Cut.f k (rdOf ByteArray.empty t204 0) 32 1).bind fun t208 => (if 1 < (t204.length : Int) then ((spec_l9Words.f k (rdOf ByteArray.empty t204 1) (⟨#[112, 101, 97, 107, 115]⟩ : ByteArray)).bind fun bt212 => (if 2 < (t204.length : Int) then ((spec_l9Words.f k (rdOf ByteArray.empty t204 2) (⟨#[115, 116, 101, 112, 115]⟩ : ByteArray)).bind fun bt217 => (if 3 < (t204.length : Int) then ((spec_l9Words.f k (rdOf ByteArray.empty t204 3) (⟨#[115, 105, 100, 101, 115]⟩ : ByteArray)).bind fun bt222 => (if (t208.length : Int) = 2 then (if bt212.2 = true then (if bt217.2 = true then (spec_PaidGet.j0 k a0 t208 bt212.1 bt217.1 bt222.1 (!bt222.2)) else (spec_PaidGet.j0 k a0 t208 bt212.1 bt217.1 bt222.1 true)) else (spec_PaidGet.j0 k a0 t208 bt212.1 bt217.1 bt222.1 true)) else (spec_PaidGet.j0 k a0 t208 bt212.1 bt217.1 bt222.1 true))) else (none))) else (none))) else (none))) else (none)) else (some (0, (⟨#[]⟩ : ByteArray), (⟨#[]⟩ : ByteArray), 0, 0, 0, ([] : List (S93)), ([] : List (S93)), ([] : List (S85)), false)))
theorem spec_PaidGet.mono_l : ∀ k, (∀ y0 y1 y2 y3 y4 y5, LeO (spec_PaidGet.j0 k y0 y1 y2 y3 y4 y5) (spec_PaidGet.j0 (k + 1) y0 y1 y2 y3 y4 y5))
 | 0 => fun _ _ _ _ _ _ r h => by simp [spec_PaidGet.j0] at h
 | k + 1 => by
  have ih0 := spec_PaidGet.mono_l k
  ·intro y0 y1 y2 y3 y4 y5
   unfold spec_PaidGet.j0
   exact mo9 ih0 spec_HeadGet.mono spec_l1Cut.mono spec_l1Num.mono spec_l9GetPeaks.mono spec_l9GetSides.mono spec_l9Ok.mono spec_l9Put.mono spec_l9Words.mono
theorem spec_PaidGet.mono : ∀ a0 k, LeO (spec_PaidGet.f k a0) (spec_PaidGet.f (k + 1) a0) := by
 intro a0 k
 have ih0 := spec_PaidGet.mono_l k
 unfold spec_PaidGet.f
 exact mo9 ih0 spec_HeadGet.mono spec_l1Cut.mono spec_l1Num.mono spec_l9GetPeaks.mono spec_l9GetSides.mono spec_l9Ok.mono spec_l9Put.mono spec_l9Words.mono
def spec_PaidGet.T11 : Bool × List (List Nat × List Nat) := (true, [([], []), ([0], [0]), ([1], [1]), ([2], [2]), ([], []), ([], []), ([5, 3], [5]), ([], []), ([7, 6], [7]), ([6, 8], [6, 8]), ([], []), ([10, 8], [10]), ([3, 4, 9, 11], [3, 4, 9, 11]), ([], []), ([13, 12, 11, 0, 1, 2, 3, 4, 5, 6, 7, 8, 9, 10, 11, 12, 13], [12, 13])])
def spec_PaidGet.B11 : List Nat := [0, 1, 3, 7, 0, 0, 47, 0, 239, 495, 0, 1519, 4095, 0, 16383]
theorem spec_PaidGet.tab11 : rtab .any (opsOf Tryd.f8 11) = spec_PaidGet.T11 := by kernel_rfl
theorem spec_PaidGet.bits11 : waitsOk spec_PaidGet.T11.2 spec_PaidGet.B11 = true := by kernel_rfl
set_option maxHeartbeats 64000000 in
set_option maxRecDepth 100000 in
theorem spec_PaidGet.calls (k : Nat) (a0 : ByteArray) (r1 : Int) (r2 : ByteArray) (r3 : ByteArray) (r4 : Int) (r5 : Int) (r6 : Int) (r7 : List (S93)) (r8 : List (S93)) (r9 : List (S85)) (r10 : Bool) (w : World) (h : spec_PaidGet.f k a0 = some (r1, r2, r3, r4, r5, r6, r7, r8, r9, r10)) :
  Calls Tryd.prog 8 #[.string a0] w fun e w' => ∃ v6_ v7_ v8_ : Value, e = .returned (.tuple #[.agg #[.int .i64 r1, .string r2, .string r3, .int .i64 r4, .int .i64 r5, .int .i64 r6, v6_, v7_, v8_], .bool r10]) ∧ Kd.R k93 93 w' w.heap.size (fun k_ => some k_ ≠ (v7_ : Value).ownBlock) v6_ r7 ∧ Kd.R k93 93 w' w.heap.size (fun k_ => some k_ ≠ (v6_ : Value).ownBlock) v7_ r8 ∧ Kd.R k85 85 w' w.heap.size (fun _ => True) v8_ r9 ∧ Below w.heap.size w w' := by
 have hu29 := Tryd.underlying29
 have hu23 := Tryd.underlying23
 have hu26 := Tryd.underlying26
 have HB := Aside0.mk (Below.refl w.heap.size w)
 have H : ((spec_l1Cut.f k a0 10 5).bind fun t204 => (if (t204.length : Int) = 5 then (if 0 < (t204.length : Int) then ((spec_l1Cut.f k (rdOf ByteArray.empty t204 0) 32 1).bind fun t208 => (if 1 < (t204.length : Int) then ((spec_l9Words.f k (rdOf ByteArray.empty t204 1) (⟨#[112, 101, 97, 107, 115]⟩ : ByteArray)).bind fun bt212 => (if 2 < (t204.length : Int) then ((spec_l9Words.f k (rdOf ByteArray.empty t204 2) (⟨#[115, 116, 101, 112, 115]⟩ : ByteArray)).bind fun bt217 => (if 3 < (t204.length : Int) then ((spec_l9Words.f k (rdOf ByteArray.empty t204 3) (⟨#[115, 105, 100, 101, 115]⟩ : ByteArray)).bind fun bt222 => (if (t208.length : Int) = 2 then (if bt212.2 = true then (if bt217.2 = true then (spec_PaidGet.j0 k a0 t208 bt212.1 bt217.1 bt222.1 (!bt222.2)) else (spec_PaidGet.j0 k a0 t208 bt212.1 bt217.1 bt222.1 true)) else (spec_PaidGet.j0 k a0 t208 bt212.1 bt217.1 bt222.1 true)) else (spec_PaidGet.j0 k a0 t208 bt212.1 bt217.1 bt222.1 true))) else (none))) else (none))) else (none))) else (none)) else (some (0, (⟨#[]⟩ : ByteArray), (⟨#[]⟩ : ByteArray), 0, 0, 0, ([] : List (S93)), ([] : List (S93)), ([] : List (S85)), false)))) = some (r1, r2, r3, r4, r5, r6, r7, r8, r9, r10) := h
 clear h
 replace H := oa H
 obtain ⟨t204, A2, H⟩ := H
 by_cases c3 : (t204.length : Int) = 5
 rotate_left
 ·rw [if_neg c3] at H
  have c3b0 := beq_eq_false_iff_ne.mpr c3
  have c3b1 := bne_iff_ne.mpr c3
  simp only [Option.some.injEq, Prod.mk.injEq] at H
  obtain ⟨rfl, rfl, rfl, rfl, rfl, rfl, rfl, rfl, rfl, rfl⟩ := H
  go_enter Tryd.func8, Tryd.ntmps8
  go_wp2_with ((with_reducible refine gg ?_); first | (refine bE 2 #[.int .i64 0, .string (⟨#[]⟩ : ByteArray), .string (⟨#[]⟩ : ByteArray), .int .i64 0, .int .i64 0, .int .i64 0, .slice none 0 0, .slice none 0 0, .slice none 0 0] 29 ?_; intro gb203 hg w183 hbox hb; have BK203 := am (hbox); have GW203 := zB hg HB; have GE203 := zB hg HB; replace HB := kH HB hb; clear hb hbox hg) | (refine store_event (t := 29) (p := 2) (v := ?vo_) (w1 := ?wo_) ?hg ?ho ?hn ?hr ?_; (case ho => rfl); (case hg => rfl); (case hn => rfl); (case hr => go_simp; rfl); intro wq_ hW_; have BQ_ := am hW_; have hzq_ := am hW_; replace hW_ := am hW_) | (refine gL 16 Tryd.func25 #[.string a0, .int .u8 10, .int .i64 5] ?_; (try (clear hzq_ BQ_; obtain ⟨hW_⟩ := hW_; subst hW_)); (with_reducible refine (spec_l1Cut.calls k a0 10 5 t204 _ A2.out).mono ?_); rintro e w184 ⟨v205, rfl, ho0, hb⟩; refine ⟨_, rfl, ?_⟩; have HO206 := am (Kd.R_lower ho0 (below_size (xB HB))); replace BK203 := kP _ BK203 hb; replace HB := kH HB hb; (try clear hb); (try clear ho0); obtain ⟨Ao185, co185, eo185⟩ := Kd.R_slice HO206.out; subst eo185; have hz186 := bc9 BK203))
  (try (clear hzq_ BQ_; obtain ⟨hW_⟩ := hW_; subst hW_))
  refine bodyPost_ret (results_ct rfl _ _ gb203 29 #[.int .i64 0, .string (⟨#[]⟩ : ByteArray), .string (⟨#[]⟩ : ByteArray), .int .i64 0, .int .i64 0, .int .i64 0, .slice none 0 0, .slice none 0 0, .slice none 0 0] (0, 0) _ rfl (fb BK203) Tryd.underlying29 rfl (by kernel_rfl)) rfl ?_
  exact ⟨_, _, _, xE, xN, xN, xN, xB HB⟩
 rw [if_pos c3] at H
 have c3b0 := beq_iff_eq.mpr c3
 have c3b1 := bne_eq_false_iff_eq.mpr c3
 clear c3
 replace H := ip H
 obtain ⟨c4, H⟩ := H
 have c4b0 := decide_eq_true c4
 have c4b1 : decide (0 < t204.length) = true := decide_eq_true (by omega)
 clear c4
 replace H := oa H
 obtain ⟨t208, A5, H⟩ := H
 replace H := ip H
 obtain ⟨c6, H⟩ := H
 have c6b0 := decide_eq_true c6
 have c6b1 : decide (1 < t204.length) = true := decide_eq_true (by omega)
 clear c6
 replace H := Option.bind_eq_some_iff.mp H
 obtain ⟨⟨t212, t213⟩, A70, H⟩ := H
 have A7 := Aside0.mk A70
 clear A70
 replace H := ip H
 obtain ⟨c8, H⟩ := H
 have c8b0 := decide_eq_true c8
 have c8b1 : decide (2 < t204.length) = true := decide_eq_true (by omega)
 clear c8
 replace H := Option.bind_eq_some_iff.mp H
 obtain ⟨⟨t217, t218⟩, A90, H⟩ := H
 have A9 := Aside0.mk A90
 clear A90
 replace H := ip H
 obtain ⟨c10, H⟩ := H
 have c10b0 := decide_eq_true c10
 have c10b1 : decide (3 < t204.length) = true := decide_eq_true (by omega)
 clear c10
 replace H := Option.bind_eq_some_iff.mp H
 obtain ⟨⟨t222, t223⟩, A110, H⟩ := H
 have A11 := Aside0.mk A110
 clear A110
 have HC12 := Aside0.mk H
 clear H
 go_enter Tryd.func8, Tryd.ntmps8
 go_upto_region 8 with ((with_reducible refine gg ?_); first | (refine bE 2 #[.int .i64 0, .string (⟨#[]⟩ : ByteArray), .string (⟨#[]⟩ : ByteArray), .int .i64 0, .int .i64 0, .int .i64 0, .slice none 0 0, .slice none 0 0, .slice none 0 0] 29 ?_; (try (clear hzq_ BQ_; obtain ⟨hW_⟩ := hW_; subst hW_)); intro gb203 hg w13 hbox hb; have BK203 := am (hbox); have GW203 := zB hg HB; have GE203 := zB hg HB; replace HB := kH HB hb; clear hb hbox hg) | (refine store_event (t := 29) (p := 2) (v := ?vo_) (w1 := ?wo_) ?hg ?ho ?hn ?hr ?_; (case ho => rfl); (case hg => rfl); (case hn => rfl); (case hr => go_simp; rfl); intro wq_ hW_; have BQ_ := am hW_; have hzq_ := am hW_; replace hW_ := am hW_) | (refine gL 16 Tryd.func25 #[.string a0, .int .u8 10, .int .i64 5] ?_; (try (clear hzq_ BQ_; obtain ⟨hW_⟩ := hW_; subst hW_)); (with_reducible refine (spec_l1Cut.calls k a0 10 5 t204 _ A2.out).mono ?_); rintro e w14 ⟨v205, rfl, ho0, hb⟩; refine ⟨_, rfl, ?_⟩; have HO206 := am (Kd.R_lower ho0 (below_size (xB HB))); replace BK203 := kP _ BK203 hb; replace HB := kH HB hb; (try clear hb); (try clear ho0); obtain ⟨Ao15, co15, eo15⟩ := Kd.R_slice HO206.out; subst eo15; have p207 : 0 ≤ (0 : Int) := (by omega); have q207 : 0 < (t204.length : Int) := of_decide_eq_true xA; obtain ⟨ad207, e207, hx207_0⟩ := Kd.at_string (Kd.R_reads' HO206.out).2.2 0 p207 q207; cases e207; have qi207 : (0 < t204.length) = True := eq_true (by omega); (try rw [show ((0 : Int)).toNat = 0 from rfl] at hx207_0); (try rw [Addr.add_zero'] at hx207_0); replace p207 := eq_true p207; replace q207 := eq_true q207) | (refine gL 24 Tryd.func25 #[.string (rdOf ByteArray.empty t204 0), .int .u8 32, .int .i64 1] ?_; (try (clear hzq_ BQ_; obtain ⟨hW_⟩ := hW_; subst hW_)); (with_reducible refine (spec_l1Cut.calls k (rdOf ByteArray.empty t204 0) 32 1 t208 _ A5.out).mono ?_); rintro e w16 ⟨v209, rfl, ho0, hb⟩; refine ⟨_, rfl, ?_⟩; have HO210 := am (Kd.R_lower (Kd.R_new' ho0 (Kd.R_lt (ra HO206))) (below_size (xB HB))); replace HO206 := am (Kd.R_elder' (ra HO206) (Kd.R_base ho0) hb); replace BK203 := kP _ BK203 hb; replace HB := kH HB hb; (try clear hb); (try clear ho0); have p211 : 0 ≤ (1 : Int) := (by omega); have q211 : 1 < (t204.length : Int) := of_decide_eq_true xA; obtain ⟨ad211, e211, hx211_0⟩ := Kd.at_string (Kd.R_reads' HO206.out).2.2 1 p211 q211; obtain rfl : ad207 = ad211 := (by injection e211); (try simp only [show (1 : Int).toNat = 1 from rfl, Nat.reduceMul, Nat.reduceEqDiff, Go.Addr.add, ↓reduceIte] at hx211_0); have qi211 : (1 < t204.length) = True := eq_true (by omega); (try rw [show ((1 : Int)).toNat = 1 from rfl] at hx211_0); replace p211 := eq_true p211; replace q211 := eq_true q211) | (refine gL 29 Tryd.func26 #[.string (rdOf ByteArray.empty t204 1), .string (⟨#[112, 101, 97, 107, 115]⟩ : ByteArray)] ?_; (try (clear hzq_ BQ_; obtain ⟨hW_⟩ := hW_; subst hW_)); (with_reducible refine (spec_l9Words.calls k (rdOf ByteArray.empty t204 1) (⟨#[112, 101, 97, 107, 115]⟩ : ByteArray) t212 t213 _ A7.out).mono ?_); rintro e w17 ⟨v214, rfl, ho0, hb⟩; refine ⟨_, rfl, ?_⟩; have HO215 := am (Kd.Q_lower (Kd.Q_new' (Kd.Q_new' ho0 (Kd.R_lt (ra HO206))) (Kd.R_lt (ra HO210))) (below_size (xB HB))); replace HO206 := am (Kd.R_elder' (ra HO206) (Kd.Q_base ho0) hb); replace HO210 := am (Kd.R_elder' (ra HO210) (Kd.Q_base ho0) hb); replace BK203 := kP _ BK203 hb; replace HB := kH HB hb; (try clear hb); (try clear ho0); have p216 : 0 ≤ (2 : Int) := (by omega); have q216 : 2 < (t204.length : Int) := of_decide_eq_true xA; obtain ⟨ad216, e216, hx216_0⟩ := Kd.at_string (Kd.R_reads' HO206.out).2.2 2 p216 q216; obtain rfl : ad207 = ad216 := (by injection e216); (try simp only [show (2 : Int).toNat = 2 from rfl, Nat.reduceMul, Nat.reduceEqDiff, Go.Addr.add, ↓reduceIte] at hx216_0); have qi216 : (2 < t204.length) = True := eq_true (by omega); (try rw [show ((2 : Int)).toNat = 2 from rfl] at hx216_0); replace p216 := eq_true p216; replace q216 := eq_true q216) | (refine gL 36 Tryd.func26 #[.string (rdOf ByteArray.empty t204 2), .string (⟨#[115, 116, 101, 112, 115]⟩ : ByteArray)] ?_; (try (clear hzq_ BQ_; obtain ⟨hW_⟩ := hW_; subst hW_)); (with_reducible refine (spec_l9Words.calls k (rdOf ByteArray.empty t204 2) (⟨#[115, 116, 101, 112, 115]⟩ : ByteArray) t217 t218 _ A9.out).mono ?_); rintro e w18 ⟨v219, rfl, ho0, hb⟩; refine ⟨_, rfl, ?_⟩; have HO220 := am (Kd.Q_lower (Kd.Q_new' (Kd.Q_new' (Kd.Q_new' ho0 (Kd.R_lt (ra HO206))) (Kd.R_lt (ra HO210))) (Kd.Q_lt (qa HO215))) (below_size (xB HB))); replace HO206 := am (Kd.R_elder' (ra HO206) (Kd.Q_base ho0) hb); replace HO210 := am (Kd.R_elder' (ra HO210) (Kd.Q_base ho0) hb); replace HO215 := am (Kd.Q_elder' (qa HO215) (Kd.Q_base ho0) hb); replace BK203 := kP _ BK203 hb; replace HB := kH HB hb; (try clear hb); (try clear ho0); have p221 : 0 ≤ (3 : Int) := (by omega); have q221 : 3 < (t204.length : Int) := of_decide_eq_true xA; obtain ⟨ad221, e221, hx221_0⟩ := Kd.at_string (Kd.R_reads' HO206.out).2.2 3 p221 q221; obtain rfl : ad207 = ad221 := (by injection e221); (try simp only [show (3 : Int).toNat = 3 from rfl, Nat.reduceMul, Nat.reduceEqDiff, Go.Addr.add, ↓reduceIte] at hx221_0); have qi221 : (3 < t204.length) = True := eq_true (by omega); (try rw [show ((3 : Int)).toNat = 3 from rfl] at hx221_0); replace p221 := eq_true p221; replace q221 := eq_true q221) | (refine gL 43 Tryd.func26 #[.string (rdOf ByteArray.empty t204 3), .string (⟨#[115, 105, 100, 101, 115]⟩ : ByteArray)] ?_; (try (clear hzq_ BQ_; obtain ⟨hW_⟩ := hW_; subst hW_)); (with_reducible refine (spec_l9Words.calls k (rdOf ByteArray.empty t204 3) (⟨#[115, 105, 100, 101, 115]⟩ : ByteArray) t222 t223 _ A11.out).mono ?_); rintro e w19 ⟨v224, rfl, ho0, hb⟩; refine ⟨_, rfl, ?_⟩; have HO225 := am (Kd.Q_lower (Kd.Q_new' (Kd.Q_new' (Kd.Q_new' (Kd.Q_new' ho0 (Kd.R_lt (ra HO206))) (Kd.R_lt (ra HO210))) (Kd.Q_lt (qa HO215))) (Kd.Q_lt (qa HO220))) (below_size (xB HB))); replace HO206 := am (Kd.R_elder' (ra HO206) (Kd.Q_base ho0) hb); replace HO210 := am (Kd.R_elder' (ra HO210) (Kd.Q_base ho0) hb); replace HO215 := am (Kd.Q_elder' (qa HO215) (Kd.Q_base ho0) hb); replace HO220 := am (Kd.Q_elder' (qa HO220) (Kd.Q_base ho0) hb); replace BK203 := kP _ BK203 hb; replace HB := kH HB hb; (try clear hb); (try clear ho0)))
 (try simp only [Act.put, sa, s0, s1])
 (try (clear hzq_ BQ_; obtain ⟨hW_⟩ := hW_; subst hW_))
 go_cut [60] (fun v60 wc => ∃ (kq : Nat) (x60_11 : Bool), v60 = .bool x60_11 ∧ Aside0 (spec_PaidGet.j0 kq a0 t208 t212 t217 t222 x60_11 = some (r1, r2, r3, r4, r5, r6, r7, r8, r9, r10)) ∧ Aside0 (kq ≤ k) ∧ Aside0 (Kd.R Kd.string 9 wc w.heap.size (fun k_ => some k_ ≠ (v214 : Value).ownBlock ∧ some k_ ≠ (v219 : Value).ownBlock ∧ some k_ ≠ (v224 : Value).ownBlock) v209 t208) ∧ Aside0 (Kd.Q Kd.string 9 wc w.heap.size (fun k_ => some k_ ≠ (v209 : Value).ownBlock ∧ some k_ ≠ (v219 : Value).ownBlock ∧ some k_ ≠ (v224 : Value).ownBlock) v214 t212) ∧ Aside0 (Kd.Q Kd.string 9 wc w.heap.size (fun k_ => some k_ ≠ (v209 : Value).ownBlock ∧ some k_ ≠ (v214 : Value).ownBlock ∧ some k_ ≠ (v224 : Value).ownBlock) v219 t217) ∧ Aside0 (Kd.Q Kd.string 9 wc w.heap.size (fun k_ => some k_ ≠ (v209 : Value).ownBlock ∧ some k_ ≠ (v214 : Value).ownBlock ∧ some k_ ≠ (v219 : Value).ownBlock) v224 t222) ∧ Aside0 (wc.heap[gb203]? = some (.cells #[.int .i64 0, .string (⟨#[]⟩ : ByteArray), .string (⟨#[]⟩ : ByteArray), .int .i64 0, .int .i64 0, .int .i64 0, (.slice none 0 0), (.slice none 0 0), (.slice none 0 0)] 29 (0, 0))) ∧ Aside0 (Below w.heap.size w wc))
 case first =>
  have H := HC12.out
  clear HC12
  by_cases c20 : (t208.length : Int) = 2
  rotate_left
  ·rw [if_neg c20] at H
   have c20b0 := beq_eq_false_iff_ne.mpr c20
   have c20b1 := bne_iff_ne.mpr c20
   (first | rw [c20b0] | (simp only [i64_w, i32_w]; rw [c20b0]) | skip)
   have H' := Aside0.mk H
   clear H
   obtain ⟨Ao26, co26, eo26⟩ := Kd.R_slice HO210.out
   subst eo26
   go_wp2
   (try (clear hzq_ BQ_; obtain ⟨hW_⟩ := hW_; subst hW_))
   go_meet
   case rel => exact ⟨_, (true), xR, H', ⟨xO⟩, ⟨rM HO210 (fun _ hk => ⟨hk.1.1.2, ⟨hk.1.2, hk.2⟩⟩)⟩, ⟨by (with_reducible repeat (first | apply Kd.Q_alloc | apply Kd.Q_drewN | apply Kd.Q_drew)); exact Kd.Q_mono HO215.out (fun _ hk => ⟨hk.1.1.2, ⟨hk.1.2, hk.2⟩⟩)⟩, ⟨by (with_reducible repeat (first | apply Kd.Q_alloc | apply Kd.Q_drewN | apply Kd.Q_drew)); exact Kd.Q_mono HO220.out (fun _ hk => ⟨hk.1.1.2, ⟨hk.1.2, hk.2⟩⟩)⟩, ⟨by (with_reducible repeat (first | apply Kd.Q_alloc | apply Kd.Q_drewN | apply Kd.Q_drew)); exact Kd.Q_mono HO225.out (fun _ hk => ⟨hk.1.1.2, ⟨hk.1.2, hk.2⟩⟩)⟩, ⟨kb BK203⟩, ⟨xB HB⟩⟩
  rw [if_pos c20] at H
  have c20b0 := beq_iff_eq.mpr c20
  have c20b1 := bne_eq_false_iff_eq.mpr c20
  clear c20
  (first | rw [c20b0] | (simp only [i64_w, i32_w]; rw [c20b0]) | skip)
  by_cases c21 : t213 = true
  rotate_left
  ·replace c21 := Bool.eq_false_iff.mpr c21
   subst c21
   rw [if_neg (show ¬ (false = true) by decide)] at H
   have H' := Aside0.mk H
   clear H
   obtain ⟨Ao25, co25, eo25⟩ := Kd.R_slice HO210.out
   subst eo25
   go_wp2
   (try (clear hzq_ BQ_; obtain ⟨hW_⟩ := hW_; subst hW_))
   go_meet
   case rel => exact ⟨_, (true), xR, H', ⟨xO⟩, ⟨rM HO210 (fun _ hk => ⟨hk.1.1.2, ⟨hk.1.2, hk.2⟩⟩)⟩, ⟨by (with_reducible repeat (first | apply Kd.Q_alloc | apply Kd.Q_drewN | apply Kd.Q_drew)); exact Kd.Q_mono HO215.out (fun _ hk => ⟨hk.1.1.2, ⟨hk.1.2, hk.2⟩⟩)⟩, ⟨by (with_reducible repeat (first | apply Kd.Q_alloc | apply Kd.Q_drewN | apply Kd.Q_drew)); exact Kd.Q_mono HO220.out (fun _ hk => ⟨hk.1.1.2, ⟨hk.1.2, hk.2⟩⟩)⟩, ⟨by (with_reducible repeat (first | apply Kd.Q_alloc | apply Kd.Q_drewN | apply Kd.Q_drew)); exact Kd.Q_mono HO225.out (fun _ hk => ⟨hk.1.1.2, ⟨hk.1.2, hk.2⟩⟩)⟩, ⟨kb BK203⟩, ⟨xB HB⟩⟩
  subst c21
  rw [if_pos rfl] at H
  by_cases c22 : t218 = true
  ·subst c22
   rw [if_pos rfl] at H
   have H' := Aside0.mk H
   clear H
   obtain ⟨Ao23, co23, eo23⟩ := Kd.R_slice HO210.out
   subst eo23
   go_wp2
   (try (clear hzq_ BQ_; obtain ⟨hW_⟩ := hW_; subst hW_))
   go_meet
   case rel => exact ⟨_, (!t223), xR, H', ⟨xO⟩, ⟨rM HO210 (fun _ hk => ⟨hk.1.1.2, ⟨hk.1.2, hk.2⟩⟩)⟩, ⟨by (with_reducible repeat (first | apply Kd.Q_alloc | apply Kd.Q_drewN | apply Kd.Q_drew)); exact Kd.Q_mono HO215.out (fun _ hk => ⟨hk.1.1.2, ⟨hk.1.2, hk.2⟩⟩)⟩, ⟨by (with_reducible repeat (first | apply Kd.Q_alloc | apply Kd.Q_drewN | apply Kd.Q_drew)); exact Kd.Q_mono HO220.out (fun _ hk => ⟨hk.1.1.2, ⟨hk.1.2, hk.2⟩⟩)⟩, ⟨by (with_reducible repeat (first | apply Kd.Q_alloc | apply Kd.Q_drewN | apply Kd.Q_drew)); exact Kd.Q_mono HO225.out (fun _ hk => ⟨hk.1.1.2, ⟨hk.1.2, hk.2⟩⟩)⟩, ⟨kb BK203⟩, ⟨xB HB⟩⟩
  replace c22 := Bool.eq_false_iff.mpr c22
  subst c22
  rw [if_neg (show ¬ (false = true) by decide)] at H
  have H' := Aside0.mk H
  clear H
  obtain ⟨Ao24, co24, eo24⟩ := Kd.R_slice HO210.out
  subst eo24
  go_wp2
  (try (clear hzq_ BQ_; obtain ⟨hW_⟩ := hW_; subst hW_))
  go_meet
  case rel => exact ⟨_, (true), xR, H', ⟨xO⟩, ⟨rM HO210 (fun _ hk => ⟨hk.1.1.2, ⟨hk.1.2, hk.2⟩⟩)⟩, ⟨by (with_reducible repeat (first | apply Kd.Q_alloc | apply Kd.Q_drewN | apply Kd.Q_drew)); exact Kd.Q_mono HO215.out (fun _ hk => ⟨hk.1.1.2, ⟨hk.1.2, hk.2⟩⟩)⟩, ⟨by (with_reducible repeat (first | apply Kd.Q_alloc | apply Kd.Q_drewN | apply Kd.Q_drew)); exact Kd.Q_mono HO220.out (fun _ hk => ⟨hk.1.1.2, ⟨hk.1.2, hk.2⟩⟩)⟩, ⟨by (with_reducible repeat (first | apply Kd.Q_alloc | apply Kd.Q_drewN | apply Kd.Q_drew)); exact Kd.Q_mono HO225.out (fun _ hk => ⟨hk.1.1.2, ⟨hk.1.2, hk.2⟩⟩)⟩, ⟨kb BK203⟩, ⟨xB HB⟩⟩
 case rest =>
  clear HC12
  try clear c1
  try clear c2
  try clear p2
  try clear q2
  try clear hx2
  try clear qi2
  try clear c3
  try clear c3b0
  try clear c3b1
  try clear c4
  try clear c4b0
  try clear c4b1
  try clear c6
  try clear c6b0
  try clear c6b1
  try clear c8
  try clear c8b0
  try clear c8b1
  try clear c10
  try clear c10b0
  try clear c10b1
  try clear c20
  try clear c20b0
  try clear c20b1
  try clear p20
  try clear q20
  try clear hx20
  try clear qi20
  try clear c21
  try clear p21
  try clear q21
  try clear hx21
  try clear qi21
  try clear c22
  try clear p22
  try clear q22
  try clear hx22
  try clear qi22
  try clear c25
  try clear c26
  try clear hx207_0
  try clear hx211_0
  try clear hx216_0
  try clear hx221_0
  try clear p207
  try clear p211
  try clear p216
  try clear p221
  try clear q207
  try clear q211
  try clear q216
  try clear q221
  obtain ⟨kq, x60_11, rfl, HA, HJ11, HO_5, HO_6, HO_8, HO_10, BK203, HB⟩ := hcut
  cases kq with
  | zero => exact absurd HA.out (by simp [spec_PaidGet.j0])
  | succ kj11 =>
   have H := HA.out
   clear HA
   simp only [spec_PaidGet.j0] at H
   by_cases c27 : x60_11 = true
   ·subst c27
    rw [if_pos rfl] at H
    simp only [Option.some.injEq, Prod.mk.injEq] at H
    obtain ⟨rfl, rfl, rfl, rfl, rfl, rfl, rfl, rfl, rfl, rfl⟩ := H
    (first | have hz28 := bc9 (kF _ BK203 hW_.out) | have hz28 := bc9 BK203)
    go_wp2
    (try (clear hzq_ BQ_; obtain ⟨hW_⟩ := hW_; subst hW_))
    refine bodyPost_ret (results_ct rfl _ _ gb203 29 #[.int .i64 0, .string (⟨#[]⟩ : ByteArray), .string (⟨#[]⟩ : ByteArray), .int .i64 0, .int .i64 0, .int .i64 0, .slice none 0 0, .slice none 0 0, .slice none 0 0] (0, 0) _ rfl (fb BK203) Tryd.underlying29 rfl (by kernel_rfl)) rfl ?_
    exact ⟨_, _, _, xE, xN, xN, xN, xB HB⟩
   replace c27 := Bool.eq_false_iff.mpr c27
   subst c27
   rw [if_neg (show ¬ (false = true) by decide)] at H
   replace H := ip H
   obtain ⟨c29, H⟩ := H
   have c29b0 := decide_eq_true c29
   have c29b1 : decide (1 < t208.length) = true := decide_eq_true (by omega)
   clear c29
   replace H := Option.bind_eq_some_iff.mp H
   obtain ⟨⟨t227, t228, t229, t230, t231, t232⟩, A300, H⟩ := H
   have A30 := Aside0.mk A300
   clear A300
   replace H := ip H
   obtain ⟨c31, H⟩ := H
   have c31b0 := decide_eq_true c31
   have c31b1 : decide (0 < t208.length) = true := decide_eq_true (by omega)
   clear c31
   replace H := oa H
   obtain ⟨t235, A32, H⟩ := H
   replace H := oa H
   obtain ⟨t236, A33, H⟩ := H
   replace H := oa H
   obtain ⟨t239, A34, H⟩ := H
   replace H := oa H
   obtain ⟨t242, A35, H⟩ := H
   obtain ⟨Ao41, co41, eo41⟩ := Kd.R_slice HO_5.out
   subst eo41
   have p226 : 0 ≤ (1 : Int) := (by omega)
   have q226 : 1 < (t208.length : Int) := of_decide_eq_true xA
   obtain ⟨ad226, e226, hx226_0⟩ := Kd.at_string (Kd.R_reads' HO_5.out).2.2 1 p226 q226
   cases e226
   (try simp only [show (1 : Int).toNat = 1 from rfl, Nat.reduceMul, Nat.reduceEqDiff, Go.Addr.add, ↓reduceIte] at hx226_0)
   have qi226 : (1 < t208.length) = True := eq_true (by omega)
   (try rw [show ((1 : Int)).toNat = 1 from rfl] at hx226_0)
   replace p226 := eq_true p226
   replace q226 := eq_true q226
   try go_wp2_with ((with_reducible refine gg ?_); first | (refine gL 66 Tryd.func17 #[.string (rdOf ByteArray.empty t208 1)] ?_; (try (clear hzq_ BQ_; obtain ⟨hW_⟩ := hW_; subst hW_)); (with_reducible refine (spec_HeadGet.calls kj11 (rdOf ByteArray.empty t208 1) t227 t228 t229 t230 t231 t232 _ A30.out).mono ?_); rintro e w42 ⟨rfl, hb⟩; refine ⟨_, rfl, ?_⟩; replace HO_5 := rk HO_5 hb; replace HO_6 := qk HO_6 hb; replace HO_8 := qk HO_8 hb; replace HO_10 := qk HO_10 hb; replace BK203 := kP _ BK203 hb; replace HB := kH HB hb; (try clear hb)) | (refine bE 12 #[.string (⟨#[]⟩ : ByteArray), .string (⟨#[]⟩ : ByteArray), .int .i64 0, .int .i64 0, .int .i64 0] 23 ?_; (try (clear hzq_ BQ_; obtain ⟨hW_⟩ := hW_; subst hW_)); intro gb233 hg w43 hbox hb; replace HO_5 := rk HO_5 hb; replace HO_6 := qk HO_6 hb; replace HO_8 := qk HO_8 hb; replace HO_10 := qk HO_10 hb; have BK233 := am (hbox); have GW233 := zB hg HB; have GE233 := zB hg HB; replace HB := kH HB hb; have NB203_233 := nl hg (kb BK203); have NB233_203 := ng hg (kb BK203); replace BK203 := kP _ BK203 hb; clear hb hbox hg; have hnb44 := NB233_203.out; have hnc44 := NB203_233.out; have hz45 := bc5 BK233; obtain ⟨Ao46, co46, eo46, _⟩ := Kd.Q_slice HO_6.out; subst eo46; obtain ⟨Ao47, co47, eo47, _⟩ := Kd.Q_slice HO_8.out; subst eo47; obtain ⟨Ao48, co48, eo48, _⟩ := Kd.Q_slice HO_10.out; subst eo48) | (refine store_event (t := 23) (p := 12) (v := ?vo_) (w1 := ?wo_) ?hg ?ho ?hn ?hr ?_; (case ho => rfl); (case hg => rfl); (case hn => rfl); (case hr => go_simp; rfl); intro wq_ hW_; have BQ_ := am hW_; have hzq_ := am hW_; replace hW_ := am hW_))
   have n0_ : Aside0 (Kd.R Kd.string 9 (((((w43.setCell ⟨gb233, 0, none⟩ (.string t227)).setCell ⟨gb233, 1, none⟩ (.string t228)).setCell ⟨gb233, 2, none⟩ (.int .i64 t229)).setCell ⟨gb233, 3, none⟩ (.int .i64 t230)).setCell ⟨gb233, 4, none⟩ (.int .i64 t231)) w.heap.size (fun k_ => some k_ ≠ (.slice Ao46 t212.length co46 : Value).ownBlock ∧ some k_ ≠ (.slice Ao47 t217.length co47 : Value).ownBlock ∧ some k_ ≠ (.slice Ao48 t222.length co48 : Value).ownBlock) (.slice (some ad226) t208.length co41) t208) := ⟨rF HO_5 BK233 (fun _ hk => ⟨hk.1, ⟨hk.2.1, hk.2.2⟩⟩)⟩
   have n1_ : Aside0 (Kd.Q Kd.string 9 (((((w43.setCell ⟨gb233, 0, none⟩ (.string t227)).setCell ⟨gb233, 1, none⟩ (.string t228)).setCell ⟨gb233, 2, none⟩ (.int .i64 t229)).setCell ⟨gb233, 3, none⟩ (.int .i64 t230)).setCell ⟨gb233, 4, none⟩ (.int .i64 t231)) w.heap.size (fun k_ => some k_ ≠ (.slice (some ad226) t208.length co41 : Value).ownBlock ∧ some k_ ≠ (.slice Ao47 t217.length co47 : Value).ownBlock ∧ some k_ ≠ (.slice Ao48 t222.length co48 : Value).ownBlock) (.slice Ao46 t212.length co46) t212) := ⟨by (with_reducible repeat (first | apply Kd.Q_alloc | apply Kd.Q_drewN | apply Kd.Q_drew)); exact Kd.Q_mono (Kd.Q_far (p := ⟨gb233, 4, none⟩) (Kd.Q_far (p := ⟨gb233, 3, none⟩) (Kd.Q_far (p := ⟨gb233, 2, none⟩) (Kd.Q_far (p := ⟨gb233, 1, none⟩) (Kd.Q_far (p := ⟨gb233, 0, none⟩) (Kd.Q_types HO_6.out BK233.out (by decide)) (fun _ hk => hk.2) (.string t227)) (fun _ hk => hk.2) (.string t228)) (fun _ hk => hk.2) (.int .i64 t229)) (fun _ hk => hk.2) (.int .i64 t230)) (fun _ hk => hk.2) (.int .i64 t231)) (fun _ hk => ⟨hk.1.1, ⟨hk.1.2.1, hk.1.2.2⟩⟩)⟩
   have n2_ : Aside0 (Kd.Q Kd.string 9 (((((w43.setCell ⟨gb233, 0, none⟩ (.string t227)).setCell ⟨gb233, 1, none⟩ (.string t228)).setCell ⟨gb233, 2, none⟩ (.int .i64 t229)).setCell ⟨gb233, 3, none⟩ (.int .i64 t230)).setCell ⟨gb233, 4, none⟩ (.int .i64 t231)) w.heap.size (fun k_ => some k_ ≠ (.slice (some ad226) t208.length co41 : Value).ownBlock ∧ some k_ ≠ (.slice Ao46 t212.length co46 : Value).ownBlock ∧ some k_ ≠ (.slice Ao48 t222.length co48 : Value).ownBlock) (.slice Ao47 t217.length co47) t217) := ⟨by (with_reducible repeat (first | apply Kd.Q_alloc | apply Kd.Q_drewN | apply Kd.Q_drew)); exact Kd.Q_mono (Kd.Q_far (p := ⟨gb233, 4, none⟩) (Kd.Q_far (p := ⟨gb233, 3, none⟩) (Kd.Q_far (p := ⟨gb233, 2, none⟩) (Kd.Q_far (p := ⟨gb233, 1, none⟩) (Kd.Q_far (p := ⟨gb233, 0, none⟩) (Kd.Q_types HO_8.out BK233.out (by decide)) (fun _ hk => hk.2) (.string t227)) (fun _ hk => hk.2) (.string t228)) (fun _ hk => hk.2) (.int .i64 t229)) (fun _ hk => hk.2) (.int .i64 t230)) (fun _ hk => hk.2) (.int .i64 t231)) (fun _ hk => ⟨hk.1.1, ⟨hk.1.2.1, hk.1.2.2⟩⟩)⟩
   have n3_ : Aside0 (Kd.Q Kd.string 9 (((((w43.setCell ⟨gb233, 0, none⟩ (.string t227)).setCell ⟨gb233, 1, none⟩ (.string t228)).setCell ⟨gb233, 2, none⟩ (.int .i64 t229)).setCell ⟨gb233, 3, none⟩ (.int .i64 t230)).setCell ⟨gb233, 4, none⟩ (.int .i64 t231)) w.heap.size (fun k_ => some k_ ≠ (.slice (some ad226) t208.length co41 : Value).ownBlock ∧ some k_ ≠ (.slice Ao46 t212.length co46 : Value).ownBlock ∧ some k_ ≠ (.slice Ao47 t217.length co47 : Value).ownBlock) (.slice Ao48 t222.length co48) t222) := ⟨by (with_reducible repeat (first | apply Kd.Q_alloc | apply Kd.Q_drewN | apply Kd.Q_drew)); exact Kd.Q_mono (Kd.Q_far (p := ⟨gb233, 4, none⟩) (Kd.Q_far (p := ⟨gb233, 3, none⟩) (Kd.Q_far (p := ⟨gb233, 2, none⟩) (Kd.Q_far (p := ⟨gb233, 1, none⟩) (Kd.Q_far (p := ⟨gb233, 0, none⟩) (Kd.Q_types HO_10.out BK233.out (by decide)) (fun _ hk => hk.2) (.string t227)) (fun _ hk => hk.2) (.string t228)) (fun _ hk => hk.2) (.int .i64 t229)) (fun _ hk => hk.2) (.int .i64 t230)) (fun _ hk => hk.2) (.int .i64 t231)) (fun _ hk => ⟨hk.1.1, ⟨hk.1.2.1, hk.1.2.2⟩⟩)⟩
   have n4_ : Aside0 ((((((w43.setCell ⟨gb233, 0, none⟩ (.string t227)).setCell ⟨gb233, 1, none⟩ (.string t228)).setCell ⟨gb233, 2, none⟩ (.int .i64 t229)).setCell ⟨gb233, 3, none⟩ (.int .i64 t230)).setCell ⟨gb233, 4, none⟩ (.int .i64 t231)).heap[gb203]? = some (.cells #[.int .i64 0, .string (⟨#[]⟩ : ByteArray), .string (⟨#[]⟩ : ByteArray), .int .i64 0, .int .i64 0, .int .i64 0, .slice none 0 0, .slice none 0 0, .slice none 0 0] 29 (0, 0))) := ⟨fb BK203⟩
   have n5_ : Aside0 ((((((w43.setCell ⟨gb233, 0, none⟩ (.string t227)).setCell ⟨gb233, 1, none⟩ (.string t228)).setCell ⟨gb233, 2, none⟩ (.int .i64 t229)).setCell ⟨gb233, 3, none⟩ (.int .i64 t230)).setCell ⟨gb233, 4, none⟩ (.int .i64 t231)).heap[gb233]? = some (.cells #[.string t227, .string t228, .int .i64 t229, .int .i64 t230, .int .i64 t231] 23 (0, 0))) := ⟨fb BK233⟩
   have n6_ : Aside0 (Below w.heap.size w (((((w43.setCell ⟨gb233, 0, none⟩ (.string t227)).setCell ⟨gb233, 1, none⟩ (.string t228)).setCell ⟨gb233, 2, none⟩ (.int .i64 t229)).setCell ⟨gb233, 3, none⟩ (.int .i64 t230)).setCell ⟨gb233, 4, none⟩ (.int .i64 t231))) := ⟨xB HB⟩
   (try clear HO_5)
   (try clear HO_6)
   (try clear HO_8)
   (try clear HO_10)
   (try clear BK203)
   (try clear BK233)
   (try clear HB)
   generalize (((((w43.setCell ⟨gb233, 0, none⟩ (.string t227)).setCell ⟨gb233, 1, none⟩ (.string t228)).setCell ⟨gb233, 2, none⟩ (.int .i64 t229)).setCell ⟨gb233, 3, none⟩ (.int .i64 t230)).setCell ⟨gb233, 4, none⟩ (.int .i64 t231)) = w49 at n0_ n1_ n2_ n3_ n4_ n5_ n6_ ⊢
   have HO_5 := n0_
   have HO_6 := n1_
   have HO_8 := n2_
   have HO_10 := n3_
   have BK203 := n4_
   have BK233 := n5_
   have HB := n6_
   clear n0_ n1_ n2_ n3_ n4_ n5_ n6_
   replace HO_5 := am (Kd.R_drew HO_5.out)
   replace HO_6 := am (Kd.Q_drew HO_6.out)
   replace HO_8 := am (Kd.Q_drew HO_8.out)
   replace HO_10 := am (Kd.Q_drew HO_10.out)
   replace BK203 := am (blk_drew BK203.out)
   replace BK233 := am (blk_drew BK233.out)
   replace HB := am (below_drew1 HB.out)
   have p234 : 0 ≤ (0 : Int) := (by omega)
   have q234 : 0 < (t208.length : Int) := of_decide_eq_true xA
   obtain ⟨ad234, e234, hx234_0⟩ := Kd.at_string (Kd.R_reads' HO_5.out).2.2 0 p234 q234
   obtain rfl : ad226 = ad234 := (by injection e234)
   have qi234 : (0 < t208.length) = True := eq_true (by omega)
   (try rw [show ((0 : Int)).toNat = 0 from rfl] at hx234_0)
   (try rw [Addr.add_zero'] at hx234_0)
   replace p234 := eq_true p234
   replace q234 := eq_true q234
   (try (clear hzq_ BQ_; obtain ⟨hW_⟩ := hW_; subst hW_))
   refine start_ (n := 15) (S := fun w' => w'.cell? ⟨gb233, 0, none⟩ = some (.string t227) ∧ w'.cell? ⟨gb233, 1, none⟩ = some (.string t228) ∧ w'.cell? ⟨gb233, 2, none⟩ = some (.int .i64 t229) ∧ w'.cell? ⟨gb233, 3, none⟩ = some (.int .i64 t230) ∧ w'.cell? ⟨gb233, 4, none⟩ = some (.int .i64 t231) ∧ w'.cell? ad226 = some (.string (rdOf ByteArray.empty t208 0))) (ds := []) (bm 15 0) (by kernel_rfl) rfl rfl ⟨(blk_cell BK233.out 0).trans rfl, (blk_cell BK233.out 1).trans rfl, (blk_cell BK233.out 2).trans rfl, (blk_cell BK233.out 3).trans rfl, (blk_cell BK233.out 4).trans rfl, hx234_0⟩ (fun hHeld => ?_); refine with_tabW spec_PaidGet.tab11 spec_PaidGet.bits11 (fun HT_ HW_ => ?_)
   generalize w49.drew = w50 at HO_5 HO_6 HO_8 HO_10 BK203 BK233 HB hx234_0 hHeld ⊢
   refine pA 0 69 (bm 15 1) HT_ ?_
   refine pA 1 70 (bm 15 3) HT_ ?_
   refine pA 5 74 (bm 15 35) HT_ ?_
   refine pA 7 76 (bm 15 163) HT_ ?_
   refine pA 10 79 (bm 15 1187) HT_ ?_
   refine tA 2 71 (bm 15 1191) HT_ HW_ hHeld ?_
   refine tA 4 73 (bm 15 1207) HT_ HW_ hHeld ?_
   refine join_ (σ := Value × Value × Value × Nat) 1 (bm 15 16383) (fun s_ => [(72, .int .i64 t235), (75, s_.1), (77, s_.2.1), (80, s_.2.2.1), (14, .pointer (some ⟨s_.2.2.2, 0, none⟩)), (78, .agg #[s_.1, s_.2.1]), (81, .agg #[.int .i64 t235, .string t227, .string t228, .int .i64 t229, .int .i64 t230, .int .i64 t231, s_.1, s_.2.1, s_.2.2.1])]) (fun s_ w' => (w'.cell? ⟨gb233, 0, none⟩ = some (.string t227) ∧ w'.cell? ⟨gb233, 1, none⟩ = some (.string t228) ∧ w'.cell? ⟨gb233, 2, none⟩ = some (.int .i64 t229) ∧ w'.cell? ⟨gb233, 3, none⟩ = some (.int .i64 t230) ∧ w'.cell? ⟨gb233, 4, none⟩ = some (.int .i64 t231) ∧ w'.cell? ad226 = some (.string (rdOf ByteArray.empty t208 0))) ∧ (Kd.R k93 93 w' w.heap.size (fun k_ => some k_ ≠ (s_.2.1 : Value).ownBlock) s_.1 t236) ∧ (Kd.R k93 93 w' w.heap.size (fun k_ => some k_ ≠ (s_.1 : Value).ownBlock) s_.2.1 t239) ∧ (Kd.R k85 85 w' w.heap.size (fun _ => True) s_.2.2.1 t242) ∧ (Kd.Q Kd.string 9 w' w.heap.size (fun k_ => some k_ ≠ (.slice (some ad226) t208.length co41 : Value).ownBlock ∧ some k_ ≠ (.slice Ao46 t212.length co46 : Value).ownBlock ∧ some k_ ≠ (.slice Ao47 t217.length co47 : Value).ownBlock) (.slice Ao48 t222.length co48) t222) ∧ (Kd.R Kd.string 9 w' w.heap.size (fun k_ => some k_ ≠ (.slice Ao48 t222.length co48 : Value).ownBlock ∧ some k_ ≠ (.slice Ao46 t212.length co46 : Value).ownBlock ∧ some k_ ≠ (.slice Ao47 t217.length co47 : Value).ownBlock) (.slice (some ad226) t208.length co41) t208) ∧ (Kd.Q Kd.string 9 w' w.heap.size (fun k_ => some k_ ≠ (.slice Ao48 t222.length co48 : Value).ownBlock ∧ some k_ ≠ (.slice (some ad226) t208.length co41 : Value).ownBlock ∧ some k_ ≠ (.slice Ao47 t217.length co47 : Value).ownBlock) (.slice Ao46 t212.length co46) t212) ∧ (Kd.Q Kd.string 9 w' w.heap.size (fun k_ => some k_ ≠ (.slice Ao48 t222.length co48 : Value).ownBlock ∧ some k_ ≠ (.slice (some ad226) t208.length co41 : Value).ownBlock ∧ some k_ ≠ (.slice Ao46 t212.length co46 : Value).ownBlock) (.slice Ao47 t217.length co47) t217) ∧ (w'.heap[gb203]? = some (.cells #[.int .i64 0, .string (⟨#[]⟩ : ByteArray), .string (⟨#[]⟩ : ByteArray), .int .i64 0, .int .i64 0, .int .i64 0, .slice none 0 0, .slice none 0 0, .slice none 0 0] 29 (0, 0))) ∧ (w'.heap[gb233]? = some (.cells #[.string t227, .string t228, .int .i64 t229, .int .i64 t230, .int .i64 t231] 23 (0, 0))) ∧ (w'.heap[s_.2.2.2]? = some (.cells #[.int .i64 0, .string (⟨#[]⟩ : ByteArray), .string (⟨#[]⟩ : ByteArray), .int .i64 0, .int .i64 0, .int .i64 0, .slice none 0 0, .slice none 0 0, .slice none 0 0] 29 (0, 0))) ∧ (w.heap.size ≤ s_.2.2.2) ∧ (w.heap.size ≤ s_.2.2.2) ∧ (gb203 ≠ s_.2.2.2) ∧ (s_.2.2.2 ≠ gb203) ∧ (gb233 ≠ s_.2.2.2) ∧ (s_.2.2.2 ≠ gb233) ∧ (Below w.heap.size w w')) ?_ ?_
   rotate_left
   ·intro hJ3_6_8_11_13
    refine join_ (σ := Value × Value × Value) 2 (bm 15 8191) (fun s_ => [(72, .int .i64 t235), (75, s_.1), (77, s_.2.1), (80, s_.2.2), (78, .agg #[s_.1, s_.2.1]), (81, .agg #[.int .i64 t235, .string t227, .string t228, .int .i64 t229, .int .i64 t230, .int .i64 t231, s_.1, s_.2.1, s_.2.2])]) (fun s_ w' => (w'.cell? ⟨gb233, 0, none⟩ = some (.string t227) ∧ w'.cell? ⟨gb233, 1, none⟩ = some (.string t228) ∧ w'.cell? ⟨gb233, 2, none⟩ = some (.int .i64 t229) ∧ w'.cell? ⟨gb233, 3, none⟩ = some (.int .i64 t230) ∧ w'.cell? ⟨gb233, 4, none⟩ = some (.int .i64 t231) ∧ w'.cell? ad226 = some (.string (rdOf ByteArray.empty t208 0))) ∧ (Kd.R k93 93 w' w.heap.size (fun k_ => some k_ ≠ (s_.2.1 : Value).ownBlock) s_.1 t236) ∧ (Kd.R k93 93 w' w.heap.size (fun k_ => some k_ ≠ (s_.1 : Value).ownBlock) s_.2.1 t239) ∧ (Kd.R k85 85 w' w.heap.size (fun _ => True) s_.2.2 t242) ∧ (Kd.Q Kd.string 9 w' w.heap.size (fun k_ => some k_ ≠ (.slice (some ad226) t208.length co41 : Value).ownBlock ∧ some k_ ≠ (.slice Ao46 t212.length co46 : Value).ownBlock ∧ some k_ ≠ (.slice Ao47 t217.length co47 : Value).ownBlock) (.slice Ao48 t222.length co48) t222) ∧ (Kd.R Kd.string 9 w' w.heap.size (fun k_ => some k_ ≠ (.slice Ao48 t222.length co48 : Value).ownBlock ∧ some k_ ≠ (.slice Ao46 t212.length co46 : Value).ownBlock ∧ some k_ ≠ (.slice Ao47 t217.length co47 : Value).ownBlock) (.slice (some ad226) t208.length co41) t208) ∧ (Kd.Q Kd.string 9 w' w.heap.size (fun k_ => some k_ ≠ (.slice Ao48 t222.length co48 : Value).ownBlock ∧ some k_ ≠ (.slice (some ad226) t208.length co41 : Value).ownBlock ∧ some k_ ≠ (.slice Ao47 t217.length co47 : Value).ownBlock) (.slice Ao46 t212.length co46) t212) ∧ (Kd.Q Kd.string 9 w' w.heap.size (fun k_ => some k_ ≠ (.slice Ao48 t222.length co48 : Value).ownBlock ∧ some k_ ≠ (.slice (some ad226) t208.length co41 : Value).ownBlock ∧ some k_ ≠ (.slice Ao46 t212.length co46 : Value).ownBlock) (.slice Ao47 t217.length co47) t217) ∧ (w'.heap[gb203]? = some (.cells #[.int .i64 0, .string (⟨#[]⟩ : ByteArray), .string (⟨#[]⟩ : ByteArray), .int .i64 0, .int .i64 0, .int .i64 0, .slice none 0 0, .slice none 0 0, .slice none 0 0] 29 (0, 0))) ∧ (w'.heap[gb233]? = some (.cells #[.string t227, .string t228, .int .i64 t229, .int .i64 t230, .int .i64 t231] 23 (0, 0))) ∧ (Below w.heap.size w w')) ?_ ?_
    rotate_left
    ·intro hJ3_6_8_11
     refine join_ (σ := Value × Value × Nat) 3 (bm 15 10239) (fun s_ => [(72, .int .i64 t235), (75, s_.1), (77, s_.2.1), (14, .pointer (some ⟨s_.2.2, 0, none⟩)), (78, .agg #[s_.1, s_.2.1])]) (fun s_ w' => (w'.cell? ⟨gb233, 0, none⟩ = some (.string t227) ∧ w'.cell? ⟨gb233, 1, none⟩ = some (.string t228) ∧ w'.cell? ⟨gb233, 2, none⟩ = some (.int .i64 t229) ∧ w'.cell? ⟨gb233, 3, none⟩ = some (.int .i64 t230) ∧ w'.cell? ⟨gb233, 4, none⟩ = some (.int .i64 t231) ∧ w'.cell? ad226 = some (.string (rdOf ByteArray.empty t208 0))) ∧ (Kd.R k93 93 w' w.heap.size (fun k_ => some k_ ≠ (s_.2.1 : Value).ownBlock) s_.1 t236) ∧ (Kd.R k93 93 w' w.heap.size (fun k_ => some k_ ≠ (s_.1 : Value).ownBlock) s_.2.1 t239) ∧ (Kd.Q Kd.string 9 w' w.heap.size (fun k_ => some k_ ≠ (.slice (some ad226) t208.length co41 : Value).ownBlock ∧ some k_ ≠ (.slice Ao46 t212.length co46 : Value).ownBlock ∧ some k_ ≠ (.slice Ao47 t217.length co47 : Value).ownBlock) (.slice Ao48 t222.length co48) t222) ∧ (Kd.R Kd.string 9 w' w.heap.size (fun k_ => some k_ ≠ (.slice Ao48 t222.length co48 : Value).ownBlock ∧ some k_ ≠ (.slice Ao46 t212.length co46 : Value).ownBlock ∧ some k_ ≠ (.slice Ao47 t217.length co47 : Value).ownBlock) (.slice (some ad226) t208.length co41) t208) ∧ (Kd.Q Kd.string 9 w' w.heap.size (fun k_ => some k_ ≠ (.slice Ao48 t222.length co48 : Value).ownBlock ∧ some k_ ≠ (.slice (some ad226) t208.length co41 : Value).ownBlock ∧ some k_ ≠ (.slice Ao47 t217.length co47 : Value).ownBlock) (.slice Ao46 t212.length co46) t212) ∧ (Kd.Q Kd.string 9 w' w.heap.size (fun k_ => some k_ ≠ (.slice Ao48 t222.length co48 : Value).ownBlock ∧ some k_ ≠ (.slice (some ad226) t208.length co41 : Value).ownBlock ∧ some k_ ≠ (.slice Ao46 t212.length co46 : Value).ownBlock) (.slice Ao47 t217.length co47) t217) ∧ (w'.heap[gb203]? = some (.cells #[.int .i64 0, .string (⟨#[]⟩ : ByteArray), .string (⟨#[]⟩ : ByteArray), .int .i64 0, .int .i64 0, .int .i64 0, .slice none 0 0, .slice none 0 0, .slice none 0 0] 29 (0, 0))) ∧ (w'.heap[gb233]? = some (.cells #[.string t227, .string t228, .int .i64 t229, .int .i64 t230, .int .i64 t231] 23 (0, 0))) ∧ (w'.heap[s_.2.2]? = some (.cells #[.int .i64 0, .string (⟨#[]⟩ : ByteArray), .string (⟨#[]⟩ : ByteArray), .int .i64 0, .int .i64 0, .int .i64 0, .slice none 0 0, .slice none 0 0, .slice none 0 0] 29 (0, 0))) ∧ (w.heap.size ≤ s_.2.2) ∧ (w.heap.size ≤ s_.2.2) ∧ (gb203 ≠ s_.2.2) ∧ (s_.2.2 ≠ gb203) ∧ (gb233 ≠ s_.2.2) ∧ (s_.2.2 ≠ gb233) ∧ (Below w.heap.size w w')) ?_ ?_
     rotate_left
     ·intro hJ3_6_8_13
      refine join_ (σ := Value × Value) 4 (bm 15 2047) (fun s_ => [(72, .int .i64 t235), (75, s_.1), (77, s_.2), (78, .agg #[s_.1, s_.2])]) (fun s_ w' => (w'.cell? ⟨gb233, 0, none⟩ = some (.string t227) ∧ w'.cell? ⟨gb233, 1, none⟩ = some (.string t228) ∧ w'.cell? ⟨gb233, 2, none⟩ = some (.int .i64 t229) ∧ w'.cell? ⟨gb233, 3, none⟩ = some (.int .i64 t230) ∧ w'.cell? ⟨gb233, 4, none⟩ = some (.int .i64 t231) ∧ w'.cell? ad226 = some (.string (rdOf ByteArray.empty t208 0))) ∧ (Kd.R k93 93 w' w.heap.size (fun k_ => some k_ ≠ (s_.2 : Value).ownBlock) s_.1 t236) ∧ (Kd.R k93 93 w' w.heap.size (fun k_ => some k_ ≠ (s_.1 : Value).ownBlock) s_.2 t239) ∧ (Kd.Q Kd.string 9 w' w.heap.size (fun k_ => some k_ ≠ (.slice (some ad226) t208.length co41 : Value).ownBlock ∧ some k_ ≠ (.slice Ao46 t212.length co46 : Value).ownBlock ∧ some k_ ≠ (.slice Ao47 t217.length co47 : Value).ownBlock) (.slice Ao48 t222.length co48) t222) ∧ (Kd.R Kd.string 9 w' w.heap.size (fun k_ => some k_ ≠ (.slice Ao48 t222.length co48 : Value).ownBlock ∧ some k_ ≠ (.slice Ao46 t212.length co46 : Value).ownBlock ∧ some k_ ≠ (.slice Ao47 t217.length co47 : Value).ownBlock) (.slice (some ad226) t208.length co41) t208) ∧ (Kd.Q Kd.string 9 w' w.heap.size (fun k_ => some k_ ≠ (.slice Ao48 t222.length co48 : Value).ownBlock ∧ some k_ ≠ (.slice (some ad226) t208.length co41 : Value).ownBlock ∧ some k_ ≠ (.slice Ao47 t217.length co47 : Value).ownBlock) (.slice Ao46 t212.length co46) t212) ∧ (Kd.Q Kd.string 9 w' w.heap.size (fun k_ => some k_ ≠ (.slice Ao48 t222.length co48 : Value).ownBlock ∧ some k_ ≠ (.slice (some ad226) t208.length co41 : Value).ownBlock ∧ some k_ ≠ (.slice Ao46 t212.length co46 : Value).ownBlock) (.slice Ao47 t217.length co47) t217) ∧ (w'.heap[gb203]? = some (.cells #[.int .i64 0, .string (⟨#[]⟩ : ByteArray), .string (⟨#[]⟩ : ByteArray), .int .i64 0, .int .i64 0, .int .i64 0, .slice none 0 0, .slice none 0 0, .slice none 0 0] 29 (0, 0))) ∧ (w'.heap[gb233]? = some (.cells #[.string t227, .string t228, .int .i64 t229, .int .i64 t230, .int .i64 t231] 23 (0, 0))) ∧ (Below w.heap.size w w')) ?_ ?_
      rotate_left
      ·intro hJ3_6_8
       refine join_ (σ := Value × Nat) 5 (bm 15 9471) (fun s_ => [(72, .int .i64 t235), (75, s_.1), (14, .pointer (some ⟨s_.2, 0, none⟩))]) (fun s_ w' => (w'.cell? ⟨gb233, 0, none⟩ = some (.string t227) ∧ w'.cell? ⟨gb233, 1, none⟩ = some (.string t228) ∧ w'.cell? ⟨gb233, 2, none⟩ = some (.int .i64 t229) ∧ w'.cell? ⟨gb233, 3, none⟩ = some (.int .i64 t230) ∧ w'.cell? ⟨gb233, 4, none⟩ = some (.int .i64 t231) ∧ w'.cell? ad226 = some (.string (rdOf ByteArray.empty t208 0))) ∧ (Kd.R k93 93 w' w.heap.size (fun _ => True) s_.1 t236) ∧ (Kd.Q Kd.string 9 w' w.heap.size (fun k_ => some k_ ≠ (.slice (some ad226) t208.length co41 : Value).ownBlock ∧ some k_ ≠ (.slice Ao46 t212.length co46 : Value).ownBlock ∧ some k_ ≠ (.slice Ao47 t217.length co47 : Value).ownBlock) (.slice Ao48 t222.length co48) t222) ∧ (Kd.R Kd.string 9 w' w.heap.size (fun k_ => some k_ ≠ (.slice Ao48 t222.length co48 : Value).ownBlock ∧ some k_ ≠ (.slice Ao46 t212.length co46 : Value).ownBlock ∧ some k_ ≠ (.slice Ao47 t217.length co47 : Value).ownBlock) (.slice (some ad226) t208.length co41) t208) ∧ (Kd.Q Kd.string 9 w' w.heap.size (fun k_ => some k_ ≠ (.slice Ao48 t222.length co48 : Value).ownBlock ∧ some k_ ≠ (.slice (some ad226) t208.length co41 : Value).ownBlock ∧ some k_ ≠ (.slice Ao47 t217.length co47 : Value).ownBlock) (.slice Ao46 t212.length co46) t212) ∧ (Kd.Q Kd.string 9 w' w.heap.size (fun k_ => some k_ ≠ (.slice Ao48 t222.length co48 : Value).ownBlock ∧ some k_ ≠ (.slice (some ad226) t208.length co41 : Value).ownBlock ∧ some k_ ≠ (.slice Ao46 t212.length co46 : Value).ownBlock) (.slice Ao47 t217.length co47) t217) ∧ (w'.heap[gb203]? = some (.cells #[.int .i64 0, .string (⟨#[]⟩ : ByteArray), .string (⟨#[]⟩ : ByteArray), .int .i64 0, .int .i64 0, .int .i64 0, .slice none 0 0, .slice none 0 0, .slice none 0 0] 29 (0, 0))) ∧ (w'.heap[gb233]? = some (.cells #[.string t227, .string t228, .int .i64 t229, .int .i64 t230, .int .i64 t231] 23 (0, 0))) ∧ (w'.heap[s_.2]? = some (.cells #[.int .i64 0, .string (⟨#[]⟩ : ByteArray), .string (⟨#[]⟩ : ByteArray), .int .i64 0, .int .i64 0, .int .i64 0, .slice none 0 0, .slice none 0 0, .slice none 0 0] 29 (0, 0))) ∧ (w.heap.size ≤ s_.2) ∧ (w.heap.size ≤ s_.2) ∧ (gb203 ≠ s_.2) ∧ (s_.2 ≠ gb203) ∧ (gb233 ≠ s_.2) ∧ (s_.2 ≠ gb233) ∧ (Below w.heap.size w w')) ?_ ?_
       rotate_left
       ·intro hJ3_6_13
        refine join_ (σ := Value) 6 (bm 15 1279) (fun s_ => [(72, .int .i64 t235), (75, s_)]) (fun s_ w' => (w'.cell? ⟨gb233, 0, none⟩ = some (.string t227) ∧ w'.cell? ⟨gb233, 1, none⟩ = some (.string t228) ∧ w'.cell? ⟨gb233, 2, none⟩ = some (.int .i64 t229) ∧ w'.cell? ⟨gb233, 3, none⟩ = some (.int .i64 t230) ∧ w'.cell? ⟨gb233, 4, none⟩ = some (.int .i64 t231) ∧ w'.cell? ad226 = some (.string (rdOf ByteArray.empty t208 0))) ∧ (Kd.R k93 93 w' w.heap.size (fun _ => True) s_ t236) ∧ (Kd.Q Kd.string 9 w' w.heap.size (fun k_ => some k_ ≠ (.slice (some ad226) t208.length co41 : Value).ownBlock ∧ some k_ ≠ (.slice Ao46 t212.length co46 : Value).ownBlock ∧ some k_ ≠ (.slice Ao47 t217.length co47 : Value).ownBlock) (.slice Ao48 t222.length co48) t222) ∧ (Kd.R Kd.string 9 w' w.heap.size (fun k_ => some k_ ≠ (.slice Ao48 t222.length co48 : Value).ownBlock ∧ some k_ ≠ (.slice Ao46 t212.length co46 : Value).ownBlock ∧ some k_ ≠ (.slice Ao47 t217.length co47 : Value).ownBlock) (.slice (some ad226) t208.length co41) t208) ∧ (Kd.Q Kd.string 9 w' w.heap.size (fun k_ => some k_ ≠ (.slice Ao48 t222.length co48 : Value).ownBlock ∧ some k_ ≠ (.slice (some ad226) t208.length co41 : Value).ownBlock ∧ some k_ ≠ (.slice Ao47 t217.length co47 : Value).ownBlock) (.slice Ao46 t212.length co46) t212) ∧ (Kd.Q Kd.string 9 w' w.heap.size (fun k_ => some k_ ≠ (.slice Ao48 t222.length co48 : Value).ownBlock ∧ some k_ ≠ (.slice (some ad226) t208.length co41 : Value).ownBlock ∧ some k_ ≠ (.slice Ao46 t212.length co46 : Value).ownBlock) (.slice Ao47 t217.length co47) t217) ∧ (w'.heap[gb203]? = some (.cells #[.int .i64 0, .string (⟨#[]⟩ : ByteArray), .string (⟨#[]⟩ : ByteArray), .int .i64 0, .int .i64 0, .int .i64 0, .slice none 0 0, .slice none 0 0, .slice none 0 0] 29 (0, 0))) ∧ (w'.heap[gb233]? = some (.cells #[.string t227, .string t228, .int .i64 t229, .int .i64 t230, .int .i64 t231] 23 (0, 0))) ∧ (Below w.heap.size w w')) ?_ ?_
        rotate_left
        ·intro hJ3_6
         refine join_ (σ := Nat) 6 (bm 15 9407) (fun s_ => [(72, .int .i64 t235), (14, .pointer (some ⟨s_, 0, none⟩))]) (fun s_ w' => (w'.cell? ⟨gb233, 0, none⟩ = some (.string t227) ∧ w'.cell? ⟨gb233, 1, none⟩ = some (.string t228) ∧ w'.cell? ⟨gb233, 2, none⟩ = some (.int .i64 t229) ∧ w'.cell? ⟨gb233, 3, none⟩ = some (.int .i64 t230) ∧ w'.cell? ⟨gb233, 4, none⟩ = some (.int .i64 t231) ∧ w'.cell? ad226 = some (.string (rdOf ByteArray.empty t208 0))) ∧ (Kd.Q Kd.string 9 w' w.heap.size (fun k_ => some k_ ≠ (.slice (some ad226) t208.length co41 : Value).ownBlock ∧ some k_ ≠ (.slice Ao46 t212.length co46 : Value).ownBlock ∧ some k_ ≠ (.slice Ao47 t217.length co47 : Value).ownBlock) (.slice Ao48 t222.length co48) t222) ∧ (Kd.R Kd.string 9 w' w.heap.size (fun k_ => some k_ ≠ (.slice Ao48 t222.length co48 : Value).ownBlock ∧ some k_ ≠ (.slice Ao46 t212.length co46 : Value).ownBlock ∧ some k_ ≠ (.slice Ao47 t217.length co47 : Value).ownBlock) (.slice (some ad226) t208.length co41) t208) ∧ (Kd.Q Kd.string 9 w' w.heap.size (fun k_ => some k_ ≠ (.slice Ao48 t222.length co48 : Value).ownBlock ∧ some k_ ≠ (.slice (some ad226) t208.length co41 : Value).ownBlock ∧ some k_ ≠ (.slice Ao47 t217.length co47 : Value).ownBlock) (.slice Ao46 t212.length co46) t212) ∧ (Kd.Q Kd.string 9 w' w.heap.size (fun k_ => some k_ ≠ (.slice Ao48 t222.length co48 : Value).ownBlock ∧ some k_ ≠ (.slice (some ad226) t208.length co41 : Value).ownBlock ∧ some k_ ≠ (.slice Ao46 t212.length co46 : Value).ownBlock) (.slice Ao47 t217.length co47) t217) ∧ (w'.heap[gb203]? = some (.cells #[.int .i64 0, .string (⟨#[]⟩ : ByteArray), .string (⟨#[]⟩ : ByteArray), .int .i64 0, .int .i64 0, .int .i64 0, .slice none 0 0, .slice none 0 0, .slice none 0 0] 29 (0, 0))) ∧ (w'.heap[gb233]? = some (.cells #[.string t227, .string t228, .int .i64 t229, .int .i64 t230, .int .i64 t231] 23 (0, 0))) ∧ (w'.heap[s_]? = some (.cells #[.int .i64 0, .string (⟨#[]⟩ : ByteArray), .string (⟨#[]⟩ : ByteArray), .int .i64 0, .int .i64 0, .int .i64 0, .slice none 0 0, .slice none 0 0, .slice none 0 0] 29 (0, 0))) ∧ (w.heap.size ≤ s_) ∧ (w.heap.size ≤ s_) ∧ (gb203 ≠ s_) ∧ (s_ ≠ gb203) ∧ (gb233 ≠ s_) ∧ (s_ ≠ gb233) ∧ (Below w.heap.size w w')) ?_ ?_
         rotate_left
         ·intro hJ3_13
          refine join_ (σ := Unit) 7 (bm 15 1215) (fun s_ => [(72, .int .i64 t235)]) (fun s_ w' => (w'.cell? ⟨gb233, 0, none⟩ = some (.string t227) ∧ w'.cell? ⟨gb233, 1, none⟩ = some (.string t228) ∧ w'.cell? ⟨gb233, 2, none⟩ = some (.int .i64 t229) ∧ w'.cell? ⟨gb233, 3, none⟩ = some (.int .i64 t230) ∧ w'.cell? ⟨gb233, 4, none⟩ = some (.int .i64 t231) ∧ w'.cell? ad226 = some (.string (rdOf ByteArray.empty t208 0))) ∧ (Kd.Q Kd.string 9 w' w.heap.size (fun k_ => some k_ ≠ (.slice (some ad226) t208.length co41 : Value).ownBlock ∧ some k_ ≠ (.slice Ao46 t212.length co46 : Value).ownBlock ∧ some k_ ≠ (.slice Ao47 t217.length co47 : Value).ownBlock) (.slice Ao48 t222.length co48) t222) ∧ (Kd.R Kd.string 9 w' w.heap.size (fun k_ => some k_ ≠ (.slice Ao48 t222.length co48 : Value).ownBlock ∧ some k_ ≠ (.slice Ao46 t212.length co46 : Value).ownBlock ∧ some k_ ≠ (.slice Ao47 t217.length co47 : Value).ownBlock) (.slice (some ad226) t208.length co41) t208) ∧ (Kd.Q Kd.string 9 w' w.heap.size (fun k_ => some k_ ≠ (.slice Ao48 t222.length co48 : Value).ownBlock ∧ some k_ ≠ (.slice (some ad226) t208.length co41 : Value).ownBlock ∧ some k_ ≠ (.slice Ao47 t217.length co47 : Value).ownBlock) (.slice Ao46 t212.length co46) t212) ∧ (Kd.Q Kd.string 9 w' w.heap.size (fun k_ => some k_ ≠ (.slice Ao48 t222.length co48 : Value).ownBlock ∧ some k_ ≠ (.slice (some ad226) t208.length co41 : Value).ownBlock ∧ some k_ ≠ (.slice Ao46 t212.length co46 : Value).ownBlock) (.slice Ao47 t217.length co47) t217) ∧ (w'.heap[gb203]? = some (.cells #[.int .i64 0, .string (⟨#[]⟩ : ByteArray), .string (⟨#[]⟩ : ByteArray), .int .i64 0, .int .i64 0, .int .i64 0, .slice none 0 0, .slice none 0 0, .slice none 0 0] 29 (0, 0))) ∧ (w'.heap[gb233]? = some (.cells #[.string t227, .string t228, .int .i64 t229, .int .i64 t230, .int .i64 t231] 23 (0, 0))) ∧ (Below w.heap.size w w')) ?_ ?_
          rotate_left
          ·intro hJ3
           refine join_ (σ := Nat) 7 (bm 15 9399) (fun s_ => [(14, .pointer (some ⟨s_, 0, none⟩))]) (fun s_ w' => (w'.cell? ⟨gb233, 0, none⟩ = some (.string t227) ∧ w'.cell? ⟨gb233, 1, none⟩ = some (.string t228) ∧ w'.cell? ⟨gb233, 2, none⟩ = some (.int .i64 t229) ∧ w'.cell? ⟨gb233, 3, none⟩ = some (.int .i64 t230) ∧ w'.cell? ⟨gb233, 4, none⟩ = some (.int .i64 t231) ∧ w'.cell? ad226 = some (.string (rdOf ByteArray.empty t208 0))) ∧ (Kd.Q Kd.string 9 w' w.heap.size (fun k_ => some k_ ≠ (.slice (some ad226) t208.length co41 : Value).ownBlock ∧ some k_ ≠ (.slice Ao46 t212.length co46 : Value).ownBlock ∧ some k_ ≠ (.slice Ao47 t217.length co47 : Value).ownBlock) (.slice Ao48 t222.length co48) t222) ∧ (Kd.R Kd.string 9 w' w.heap.size (fun k_ => some k_ ≠ (.slice Ao48 t222.length co48 : Value).ownBlock ∧ some k_ ≠ (.slice Ao46 t212.length co46 : Value).ownBlock ∧ some k_ ≠ (.slice Ao47 t217.length co47 : Value).ownBlock) (.slice (some ad226) t208.length co41) t208) ∧ (Kd.Q Kd.string 9 w' w.heap.size (fun k_ => some k_ ≠ (.slice Ao48 t222.length co48 : Value).ownBlock ∧ some k_ ≠ (.slice (some ad226) t208.length co41 : Value).ownBlock ∧ some k_ ≠ (.slice Ao47 t217.length co47 : Value).ownBlock) (.slice Ao46 t212.length co46) t212) ∧ (Kd.Q Kd.string 9 w' w.heap.size (fun k_ => some k_ ≠ (.slice Ao48 t222.length co48 : Value).ownBlock ∧ some k_ ≠ (.slice (some ad226) t208.length co41 : Value).ownBlock ∧ some k_ ≠ (.slice Ao46 t212.length co46 : Value).ownBlock) (.slice Ao47 t217.length co47) t217) ∧ (w'.heap[gb203]? = some (.cells #[.int .i64 0, .string (⟨#[]⟩ : ByteArray), .string (⟨#[]⟩ : ByteArray), .int .i64 0, .int .i64 0, .int .i64 0, .slice none 0 0, .slice none 0 0, .slice none 0 0] 29 (0, 0))) ∧ (w'.heap[gb233]? = some (.cells #[.string t227, .string t228, .int .i64 t229, .int .i64 t230, .int .i64 t231] 23 (0, 0))) ∧ (w'.heap[s_]? = some (.cells #[.int .i64 0, .string (⟨#[]⟩ : ByteArray), .string (⟨#[]⟩ : ByteArray), .int .i64 0, .int .i64 0, .int .i64 0, .slice none 0 0, .slice none 0 0, .slice none 0 0] 29 (0, 0))) ∧ (w.heap.size ≤ s_) ∧ (w.heap.size ≤ s_) ∧ (gb203 ≠ s_) ∧ (s_ ≠ gb203) ∧ (gb233 ≠ s_) ∧ (s_ ≠ gb233) ∧ (Below w.heap.size w w')) ?_ ?_
           rotate_left
           ·intro hJ13
            refine two_ (i := 3) (j := 13) (Ni := some 72) (Nj := some 14) (bm 15 1215) (bm 15 9399) rfl rfl rfl rfl (two_of HT_.out (by kernel_rfl)) (by decide) (by decide) (fun K hK => ?_) (fun K hK => ?_)
            ·skip
             refine gA Tryd.func27 #[.string (rdOf ByteArray.empty t208 0)] ?_
             with_reducible refine (spec_l1Num.calls kj11 (rdOf ByteArray.empty t208 0) t235 _ A32.out).mono ?_
             rintro e w' ⟨rfl, ⟨nd, rfl⟩⟩
             refine ⟨_, rfl, ?_⟩
             refine hK.out _ _ ⟨(blk_cell BK233.out 0).trans rfl, (blk_cell BK233.out 1).trans rfl, (blk_cell BK233.out 2).trans rfl, (blk_cell BK233.out 3).trans rfl, (blk_cell BK233.out 4).trans rfl, hHeld.2.2.2.2.2⟩ (fun hHeld => ?_)
             clear hK K
             refine nA (some 72) ?_
             exact norm_ (by first | (simp only [putAll, Act.put, sa, s0, s1]; done) | (simp only [putAll, Act.put, sa, s0, s1]; rfl)) (hJ3 () _ ⟨hHeld, (qa HO_10), (rM HO_5 (fun _ hk => ⟨hk.2.2, ⟨hk.1, hk.2.1⟩⟩)), (by (with_reducible repeat (first | apply Kd.Q_alloc | apply Kd.Q_drewN | apply Kd.Q_drew)); exact Kd.Q_mono HO_6.out (fun _ hk => ⟨hk.2.2, ⟨hk.1, hk.2.1⟩⟩)), (by (with_reducible repeat (first | apply Kd.Q_alloc | apply Kd.Q_drewN | apply Kd.Q_drew)); exact Kd.Q_mono HO_8.out (fun _ hk => ⟨hk.2.2, ⟨hk.1, hk.2.1⟩⟩)), (kb BK203), (kb BK233), (xB HB)⟩)
            ·skip
             refine bS 14 #[.int .i64 0, .string (⟨#[]⟩ : ByteArray), .string (⟨#[]⟩ : ByteArray), .int .i64 0, .int .i64 0, .int .i64 0, .slice none 0 0, .slice none 0 0, .slice none 0 0] 29 ?_
             intro gb245 hg w51 hbox hb
             have HS5_ := (hb.cell (World.block_lt_of_cell? _ _ (hHeld.2.2.2.2.2))).trans (hHeld.2.2.2.2.2)
             replace HO_5 := rk HO_5 hb
             replace HO_6 := qk HO_6 hb
             replace HO_8 := qk HO_8 hb
             replace HO_10 := qk HO_10 hb
             have BK245 := am (hbox)
             have GW245 := zB hg HB
             have GE245 := zB hg HB
             replace HB := kH HB hb
             have NB203_245 := nl hg (kb BK203)
             have NB245_203 := ng hg (kb BK203)
             replace BK203 := kP _ BK203 hb
             have NB233_245 := nl hg (kb BK233)
             have NB245_233 := ng hg (kb BK233)
             replace BK233 := kP _ BK233 hb
             clear hb hbox hg
             refine hK.out _ _ ⟨(blk_cell BK233.out 0).trans rfl, (blk_cell BK233.out 1).trans rfl, (blk_cell BK233.out 2).trans rfl, (blk_cell BK233.out 3).trans rfl, (blk_cell BK233.out 4).trans rfl, HS5_⟩ (fun hHeld => ?_)
             clear hK K
             refine nA (some 14) ?_
             exact norm_ (by first | (simp only [putAll, Act.put, sa, s0, s1]; done) | (simp only [putAll, Act.put, sa, s0, s1]; rfl)) (hJ13 (gb245) _ ⟨hHeld, (qa HO_10), (rM HO_5 (fun _ hk => ⟨hk.2.2, ⟨hk.1, hk.2.1⟩⟩)), (by (with_reducible repeat (first | apply Kd.Q_alloc | apply Kd.Q_drewN | apply Kd.Q_drew)); exact Kd.Q_mono HO_6.out (fun _ hk => ⟨hk.2.2, ⟨hk.1, hk.2.1⟩⟩)), (by (with_reducible repeat (first | apply Kd.Q_alloc | apply Kd.Q_drewN | apply Kd.Q_drew)); exact Kd.Q_mono HO_8.out (fun _ hk => ⟨hk.2.2, ⟨hk.1, hk.2.1⟩⟩)), (kb BK203), (kb BK233), (kb BK245), GW245.out, GE245.out, NB203_245.out, NB245_203.out, NB233_245.out, NB245_233.out, (xB HB)⟩)
           ·skip
            rintro gb245 w52 ⟨hS_, h0_, h1_, h2_, h3_, h4_, h5_, h6_, h7_, h8_, h9_, h10_, h11_, h12_, h13_⟩
            have n0_ : Aside0 (Kd.Q Kd.string 9 w52 w.heap.size (fun k_ => some k_ ≠ (.slice (some ad226) t208.length co41 : Value).ownBlock ∧ some k_ ≠ (.slice Ao46 t212.length co46 : Value).ownBlock ∧ some k_ ≠ (.slice Ao47 t217.length co47 : Value).ownBlock) (.slice Ao48 t222.length co48) t222) := ⟨h0_⟩
            have n1_ : Aside0 (Kd.R Kd.string 9 w52 w.heap.size (fun k_ => some k_ ≠ (.slice Ao48 t222.length co48 : Value).ownBlock ∧ some k_ ≠ (.slice Ao46 t212.length co46 : Value).ownBlock ∧ some k_ ≠ (.slice Ao47 t217.length co47 : Value).ownBlock) (.slice (some ad226) t208.length co41) t208) := ⟨h1_⟩
            have n2_ : Aside0 (Kd.Q Kd.string 9 w52 w.heap.size (fun k_ => some k_ ≠ (.slice Ao48 t222.length co48 : Value).ownBlock ∧ some k_ ≠ (.slice (some ad226) t208.length co41 : Value).ownBlock ∧ some k_ ≠ (.slice Ao47 t217.length co47 : Value).ownBlock) (.slice Ao46 t212.length co46) t212) := ⟨h2_⟩
            have n3_ : Aside0 (Kd.Q Kd.string 9 w52 w.heap.size (fun k_ => some k_ ≠ (.slice Ao48 t222.length co48 : Value).ownBlock ∧ some k_ ≠ (.slice (some ad226) t208.length co41 : Value).ownBlock ∧ some k_ ≠ (.slice Ao46 t212.length co46 : Value).ownBlock) (.slice Ao47 t217.length co47) t217) := ⟨h3_⟩
            have n4_ : Aside0 (w52.heap[gb203]? = some (.cells #[.int .i64 0, .string (⟨#[]⟩ : ByteArray), .string (⟨#[]⟩ : ByteArray), .int .i64 0, .int .i64 0, .int .i64 0, .slice none 0 0, .slice none 0 0, .slice none 0 0] 29 (0, 0))) := ⟨h4_⟩
            have n5_ : Aside0 (w52.heap[gb233]? = some (.cells #[.string t227, .string t228, .int .i64 t229, .int .i64 t230, .int .i64 t231] 23 (0, 0))) := ⟨h5_⟩
            have n6_ : Aside0 (w52.heap[gb245]? = some (.cells #[.int .i64 0, .string (⟨#[]⟩ : ByteArray), .string (⟨#[]⟩ : ByteArray), .int .i64 0, .int .i64 0, .int .i64 0, .slice none 0 0, .slice none 0 0, .slice none 0 0] 29 (0, 0))) := ⟨h6_⟩
            have n7_ : Aside0 (w.heap.size ≤ gb245) := ⟨h7_⟩
            have n8_ : Aside0 (w.heap.size ≤ gb245) := ⟨h8_⟩
            have n9_ : Aside0 (gb203 ≠ gb245) := ⟨h9_⟩
            have n10_ : Aside0 (gb245 ≠ gb203) := ⟨h10_⟩
            have n11_ : Aside0 (gb233 ≠ gb245) := ⟨h11_⟩
            have n12_ : Aside0 (gb245 ≠ gb233) := ⟨h12_⟩
            have n13_ : Aside0 (Below w.heap.size w w52) := ⟨h13_⟩
            clear HO_5
            clear HO_6
            clear HO_8
            clear HO_10
            clear BK203
            clear BK233
            clear HB
            clear h0_ h1_ h2_ h3_ h4_ h5_ h6_ h7_ h8_ h9_ h10_ h11_ h12_ h13_
            have HO_10 := n0_
            have HO_5 := n1_
            have HO_6 := n2_
            have HO_8 := n3_
            have BK203 := n4_
            have BK233 := n5_
            have BK245 := n6_
            have GW245 := n7_
            have GE245 := n8_
            have NB203_245 := n9_
            have NB245_203 := n10_
            have NB233_245 := n11_
            have NB245_233 := n12_
            have HB := n13_
            clear n0_ n1_ n2_ n3_ n4_ n5_ n6_ n7_ n8_ n9_ n10_ n11_ n12_ n13_
            have hHeld : w52.cell? ⟨gb233, 0, none⟩ = some (.string t227) ∧ w52.cell? ⟨gb233, 1, none⟩ = some (.string t228) ∧ w52.cell? ⟨gb233, 2, none⟩ = some (.int .i64 t229) ∧ w52.cell? ⟨gb233, 3, none⟩ = some (.int .i64 t230) ∧ w52.cell? ⟨gb233, 4, none⟩ = some (.int .i64 t231) ∧ w52.cell? ad226 = some (.string (rdOf ByteArray.empty t208 0)) := hS_
            refine norm_ (a' := ?_) ?_ ?_
            rotate_left
            ·simp only [putAll, Act.put, sa, s0, s1]
             rfl
            refine oA 3 (some 72) (bm 15 9407) HT_ fun K hK => ?_
            refine gA Tryd.func27 #[.string (rdOf ByteArray.empty t208 0)] ?_
            with_reducible refine (spec_l1Num.calls kj11 (rdOf ByteArray.empty t208 0) t235 _ A32.out).mono ?_
            rintro e w' ⟨rfl, ⟨nd, rfl⟩⟩
            refine ⟨_, rfl, ?_⟩
            refine hK.out _ _ ⟨(blk_cell BK233.out 0).trans rfl, (blk_cell BK233.out 1).trans rfl, (blk_cell BK233.out 2).trans rfl, (blk_cell BK233.out 3).trans rfl, (blk_cell BK233.out 4).trans rfl, hHeld.2.2.2.2.2⟩ (fun hHeld => ?_)
            clear hK K
            refine nA (some 72) ?_
            exact norm_ (by first | (simp only [putAll, Act.put, sa, s0, s1]; done) | (simp only [putAll, Act.put, sa, s0, s1]; rfl)) (hJ3_13 (gb245) _ ⟨hHeld, (qa HO_10), (ra HO_5), (qa HO_6), (qa HO_8), (kb BK203), (kb BK233), (kb BK245), GW245.out, GE245.out, NB203_245.out, NB245_203.out, NB233_245.out, NB245_233.out, (xB HB)⟩)
          ·skip
           rintro _ w51 ⟨hS_, h0_, h1_, h2_, h3_, h4_, h5_, h6_⟩
           have n0_ : Aside0 (Kd.Q Kd.string 9 w51 w.heap.size (fun k_ => some k_ ≠ (.slice (some ad226) t208.length co41 : Value).ownBlock ∧ some k_ ≠ (.slice Ao46 t212.length co46 : Value).ownBlock ∧ some k_ ≠ (.slice Ao47 t217.length co47 : Value).ownBlock) (.slice Ao48 t222.length co48) t222) := ⟨h0_⟩
           have n1_ : Aside0 (Kd.R Kd.string 9 w51 w.heap.size (fun k_ => some k_ ≠ (.slice Ao48 t222.length co48 : Value).ownBlock ∧ some k_ ≠ (.slice Ao46 t212.length co46 : Value).ownBlock ∧ some k_ ≠ (.slice Ao47 t217.length co47 : Value).ownBlock) (.slice (some ad226) t208.length co41) t208) := ⟨h1_⟩
           have n2_ : Aside0 (Kd.Q Kd.string 9 w51 w.heap.size (fun k_ => some k_ ≠ (.slice Ao48 t222.length co48 : Value).ownBlock ∧ some k_ ≠ (.slice (some ad226) t208.length co41 : Value).ownBlock ∧ some k_ ≠ (.slice Ao47 t217.length co47 : Value).ownBlock) (.slice Ao46 t212.length co46) t212) := ⟨h2_⟩
           have n3_ : Aside0 (Kd.Q Kd.string 9 w51 w.heap.size (fun k_ => some k_ ≠ (.slice Ao48 t222.length co48 : Value).ownBlock ∧ some k_ ≠ (.slice (some ad226) t208.length co41 : Value).ownBlock ∧ some k_ ≠ (.slice Ao46 t212.length co46 : Value).ownBlock) (.slice Ao47 t217.length co47) t217) := ⟨h3_⟩
           have n4_ : Aside0 (w51.heap[gb203]? = some (.cells #[.int .i64 0, .string (⟨#[]⟩ : ByteArray), .string (⟨#[]⟩ : ByteArray), .int .i64 0, .int .i64 0, .int .i64 0, .slice none 0 0, .slice none 0 0, .slice none 0 0] 29 (0, 0))) := ⟨h4_⟩
           have n5_ : Aside0 (w51.heap[gb233]? = some (.cells #[.string t227, .string t228, .int .i64 t229, .int .i64 t230, .int .i64 t231] 23 (0, 0))) := ⟨h5_⟩
           have n6_ : Aside0 (Below w.heap.size w w51) := ⟨h6_⟩
           clear HO_5
           clear HO_6
           clear HO_8
           clear HO_10
           clear BK203
           clear BK233
           clear HB
           clear h0_ h1_ h2_ h3_ h4_ h5_ h6_
           have HO_10 := n0_
           have HO_5 := n1_
           have HO_6 := n2_
           have HO_8 := n3_
           have BK203 := n4_
           have BK233 := n5_
           have HB := n6_
           clear n0_ n1_ n2_ n3_ n4_ n5_ n6_
           have hHeld : w51.cell? ⟨gb233, 0, none⟩ = some (.string t227) ∧ w51.cell? ⟨gb233, 1, none⟩ = some (.string t228) ∧ w51.cell? ⟨gb233, 2, none⟩ = some (.int .i64 t229) ∧ w51.cell? ⟨gb233, 3, none⟩ = some (.int .i64 t230) ∧ w51.cell? ⟨gb233, 4, none⟩ = some (.int .i64 t231) ∧ w51.cell? ad226 = some (.string (rdOf ByteArray.empty t208 0)) := hS_
           refine norm_ (a' := ?_) ?_ ?_
           rotate_left
           ·simp only [putAll, Act.put, sa, s0, s1]
            rfl
           refine two_ (i := 6) (j := 13) (Ni := some 75) (Nj := some 14) (bm 15 1279) (bm 15 9407) rfl rfl rfl rfl (two_of HT_.out (by kernel_rfl)) (by decide) (by decide) (fun K hK => ?_) (fun K hK => ?_)
           ·skip
            refine gA Tryd.func28 #[.slice Ao46 t212.length co46] ?_
            with_reducible refine (spec_l9GetPeaks.calls kj11 _ _ t212 t236 _ ?side1 ?side2 A33.out).mono ?_
            (case side1 => exact cr (Kd.Q_reads' HO_6.out).2.2)
            (case side2 => exact (Kd.Q_reads' HO_6.out).2.1)
            rintro e w52 ⟨v237, rfl, ho0, hb⟩
            have HS5_ := (hb.cell (World.block_lt_of_cell? _ _ (hHeld.2.2.2.2.2))).trans (hHeld.2.2.2.2.2)
            refine ⟨_, rfl, ?_⟩
            replace HO_5 := rk HO_5 hb
            replace HO_6 := qk HO_6 hb
            replace HO_8 := qk HO_8 hb
            replace HO_10 := qk HO_10 hb
            have HO238 := am (Kd.R_lower ho0 (below_size (xB HB)))
            replace BK203 := kP _ BK203 hb
            replace BK233 := kP _ BK233 hb
            replace HB := kH HB hb
            (try clear hb)
            (try clear hb2)
            (try clear hk)
            (try clear hi)
            (try clear ho0)
            refine hK.out _ _ ⟨(blk_cell BK233.out 0).trans rfl, (blk_cell BK233.out 1).trans rfl, (blk_cell BK233.out 2).trans rfl, (blk_cell BK233.out 3).trans rfl, (blk_cell BK233.out 4).trans rfl, HS5_⟩ (fun hHeld => ?_)
            clear hK K
            refine nA (some 75) ?_
            exact norm_ (by first | (simp only [putAll, Act.put, sa, s0, s1]; done) | (simp only [putAll, Act.put, sa, s0, s1]; rfl)) (hJ3_6 (v237) _ ⟨hHeld, (ra HO238), (qa HO_10), (ra HO_5), (qa HO_6), (qa HO_8), (kb BK203), (kb BK233), (xB HB)⟩)
           ·skip
            refine bS 14 #[.int .i64 0, .string (⟨#[]⟩ : ByteArray), .string (⟨#[]⟩ : ByteArray), .int .i64 0, .int .i64 0, .int .i64 0, .slice none 0 0, .slice none 0 0, .slice none 0 0] 29 ?_
            intro gb245 hg w52 hbox hb
            have HS5_ := (hb.cell (World.block_lt_of_cell? _ _ (hHeld.2.2.2.2.2))).trans (hHeld.2.2.2.2.2)
            replace HO_5 := rk HO_5 hb
            replace HO_6 := qk HO_6 hb
            replace HO_8 := qk HO_8 hb
            replace HO_10 := qk HO_10 hb
            have BK245 := am (hbox)
            have GW245 := zB hg HB
            have GE245 := zB hg HB
            replace HB := kH HB hb
            have NB203_245 := nl hg (kb BK203)
            have NB245_203 := ng hg (kb BK203)
            replace BK203 := kP _ BK203 hb
            have NB233_245 := nl hg (kb BK233)
            have NB245_233 := ng hg (kb BK233)
            replace BK233 := kP _ BK233 hb
            clear hb hbox hg
            refine hK.out _ _ ⟨(blk_cell BK233.out 0).trans rfl, (blk_cell BK233.out 1).trans rfl, (blk_cell BK233.out 2).trans rfl, (blk_cell BK233.out 3).trans rfl, (blk_cell BK233.out 4).trans rfl, HS5_⟩ (fun hHeld => ?_)
            clear hK K
            refine nA (some 14) ?_
            exact norm_ (by first | (simp only [putAll, Act.put, sa, s0, s1]; done) | (simp only [putAll, Act.put, sa, s0, s1]; rfl)) (hJ3_13 (gb245) _ ⟨hHeld, (qa HO_10), (ra HO_5), (qa HO_6), (qa HO_8), (kb BK203), (kb BK233), (kb BK245), GW245.out, GE245.out, NB203_245.out, NB245_203.out, NB233_245.out, NB245_233.out, (xB HB)⟩)
         ·skip
          rintro gb245 w52 ⟨hS_, h0_, h1_, h2_, h3_, h4_, h5_, h6_, h7_, h8_, h9_, h10_, h11_, h12_, h13_⟩
          have n0_ : Aside0 (Kd.Q Kd.string 9 w52 w.heap.size (fun k_ => some k_ ≠ (.slice (some ad226) t208.length co41 : Value).ownBlock ∧ some k_ ≠ (.slice Ao46 t212.length co46 : Value).ownBlock ∧ some k_ ≠ (.slice Ao47 t217.length co47 : Value).ownBlock) (.slice Ao48 t222.length co48) t222) := ⟨h0_⟩
          have n1_ : Aside0 (Kd.R Kd.string 9 w52 w.heap.size (fun k_ => some k_ ≠ (.slice Ao48 t222.length co48 : Value).ownBlock ∧ some k_ ≠ (.slice Ao46 t212.length co46 : Value).ownBlock ∧ some k_ ≠ (.slice Ao47 t217.length co47 : Value).ownBlock) (.slice (some ad226) t208.length co41) t208) := ⟨h1_⟩
          have n2_ : Aside0 (Kd.Q Kd.string 9 w52 w.heap.size (fun k_ => some k_ ≠ (.slice Ao48 t222.length co48 : Value).ownBlock ∧ some k_ ≠ (.slice (some ad226) t208.length co41 : Value).ownBlock ∧ some k_ ≠ (.slice Ao47 t217.length co47 : Value).ownBlock) (.slice Ao46 t212.length co46) t212) := ⟨h2_⟩
          have n3_ : Aside0 (Kd.Q Kd.string 9 w52 w.heap.size (fun k_ => some k_ ≠ (.slice Ao48 t222.length co48 : Value).ownBlock ∧ some k_ ≠ (.slice (some ad226) t208.length co41 : Value).ownBlock ∧ some k_ ≠ (.slice Ao46 t212.length co46 : Value).ownBlock) (.slice Ao47 t217.length co47) t217) := ⟨h3_⟩
          have n4_ : Aside0 (w52.heap[gb203]? = some (.cells #[.int .i64 0, .string (⟨#[]⟩ : ByteArray), .string (⟨#[]⟩ : ByteArray), .int .i64 0, .int .i64 0, .int .i64 0, .slice none 0 0, .slice none 0 0, .slice none 0 0] 29 (0, 0))) := ⟨h4_⟩
          have n5_ : Aside0 (w52.heap[gb233]? = some (.cells #[.string t227, .string t228, .int .i64 t229, .int .i64 t230, .int .i64 t231] 23 (0, 0))) := ⟨h5_⟩
          have n6_ : Aside0 (w52.heap[gb245]? = some (.cells #[.int .i64 0, .string (⟨#[]⟩ : ByteArray), .string (⟨#[]⟩ : ByteArray), .int .i64 0, .int .i64 0, .int .i64 0, .slice none 0 0, .slice none 0 0, .slice none 0 0] 29 (0, 0))) := ⟨h6_⟩
          have n7_ : Aside0 (w.heap.size ≤ gb245) := ⟨h7_⟩
          have n8_ : Aside0 (w.heap.size ≤ gb245) := ⟨h8_⟩
          have n9_ : Aside0 (gb203 ≠ gb245) := ⟨h9_⟩
          have n10_ : Aside0 (gb245 ≠ gb203) := ⟨h10_⟩
          have n11_ : Aside0 (gb233 ≠ gb245) := ⟨h11_⟩
          have n12_ : Aside0 (gb245 ≠ gb233) := ⟨h12_⟩
          have n13_ : Aside0 (Below w.heap.size w w52) := ⟨h13_⟩
          clear HO_5
          clear HO_6
          clear HO_8
          clear HO_10
          clear BK203
          clear BK233
          clear HB
          clear h0_ h1_ h2_ h3_ h4_ h5_ h6_ h7_ h8_ h9_ h10_ h11_ h12_ h13_
          have HO_10 := n0_
          have HO_5 := n1_
          have HO_6 := n2_
          have HO_8 := n3_
          have BK203 := n4_
          have BK233 := n5_
          have BK245 := n6_
          have GW245 := n7_
          have GE245 := n8_
          have NB203_245 := n9_
          have NB245_203 := n10_
          have NB233_245 := n11_
          have NB245_233 := n12_
          have HB := n13_
          clear n0_ n1_ n2_ n3_ n4_ n5_ n6_ n7_ n8_ n9_ n10_ n11_ n12_ n13_
          have hHeld : w52.cell? ⟨gb233, 0, none⟩ = some (.string t227) ∧ w52.cell? ⟨gb233, 1, none⟩ = some (.string t228) ∧ w52.cell? ⟨gb233, 2, none⟩ = some (.int .i64 t229) ∧ w52.cell? ⟨gb233, 3, none⟩ = some (.int .i64 t230) ∧ w52.cell? ⟨gb233, 4, none⟩ = some (.int .i64 t231) ∧ w52.cell? ad226 = some (.string (rdOf ByteArray.empty t208 0)) := hS_
          refine norm_ (a' := ?_) ?_ ?_
          rotate_left
          ·simp only [putAll, Act.put, sa, s0, s1]
           rfl
          refine oA 6 (some 75) (bm 15 9471) HT_ fun K hK => ?_
          refine gA Tryd.func28 #[.slice Ao46 t212.length co46] ?_
          with_reducible refine (spec_l9GetPeaks.calls kj11 _ _ t212 t236 _ ?side1 ?side2 A33.out).mono ?_
          (case side1 => exact cr (Kd.Q_reads' HO_6.out).2.2)
          (case side2 => exact (Kd.Q_reads' HO_6.out).2.1)
          rintro e w53 ⟨v237, rfl, ho0, hb⟩
          have HS5_ := (hb.cell (World.block_lt_of_cell? _ _ (hHeld.2.2.2.2.2))).trans (hHeld.2.2.2.2.2)
          refine ⟨_, rfl, ?_⟩
          replace HO_5 := rk HO_5 hb
          replace HO_6 := qk HO_6 hb
          replace HO_8 := qk HO_8 hb
          replace HO_10 := qk HO_10 hb
          have HO238 := am (Kd.R_lower ho0 (below_size (xB HB)))
          replace BK203 := kP _ BK203 hb
          replace BK233 := kP _ BK233 hb
          replace BK245 := kP _ BK245 hb
          replace HB := kH HB hb
          (try clear hb)
          (try clear hb2)
          (try clear hk)
          (try clear hi)
          (try clear ho0)
          refine hK.out _ _ ⟨(blk_cell BK233.out 0).trans rfl, (blk_cell BK233.out 1).trans rfl, (blk_cell BK233.out 2).trans rfl, (blk_cell BK233.out 3).trans rfl, (blk_cell BK233.out 4).trans rfl, HS5_⟩ (fun hHeld => ?_)
          clear hK K
          refine nA (some 75) ?_
          exact norm_ (by first | (simp only [putAll, Act.put, sa, s0, s1]; done) | (simp only [putAll, Act.put, sa, s0, s1]; rfl)) (hJ3_6_13 (v237, gb245) _ ⟨hHeld, (ra HO238), (qa HO_10), (ra HO_5), (qa HO_6), (qa HO_8), (kb BK203), (kb BK233), (kb BK245), GW245.out, GE245.out, NB203_245.out, NB245_203.out, NB233_245.out, NB245_233.out, (xB HB)⟩)
        ·skip
         rintro v237 w52 ⟨hS_, h0_, h1_, h2_, h3_, h4_, h5_, h6_, h7_⟩
         have n0_ : Aside0 (Kd.R k93 93 w52 w.heap.size (fun _ => True) v237 t236) := ⟨h0_⟩
         have n1_ : Aside0 (Kd.Q Kd.string 9 w52 w.heap.size (fun k_ => some k_ ≠ (.slice (some ad226) t208.length co41 : Value).ownBlock ∧ some k_ ≠ (.slice Ao46 t212.length co46 : Value).ownBlock ∧ some k_ ≠ (.slice Ao47 t217.length co47 : Value).ownBlock) (.slice Ao48 t222.length co48) t222) := ⟨h1_⟩
         have n2_ : Aside0 (Kd.R Kd.string 9 w52 w.heap.size (fun k_ => some k_ ≠ (.slice Ao48 t222.length co48 : Value).ownBlock ∧ some k_ ≠ (.slice Ao46 t212.length co46 : Value).ownBlock ∧ some k_ ≠ (.slice Ao47 t217.length co47 : Value).ownBlock) (.slice (some ad226) t208.length co41) t208) := ⟨h2_⟩
         have n3_ : Aside0 (Kd.Q Kd.string 9 w52 w.heap.size (fun k_ => some k_ ≠ (.slice Ao48 t222.length co48 : Value).ownBlock ∧ some k_ ≠ (.slice (some ad226) t208.length co41 : Value).ownBlock ∧ some k_ ≠ (.slice Ao47 t217.length co47 : Value).ownBlock) (.slice Ao46 t212.length co46) t212) := ⟨h3_⟩
         have n4_ : Aside0 (Kd.Q Kd.string 9 w52 w.heap.size (fun k_ => some k_ ≠ (.slice Ao48 t222.length co48 : Value).ownBlock ∧ some k_ ≠ (.slice (some ad226) t208.length co41 : Value).ownBlock ∧ some k_ ≠ (.slice Ao46 t212.length co46 : Value).ownBlock) (.slice Ao47 t217.length co47) t217) := ⟨h4_⟩
         have n5_ : Aside0 (w52.heap[gb203]? = some (.cells #[.int .i64 0, .string (⟨#[]⟩ : ByteArray), .string (⟨#[]⟩ : ByteArray), .int .i64 0, .int .i64 0, .int .i64 0, .slice none 0 0, .slice none 0 0, .slice none 0 0] 29 (0, 0))) := ⟨h5_⟩
         have n6_ : Aside0 (w52.heap[gb233]? = some (.cells #[.string t227, .string t228, .int .i64 t229, .int .i64 t230, .int .i64 t231] 23 (0, 0))) := ⟨h6_⟩
         have n7_ : Aside0 (Below w.heap.size w w52) := ⟨h7_⟩
         clear HO_5
         clear HO_6
         clear HO_8
         clear HO_10
         clear BK203
         clear BK233
         clear HB
         clear h0_ h1_ h2_ h3_ h4_ h5_ h6_ h7_
         have HO238 := n0_
         have HO_10 := n1_
         have HO_5 := n2_
         have HO_6 := n3_
         have HO_8 := n4_
         have BK203 := n5_
         have BK233 := n6_
         have HB := n7_
         clear n0_ n1_ n2_ n3_ n4_ n5_ n6_ n7_
         have hHeld : w52.cell? ⟨gb233, 0, none⟩ = some (.string t227) ∧ w52.cell? ⟨gb233, 1, none⟩ = some (.string t228) ∧ w52.cell? ⟨gb233, 2, none⟩ = some (.int .i64 t229) ∧ w52.cell? ⟨gb233, 3, none⟩ = some (.int .i64 t230) ∧ w52.cell? ⟨gb233, 4, none⟩ = some (.int .i64 t231) ∧ w52.cell? ad226 = some (.string (rdOf ByteArray.empty t208 0)) := hS_
         refine norm_ (a' := ?_) ?_ ?_
         rotate_left
         ·simp only [putAll, Act.put, sa, s0, s1]
          rfl
         refine two_ (i := 8) (j := 13) (Ni := some 77) (Nj := some 14) (bm 15 1535) (bm 15 9471) rfl rfl rfl rfl (two_of HT_.out (by kernel_rfl)) (by decide) (by decide) (fun K hK => ?_) (fun K hK => ?_)
         ·skip
          refine gA Tryd.func28 #[.slice Ao47 t217.length co47] ?_
          with_reducible refine (spec_l9GetPeaks.calls kj11 _ _ t217 t239 _ ?side1 ?side2 A34.out).mono ?_
          (case side1 => exact cr (Kd.Q_reads' HO_8.out).2.2)
          (case side2 => exact (Kd.Q_reads' HO_8.out).2.1)
          rintro e w53 ⟨v240, rfl, ho0, hb⟩
          have HS5_ := (hb.cell (World.block_lt_of_cell? _ _ (hHeld.2.2.2.2.2))).trans (hHeld.2.2.2.2.2)
          refine ⟨_, rfl, ?_⟩
          replace HO_5 := rk HO_5 hb
          replace HO_6 := qk HO_6 hb
          replace HO_8 := qk HO_8 hb
          replace HO_10 := qk HO_10 hb
          have HO241 := am (Kd.R_lower (Kd.R_new' ho0 (Kd.R_lt (ra HO238))) (below_size (xB HB)))
          replace HO238 := am (Kd.R_elder' (ra HO238) (Kd.R_base ho0) hb)
          replace BK203 := kP _ BK203 hb
          replace BK233 := kP _ BK233 hb
          replace HB := kH HB hb
          (try clear hb)
          (try clear hb2)
          (try clear hk)
          (try clear hi)
          (try clear ho0)
          obtain ⟨Ao54, co54, eo54⟩ := Kd.R_slice HO241.out
          (first | subst eo54 | (injection eo54 with f1_ f2_ f3_; have f4_ := f1_.symm; have f5_ := f3_.symm; clear f1_ f2_ f3_; subst f4_; subst f5_))
          obtain ⟨Ao55, co55, eo55⟩ := Kd.R_slice HO238.out
          (first | subst eo55 | (injection eo55 with f1_ f2_ f3_; have f4_ := f1_.symm; have f5_ := f3_.symm; clear f1_ f2_ f3_; subst f4_; subst f5_))
          refine hK.out _ _ ⟨(blk_cell BK233.out 0).trans rfl, (blk_cell BK233.out 1).trans rfl, (blk_cell BK233.out 2).trans rfl, (blk_cell BK233.out 3).trans rfl, (blk_cell BK233.out 4).trans rfl, HS5_⟩ (fun hHeld => ?_)
          clear hK K
          refine nA (some 77) ?_
          refine pA 9 78 (bm 15 2047) HT_ ?_
          exact norm_ (by first | (simp only [putAll, Act.put, sa, s0, s1]; done) | (simp only [putAll, Act.put, sa, s0, s1]; rfl)) (hJ3_6_8 (.slice Ao55 t236.length co55, .slice Ao54 t239.length co54) _ ⟨hHeld, (rM HO238 (fun _ hk => hk.2)), (rM HO241 (fun _ hk => hk.2)), (qa HO_10), (ra HO_5), (qa HO_6), (qa HO_8), (kb BK203), (kb BK233), (xB HB)⟩)
         ·skip
          refine bS 14 #[.int .i64 0, .string (⟨#[]⟩ : ByteArray), .string (⟨#[]⟩ : ByteArray), .int .i64 0, .int .i64 0, .int .i64 0, .slice none 0 0, .slice none 0 0, .slice none 0 0] 29 ?_
          intro gb245 hg w53 hbox hb
          have HS5_ := (hb.cell (World.block_lt_of_cell? _ _ (hHeld.2.2.2.2.2))).trans (hHeld.2.2.2.2.2)
          replace HO_5 := rk HO_5 hb
          replace HO_6 := qk HO_6 hb
          replace HO_8 := qk HO_8 hb
          replace HO_10 := qk HO_10 hb
          replace HO238 := rk HO238 hb
          have BK245 := am (hbox)
          have GW245 := zB hg HB
          have GE245 := zB hg HB
          replace HB := kH HB hb
          have NB203_245 := nl hg (kb BK203)
          have NB245_203 := ng hg (kb BK203)
          replace BK203 := kP _ BK203 hb
          have NB233_245 := nl hg (kb BK233)
          have NB245_233 := ng hg (kb BK233)
          replace BK233 := kP _ BK233 hb
          clear hb hbox hg
          refine hK.out _ _ ⟨(blk_cell BK233.out 0).trans rfl, (blk_cell BK233.out 1).trans rfl, (blk_cell BK233.out 2).trans rfl, (blk_cell BK233.out 3).trans rfl, (blk_cell BK233.out 4).trans rfl, HS5_⟩ (fun hHeld => ?_)
          clear hK K
          refine nA (some 14) ?_
          exact norm_ (by first | (simp only [putAll, Act.put, sa, s0, s1]; done) | (simp only [putAll, Act.put, sa, s0, s1]; rfl)) (hJ3_6_13 (v237, gb245) _ ⟨hHeld, (ra HO238), (qa HO_10), (ra HO_5), (qa HO_6), (qa HO_8), (kb BK203), (kb BK233), (kb BK245), GW245.out, GE245.out, NB203_245.out, NB245_203.out, NB233_245.out, NB245_233.out, (xB HB)⟩)
       ·skip
        rintro ⟨v237, gb245⟩ w53 ⟨hS_, h0_, h1_, h2_, h3_, h4_, h5_, h6_, h7_, h8_, h9_, h10_, h11_, h12_, h13_, h14_⟩
        have n0_ : Aside0 (Kd.R k93 93 w53 w.heap.size (fun _ => True) v237 t236) := ⟨h0_⟩
        have n1_ : Aside0 (Kd.Q Kd.string 9 w53 w.heap.size (fun k_ => some k_ ≠ (.slice (some ad226) t208.length co41 : Value).ownBlock ∧ some k_ ≠ (.slice Ao46 t212.length co46 : Value).ownBlock ∧ some k_ ≠ (.slice Ao47 t217.length co47 : Value).ownBlock) (.slice Ao48 t222.length co48) t222) := ⟨h1_⟩
        have n2_ : Aside0 (Kd.R Kd.string 9 w53 w.heap.size (fun k_ => some k_ ≠ (.slice Ao48 t222.length co48 : Value).ownBlock ∧ some k_ ≠ (.slice Ao46 t212.length co46 : Value).ownBlock ∧ some k_ ≠ (.slice Ao47 t217.length co47 : Value).ownBlock) (.slice (some ad226) t208.length co41) t208) := ⟨h2_⟩
        have n3_ : Aside0 (Kd.Q Kd.string 9 w53 w.heap.size (fun k_ => some k_ ≠ (.slice Ao48 t222.length co48 : Value).ownBlock ∧ some k_ ≠ (.slice (some ad226) t208.length co41 : Value).ownBlock ∧ some k_ ≠ (.slice Ao47 t217.length co47 : Value).ownBlock) (.slice Ao46 t212.length co46) t212) := ⟨h3_⟩
        have n4_ : Aside0 (Kd.Q Kd.string 9 w53 w.heap.size (fun k_ => some k_ ≠ (.slice Ao48 t222.length co48 : Value).ownBlock ∧ some k_ ≠ (.slice (some ad226) t208.length co41 : Value).ownBlock ∧ some k_ ≠ (.slice Ao46 t212.length co46 : Value).ownBlock) (.slice Ao47 t217.length co47) t217) := ⟨h4_⟩
        have n5_ : Aside0 (w53.heap[gb203]? = some (.cells #[.int .i64 0, .string (⟨#[]⟩ : ByteArray), .string (⟨#[]⟩ : ByteArray), .int .i64 0, .int .i64 0, .int .i64 0, .slice none 0 0, .slice none 0 0, .slice none 0 0] 29 (0, 0))) := ⟨h5_⟩
        have n6_ : Aside0 (w53.heap[gb233]? = some (.cells #[.string t227, .string t228, .int .i64 t229, .int .i64 t230, .int .i64 t231] 23 (0, 0))) := ⟨h6_⟩
        have n7_ : Aside0 (w53.heap[gb245]? = some (.cells #[.int .i64 0, .string (⟨#[]⟩ : ByteArray), .string (⟨#[]⟩ : ByteArray), .int .i64 0, .int .i64 0, .int .i64 0, .slice none 0 0, .slice none 0 0, .slice none 0 0] 29 (0, 0))) := ⟨h7_⟩
        have n8_ : Aside0 (w.heap.size ≤ gb245) := ⟨h8_⟩
        have n9_ : Aside0 (w.heap.size ≤ gb245) := ⟨h9_⟩
        have n10_ : Aside0 (gb203 ≠ gb245) := ⟨h10_⟩
        have n11_ : Aside0 (gb245 ≠ gb203) := ⟨h11_⟩
        have n12_ : Aside0 (gb233 ≠ gb245) := ⟨h12_⟩
        have n13_ : Aside0 (gb245 ≠ gb233) := ⟨h13_⟩
        have n14_ : Aside0 (Below w.heap.size w w53) := ⟨h14_⟩
        clear HO_5
        clear HO_6
        clear HO_8
        clear HO_10
        clear BK203
        clear BK233
        clear HB
        clear h0_ h1_ h2_ h3_ h4_ h5_ h6_ h7_ h8_ h9_ h10_ h11_ h12_ h13_ h14_
        have HO238 := n0_
        have HO_10 := n1_
        have HO_5 := n2_
        have HO_6 := n3_
        have HO_8 := n4_
        have BK203 := n5_
        have BK233 := n6_
        have BK245 := n7_
        have GW245 := n8_
        have GE245 := n9_
        have NB203_245 := n10_
        have NB245_203 := n11_
        have NB233_245 := n12_
        have NB245_233 := n13_
        have HB := n14_
        clear n0_ n1_ n2_ n3_ n4_ n5_ n6_ n7_ n8_ n9_ n10_ n11_ n12_ n13_ n14_
        have hHeld : w53.cell? ⟨gb233, 0, none⟩ = some (.string t227) ∧ w53.cell? ⟨gb233, 1, none⟩ = some (.string t228) ∧ w53.cell? ⟨gb233, 2, none⟩ = some (.int .i64 t229) ∧ w53.cell? ⟨gb233, 3, none⟩ = some (.int .i64 t230) ∧ w53.cell? ⟨gb233, 4, none⟩ = some (.int .i64 t231) ∧ w53.cell? ad226 = some (.string (rdOf ByteArray.empty t208 0)) := hS_
        refine norm_ (a' := ?_) ?_ ?_
        rotate_left
        ·simp only [putAll, Act.put, sa, s0, s1]
         rfl
        refine oA 8 (some 77) (bm 15 9727) HT_ fun K hK => ?_
        refine gA Tryd.func28 #[.slice Ao47 t217.length co47] ?_
        with_reducible refine (spec_l9GetPeaks.calls kj11 _ _ t217 t239 _ ?side1 ?side2 A34.out).mono ?_
        (case side1 => exact cr (Kd.Q_reads' HO_8.out).2.2)
        (case side2 => exact (Kd.Q_reads' HO_8.out).2.1)
        rintro e w54 ⟨v240, rfl, ho0, hb⟩
        have HS5_ := (hb.cell (World.block_lt_of_cell? _ _ (hHeld.2.2.2.2.2))).trans (hHeld.2.2.2.2.2)
        refine ⟨_, rfl, ?_⟩
        replace HO_5 := rk HO_5 hb
        replace HO_6 := qk HO_6 hb
        replace HO_8 := qk HO_8 hb
        replace HO_10 := qk HO_10 hb
        have HO241 := am (Kd.R_lower (Kd.R_new' ho0 (Kd.R_lt (ra HO238))) (below_size (xB HB)))
        replace HO238 := am (Kd.R_elder' (ra HO238) (Kd.R_base ho0) hb)
        replace BK203 := kP _ BK203 hb
        replace BK233 := kP _ BK233 hb
        replace BK245 := kP _ BK245 hb
        replace HB := kH HB hb
        (try clear hb)
        (try clear hb2)
        (try clear hk)
        (try clear hi)
        (try clear ho0)
        obtain ⟨Ao55, co55, eo55⟩ := Kd.R_slice HO241.out
        (first | subst eo55 | (injection eo55 with f1_ f2_ f3_; have f4_ := f1_.symm; have f5_ := f3_.symm; clear f1_ f2_ f3_; subst f4_; subst f5_))
        obtain ⟨Ao56, co56, eo56⟩ := Kd.R_slice HO238.out
        (first | subst eo56 | (injection eo56 with f1_ f2_ f3_; have f4_ := f1_.symm; have f5_ := f3_.symm; clear f1_ f2_ f3_; subst f4_; subst f5_))
        refine hK.out _ _ ⟨(blk_cell BK233.out 0).trans rfl, (blk_cell BK233.out 1).trans rfl, (blk_cell BK233.out 2).trans rfl, (blk_cell BK233.out 3).trans rfl, (blk_cell BK233.out 4).trans rfl, HS5_⟩ (fun hHeld => ?_)
        clear hK K
        refine nA (some 77) ?_
        refine pA 9 78 (bm 15 10239) HT_ ?_
        exact norm_ (by first | (simp only [putAll, Act.put, sa, s0, s1]; done) | (simp only [putAll, Act.put, sa, s0, s1]; rfl)) (hJ3_6_8_13 (.slice Ao56 t236.length co56, .slice Ao55 t239.length co55, gb245) _ ⟨hHeld, (rM HO238 (fun _ hk => hk.2)), (rM HO241 (fun _ hk => hk.2)), (qa HO_10), (ra HO_5), (qa HO_6), (qa HO_8), (kb BK203), (kb BK233), (kb BK245), GW245.out, GE245.out, NB203_245.out, NB245_203.out, NB233_245.out, NB245_233.out, (xB HB)⟩)
      ·skip
       rintro ⟨v237, v240⟩ w55 ⟨hS_, h0_, h1_, h2_, h3_, h4_, h5_, h6_, h7_, h8_⟩
       have n0_ : Aside0 (Kd.R k93 93 w55 w.heap.size (fun k_ => some k_ ≠ (v240 : Value).ownBlock) v237 t236) := ⟨h0_⟩
       have n1_ : Aside0 (Kd.R k93 93 w55 w.heap.size (fun k_ => some k_ ≠ (v237 : Value).ownBlock) v240 t239) := ⟨h1_⟩
       have n2_ : Aside0 (Kd.Q Kd.string 9 w55 w.heap.size (fun k_ => some k_ ≠ (.slice (some ad226) t208.length co41 : Value).ownBlock ∧ some k_ ≠ (.slice Ao46 t212.length co46 : Value).ownBlock ∧ some k_ ≠ (.slice Ao47 t217.length co47 : Value).ownBlock) (.slice Ao48 t222.length co48) t222) := ⟨h2_⟩
       have n3_ : Aside0 (Kd.R Kd.string 9 w55 w.heap.size (fun k_ => some k_ ≠ (.slice Ao48 t222.length co48 : Value).ownBlock ∧ some k_ ≠ (.slice Ao46 t212.length co46 : Value).ownBlock ∧ some k_ ≠ (.slice Ao47 t217.length co47 : Value).ownBlock) (.slice (some ad226) t208.length co41) t208) := ⟨h3_⟩
       have n4_ : Aside0 (Kd.Q Kd.string 9 w55 w.heap.size (fun k_ => some k_ ≠ (.slice Ao48 t222.length co48 : Value).ownBlock ∧ some k_ ≠ (.slice (some ad226) t208.length co41 : Value).ownBlock ∧ some k_ ≠ (.slice Ao47 t217.length co47 : Value).ownBlock) (.slice Ao46 t212.length co46) t212) := ⟨h4_⟩
       have n5_ : Aside0 (Kd.Q Kd.string 9 w55 w.heap.size (fun k_ => some k_ ≠ (.slice Ao48 t222.length co48 : Value).ownBlock ∧ some k_ ≠ (.slice (some ad226) t208.length co41 : Value).ownBlock ∧ some k_ ≠ (.slice Ao46 t212.length co46 : Value).ownBlock) (.slice Ao47 t217.length co47) t217) := ⟨h5_⟩
       have n6_ : Aside0 (w55.heap[gb203]? = some (.cells #[.int .i64 0, .string (⟨#[]⟩ : ByteArray), .string (⟨#[]⟩ : ByteArray), .int .i64 0, .int .i64 0, .int .i64 0, .slice none 0 0, .slice none 0 0, .slice none 0 0] 29 (0, 0))) := ⟨h6_⟩
       have n7_ : Aside0 (w55.heap[gb233]? = some (.cells #[.string t227, .string t228, .int .i64 t229, .int .i64 t230, .int .i64 t231] 23 (0, 0))) := ⟨h7_⟩
       have n8_ : Aside0 (Below w.heap.size w w55) := ⟨h8_⟩
       clear HO_5
       clear HO_6
       clear HO_8
       clear HO_10
       clear BK203
       clear BK233
       clear HB
       clear h0_ h1_ h2_ h3_ h4_ h5_ h6_ h7_ h8_
       have HO238 := n0_
       have HO241 := n1_
       have HO_10 := n2_
       have HO_5 := n3_
       have HO_6 := n4_
       have HO_8 := n5_
       have BK203 := n6_
       have BK233 := n7_
       have HB := n8_
       clear n0_ n1_ n2_ n3_ n4_ n5_ n6_ n7_ n8_
       have hHeld : w55.cell? ⟨gb233, 0, none⟩ = some (.string t227) ∧ w55.cell? ⟨gb233, 1, none⟩ = some (.string t228) ∧ w55.cell? ⟨gb233, 2, none⟩ = some (.int .i64 t229) ∧ w55.cell? ⟨gb233, 3, none⟩ = some (.int .i64 t230) ∧ w55.cell? ⟨gb233, 4, none⟩ = some (.int .i64 t231) ∧ w55.cell? ad226 = some (.string (rdOf ByteArray.empty t208 0)) := hS_
       obtain ⟨Ao56, co56, eo56⟩ := Kd.R_slice HO241.out
       (first | subst eo56 | (injection eo56 with f1_ f2_ f3_; have f4_ := f1_.symm; have f5_ := f3_.symm; clear f1_ f2_ f3_; subst f4_; subst f5_))
       obtain ⟨Ao57, co57, eo57⟩ := Kd.R_slice HO238.out
       (first | subst eo57 | (injection eo57 with f1_ f2_ f3_; have f4_ := f1_.symm; have f5_ := f3_.symm; clear f1_ f2_ f3_; subst f4_; subst f5_))
       refine norm_ (a' := ?_) ?_ ?_
       rotate_left
       ·simp only [putAll, Act.put, sa, s0, s1]
        rfl
       refine two_ (i := 11) (j := 13) (Ni := some 80) (Nj := some 14) (bm 15 4095) (bm 15 10239) rfl rfl rfl rfl (two_of HT_.out (by kernel_rfl)) (by decide) (by decide) (fun K hK => ?_) (fun K hK => ?_)
       ·skip
        refine gA Tryd.func29 #[.slice Ao48 t222.length co48] ?_
        with_reducible refine (spec_l9GetSides.calls kj11 _ _ t222 t242 _ ?side1 ?side2 A35.out).mono ?_
        (case side1 => exact cr (Kd.Q_reads' HO_10.out).2.2)
        (case side2 => exact (Kd.Q_reads' HO_10.out).2.1)
        rintro e w58 ⟨v243, rfl, ho0, hb⟩
        have HS5_ := (hb.cell (World.block_lt_of_cell? _ _ (hHeld.2.2.2.2.2))).trans (hHeld.2.2.2.2.2)
        refine ⟨_, rfl, ?_⟩
        replace HO_5 := rk HO_5 hb
        replace HO_6 := qk HO_6 hb
        replace HO_8 := qk HO_8 hb
        replace HO_10 := qk HO_10 hb
        replace HO238 := rk HO238 hb
        replace HO241 := rk HO241 hb
        have HO244 := am (Kd.R_lower ho0 (below_size (xB HB)))
        replace BK203 := kP _ BK203 hb
        replace BK233 := kP _ BK233 hb
        replace HB := kH HB hb
        (try clear hb)
        (try clear hb2)
        (try clear hk)
        (try clear hi)
        (try clear ho0)
        obtain ⟨Ao59, co59, eo59⟩ := Kd.R_slice HO244.out
        (first | subst eo59 | (injection eo59 with f1_ f2_ f3_; have f4_ := f1_.symm; have f5_ := f3_.symm; clear f1_ f2_ f3_; subst f4_; subst f5_))
        refine hK.out _ _ ⟨(blk_cell BK233.out 0).trans rfl, (blk_cell BK233.out 1).trans rfl, (blk_cell BK233.out 2).trans rfl, (blk_cell BK233.out 3).trans rfl, (blk_cell BK233.out 4).trans rfl, HS5_⟩ (fun hHeld => ?_)
        clear hK K
        refine nA (some 80) ?_
        refine pA 12 81 (bm 15 8191) HT_ ?_
        exact norm_ (by first | (simp only [putAll, Act.put, sa, s0, s1]; done) | (simp only [putAll, Act.put, sa, s0, s1]; rfl)) (hJ3_6_8_11 (.slice Ao57 t236.length co57, .slice Ao56 t239.length co56, .slice Ao59 t242.length co59) _ ⟨hHeld, (ra HO238), (ra HO241), (ra HO244), (qa HO_10), (ra HO_5), (qa HO_6), (qa HO_8), (kb BK203), (kb BK233), (xB HB)⟩)
       ·skip
        refine bS 14 #[.int .i64 0, .string (⟨#[]⟩ : ByteArray), .string (⟨#[]⟩ : ByteArray), .int .i64 0, .int .i64 0, .int .i64 0, .slice none 0 0, .slice none 0 0, .slice none 0 0] 29 ?_
        intro gb245 hg w58 hbox hb
        have HS5_ := (hb.cell (World.block_lt_of_cell? _ _ (hHeld.2.2.2.2.2))).trans (hHeld.2.2.2.2.2)
        replace HO_5 := rk HO_5 hb
        replace HO_6 := qk HO_6 hb
        replace HO_8 := qk HO_8 hb
        replace HO_10 := qk HO_10 hb
        replace HO238 := rk HO238 hb
        replace HO241 := rk HO241 hb
        have BK245 := am (hbox)
        have GW245 := zB hg HB
        have GE245 := zB hg HB
        replace HB := kH HB hb
        have NB203_245 := nl hg (kb BK203)
        have NB245_203 := ng hg (kb BK203)
        replace BK203 := kP _ BK203 hb
        have NB233_245 := nl hg (kb BK233)
        have NB245_233 := ng hg (kb BK233)
        replace BK233 := kP _ BK233 hb
        clear hb hbox hg
        refine hK.out _ _ ⟨(blk_cell BK233.out 0).trans rfl, (blk_cell BK233.out 1).trans rfl, (blk_cell BK233.out 2).trans rfl, (blk_cell BK233.out 3).trans rfl, (blk_cell BK233.out 4).trans rfl, HS5_⟩ (fun hHeld => ?_)
        clear hK K
        refine nA (some 14) ?_
        exact norm_ (by first | (simp only [putAll, Act.put, sa, s0, s1]; done) | (simp only [putAll, Act.put, sa, s0, s1]; rfl)) (hJ3_6_8_13 (.slice Ao57 t236.length co57, .slice Ao56 t239.length co56, gb245) _ ⟨hHeld, (ra HO238), (ra HO241), (qa HO_10), (ra HO_5), (qa HO_6), (qa HO_8), (kb BK203), (kb BK233), (kb BK245), GW245.out, GE245.out, NB203_245.out, NB245_203.out, NB233_245.out, NB245_233.out, (xB HB)⟩)
     ·skip
      rintro ⟨v237, v240, gb245⟩ w56 ⟨hS_, h0_, h1_, h2_, h3_, h4_, h5_, h6_, h7_, h8_, h9_, h10_, h11_, h12_, h13_, h14_, h15_⟩
      have n0_ : Aside0 (Kd.R k93 93 w56 w.heap.size (fun k_ => some k_ ≠ (v240 : Value).ownBlock) v237 t236) := ⟨h0_⟩
      have n1_ : Aside0 (Kd.R k93 93 w56 w.heap.size (fun k_ => some k_ ≠ (v237 : Value).ownBlock) v240 t239) := ⟨h1_⟩
      have n2_ : Aside0 (Kd.Q Kd.string 9 w56 w.heap.size (fun k_ => some k_ ≠ (.slice (some ad226) t208.length co41 : Value).ownBlock ∧ some k_ ≠ (.slice Ao46 t212.length co46 : Value).ownBlock ∧ some k_ ≠ (.slice Ao47 t217.length co47 : Value).ownBlock) (.slice Ao48 t222.length co48) t222) := ⟨h2_⟩
      have n3_ : Aside0 (Kd.R Kd.string 9 w56 w.heap.size (fun k_ => some k_ ≠ (.slice Ao48 t222.length co48 : Value).ownBlock ∧ some k_ ≠ (.slice Ao46 t212.length co46 : Value).ownBlock ∧ some k_ ≠ (.slice Ao47 t217.length co47 : Value).ownBlock) (.slice (some ad226) t208.length co41) t208) := ⟨h3_⟩
      have n4_ : Aside0 (Kd.Q Kd.string 9 w56 w.heap.size (fun k_ => some k_ ≠ (.slice Ao48 t222.length co48 : Value).ownBlock ∧ some k_ ≠ (.slice (some ad226) t208.length co41 : Value).ownBlock ∧ some k_ ≠ (.slice Ao47 t217.length co47 : Value).ownBlock) (.slice Ao46 t212.length co46) t212) := ⟨h4_⟩
      have n5_ : Aside0 (Kd.Q Kd.string 9 w56 w.heap.size (fun k_ => some k_ ≠ (.slice Ao48 t222.length co48 : Value).ownBlock ∧ some k_ ≠ (.slice (some ad226) t208.length co41 : Value).ownBlock ∧ some k_ ≠ (.slice Ao46 t212.length co46 : Value).ownBlock) (.slice Ao47 t217.length co47) t217) := ⟨h5_⟩
      have n6_ : Aside0 (w56.heap[gb203]? = some (.cells #[.int .i64 0, .string (⟨#[]⟩ : ByteArray), .string (⟨#[]⟩ : ByteArray), .int .i64 0, .int .i64 0, .int .i64 0, .slice none 0 0, .slice none 0 0, .slice none 0 0] 29 (0, 0))) := ⟨h6_⟩
      have n7_ : Aside0 (w56.heap[gb233]? = some (.cells #[.string t227, .string t228, .int .i64 t229, .int .i64 t230, .int .i64 t231] 23 (0, 0))) := ⟨h7_⟩
      have n8_ : Aside0 (w56.heap[gb245]? = some (.cells #[.int .i64 0, .string (⟨#[]⟩ : ByteArray), .string (⟨#[]⟩ : ByteArray), .int .i64 0, .int .i64 0, .int .i64 0, .slice none 0 0, .slice none 0 0, .slice none 0 0] 29 (0, 0))) := ⟨h8_⟩
      have n9_ : Aside0 (w.heap.size ≤ gb245) := ⟨h9_⟩
      have n10_ : Aside0 (w.heap.size ≤ gb245) := ⟨h10_⟩
      have n11_ : Aside0 (gb203 ≠ gb245) := ⟨h11_⟩
      have n12_ : Aside0 (gb245 ≠ gb203) := ⟨h12_⟩
      have n13_ : Aside0 (gb233 ≠ gb245) := ⟨h13_⟩
      have n14_ : Aside0 (gb245 ≠ gb233) := ⟨h14_⟩
      have n15_ : Aside0 (Below w.heap.size w w56) := ⟨h15_⟩
      clear HO_5
      clear HO_6
      clear HO_8
      clear HO_10
      clear BK203
      clear BK233
      clear HB
      clear h0_ h1_ h2_ h3_ h4_ h5_ h6_ h7_ h8_ h9_ h10_ h11_ h12_ h13_ h14_ h15_
      have HO238 := n0_
      have HO241 := n1_
      have HO_10 := n2_
      have HO_5 := n3_
      have HO_6 := n4_
      have HO_8 := n5_
      have BK203 := n6_
      have BK233 := n7_
      have BK245 := n8_
      have GW245 := n9_
      have GE245 := n10_
      have NB203_245 := n11_
      have NB245_203 := n12_
      have NB233_245 := n13_
      have NB245_233 := n14_
      have HB := n15_
      clear n0_ n1_ n2_ n3_ n4_ n5_ n6_ n7_ n8_ n9_ n10_ n11_ n12_ n13_ n14_ n15_
      have hHeld : w56.cell? ⟨gb233, 0, none⟩ = some (.string t227) ∧ w56.cell? ⟨gb233, 1, none⟩ = some (.string t228) ∧ w56.cell? ⟨gb233, 2, none⟩ = some (.int .i64 t229) ∧ w56.cell? ⟨gb233, 3, none⟩ = some (.int .i64 t230) ∧ w56.cell? ⟨gb233, 4, none⟩ = some (.int .i64 t231) ∧ w56.cell? ad226 = some (.string (rdOf ByteArray.empty t208 0)) := hS_
      obtain ⟨Ao57, co57, eo57⟩ := Kd.R_slice HO241.out
      (first | subst eo57 | (injection eo57 with f1_ f2_ f3_; have f4_ := f1_.symm; have f5_ := f3_.symm; clear f1_ f2_ f3_; subst f4_; subst f5_))
      obtain ⟨Ao58, co58, eo58⟩ := Kd.R_slice HO238.out
      (first | subst eo58 | (injection eo58 with f1_ f2_ f3_; have f4_ := f1_.symm; have f5_ := f3_.symm; clear f1_ f2_ f3_; subst f4_; subst f5_))
      refine norm_ (a' := ?_) ?_ ?_
      rotate_left
      ·simp only [putAll, Act.put, sa, s0, s1]
       rfl
      refine oA 11 (some 80) (bm 15 12287) HT_ fun K hK => ?_
      refine gA Tryd.func29 #[.slice Ao48 t222.length co48] ?_
      with_reducible refine (spec_l9GetSides.calls kj11 _ _ t222 t242 _ ?side1 ?side2 A35.out).mono ?_
      (case side1 => exact cr (Kd.Q_reads' HO_10.out).2.2)
      (case side2 => exact (Kd.Q_reads' HO_10.out).2.1)
      rintro e w59 ⟨v243, rfl, ho0, hb⟩
      have HS5_ := (hb.cell (World.block_lt_of_cell? _ _ (hHeld.2.2.2.2.2))).trans (hHeld.2.2.2.2.2)
      refine ⟨_, rfl, ?_⟩
      replace HO_5 := rk HO_5 hb
      replace HO_6 := qk HO_6 hb
      replace HO_8 := qk HO_8 hb
      replace HO_10 := qk HO_10 hb
      replace HO238 := rk HO238 hb
      replace HO241 := rk HO241 hb
      have HO244 := am (Kd.R_lower ho0 (below_size (xB HB)))
      replace BK203 := kP _ BK203 hb
      replace BK233 := kP _ BK233 hb
      replace BK245 := kP _ BK245 hb
      replace HB := kH HB hb
      (try clear hb)
      (try clear hb2)
      (try clear hk)
      (try clear hi)
      (try clear ho0)
      obtain ⟨Ao60, co60, eo60⟩ := Kd.R_slice HO244.out
      (first | subst eo60 | (injection eo60 with f1_ f2_ f3_; have f4_ := f1_.symm; have f5_ := f3_.symm; clear f1_ f2_ f3_; subst f4_; subst f5_))
      refine hK.out _ _ ⟨(blk_cell BK233.out 0).trans rfl, (blk_cell BK233.out 1).trans rfl, (blk_cell BK233.out 2).trans rfl, (blk_cell BK233.out 3).trans rfl, (blk_cell BK233.out 4).trans rfl, HS5_⟩ (fun hHeld => ?_)
      clear hK K
      refine nA (some 80) ?_
      refine pA 12 81 (bm 15 16383) HT_ ?_
      exact norm_ (by first | (simp only [putAll, Act.put, sa, s0, s1]; done) | (simp only [putAll, Act.put, sa, s0, s1]; rfl)) (hJ3_6_8_11_13 (.slice Ao58 t236.length co58, .slice Ao57 t239.length co57, .slice Ao60 t242.length co60, gb245) _ ⟨hHeld, (ra HO238), (ra HO241), (ra HO244), (qa HO_10), (ra HO_5), (qa HO_6), (qa HO_8), (kb BK203), (kb BK233), (kb BK245), GW245.out, GE245.out, NB203_245.out, NB245_203.out, NB233_245.out, NB245_233.out, (xB HB)⟩)
    ·skip
     rintro ⟨v237, v240, v243⟩ w57 ⟨hS_, h0_, h1_, h2_, h3_, h4_, h5_, h6_, h7_, h8_, h9_⟩
     have n0_ : Aside0 (Kd.R k93 93 w57 w.heap.size (fun k_ => some k_ ≠ (v240 : Value).ownBlock) v237 t236) := ⟨h0_⟩
     have n1_ : Aside0 (Kd.R k93 93 w57 w.heap.size (fun k_ => some k_ ≠ (v237 : Value).ownBlock) v240 t239) := ⟨h1_⟩
     have n2_ : Aside0 (Kd.R k85 85 w57 w.heap.size (fun _ => True) v243 t242) := ⟨h2_⟩
     have n3_ : Aside0 (Kd.Q Kd.string 9 w57 w.heap.size (fun k_ => some k_ ≠ (.slice (some ad226) t208.length co41 : Value).ownBlock ∧ some k_ ≠ (.slice Ao46 t212.length co46 : Value).ownBlock ∧ some k_ ≠ (.slice Ao47 t217.length co47 : Value).ownBlock) (.slice Ao48 t222.length co48) t222) := ⟨h3_⟩
     have n4_ : Aside0 (Kd.R Kd.string 9 w57 w.heap.size (fun k_ => some k_ ≠ (.slice Ao48 t222.length co48 : Value).ownBlock ∧ some k_ ≠ (.slice Ao46 t212.length co46 : Value).ownBlock ∧ some k_ ≠ (.slice Ao47 t217.length co47 : Value).ownBlock) (.slice (some ad226) t208.length co41) t208) := ⟨h4_⟩
     have n5_ : Aside0 (Kd.Q Kd.string 9 w57 w.heap.size (fun k_ => some k_ ≠ (.slice Ao48 t222.length co48 : Value).ownBlock ∧ some k_ ≠ (.slice (some ad226) t208.length co41 : Value).ownBlock ∧ some k_ ≠ (.slice Ao47 t217.length co47 : Value).ownBlock) (.slice Ao46 t212.length co46) t212) := ⟨h5_⟩
     have n6_ : Aside0 (Kd.Q Kd.string 9 w57 w.heap.size (fun k_ => some k_ ≠ (.slice Ao48 t222.length co48 : Value).ownBlock ∧ some k_ ≠ (.slice (some ad226) t208.length co41 : Value).ownBlock ∧ some k_ ≠ (.slice Ao46 t212.length co46 : Value).ownBlock) (.slice Ao47 t217.length co47) t217) := ⟨h6_⟩
     have n7_ : Aside0 (w57.heap[gb203]? = some (.cells #[.int .i64 0, .string (⟨#[]⟩ : ByteArray), .string (⟨#[]⟩ : ByteArray), .int .i64 0, .int .i64 0, .int .i64 0, .slice none 0 0, .slice none 0 0, .slice none 0 0] 29 (0, 0))) := ⟨h7_⟩
     have n8_ : Aside0 (w57.heap[gb233]? = some (.cells #[.string t227, .string t228, .int .i64 t229, .int .i64 t230, .int .i64 t231] 23 (0, 0))) := ⟨h8_⟩
     have n9_ : Aside0 (Below w.heap.size w w57) := ⟨h9_⟩
     clear HO_5
     clear HO_6
     clear HO_8
     clear HO_10
     clear BK203
     clear BK233
     clear HB
     clear h0_ h1_ h2_ h3_ h4_ h5_ h6_ h7_ h8_ h9_
     have HO238 := n0_
     have HO241 := n1_
     have HO244 := n2_
     have HO_10 := n3_
     have HO_5 := n4_
     have HO_6 := n5_
     have HO_8 := n6_
     have BK203 := n7_
     have BK233 := n8_
     have HB := n9_
     clear n0_ n1_ n2_ n3_ n4_ n5_ n6_ n7_ n8_ n9_
     have hHeld : w57.cell? ⟨gb233, 0, none⟩ = some (.string t227) ∧ w57.cell? ⟨gb233, 1, none⟩ = some (.string t228) ∧ w57.cell? ⟨gb233, 2, none⟩ = some (.int .i64 t229) ∧ w57.cell? ⟨gb233, 3, none⟩ = some (.int .i64 t230) ∧ w57.cell? ⟨gb233, 4, none⟩ = some (.int .i64 t231) ∧ w57.cell? ad226 = some (.string (rdOf ByteArray.empty t208 0)) := hS_
     obtain ⟨Ao58, co58, eo58⟩ := Kd.R_slice HO241.out
     (first | subst eo58 | (injection eo58 with f1_ f2_ f3_; have f4_ := f1_.symm; have f5_ := f3_.symm; clear f1_ f2_ f3_; subst f4_; subst f5_))
     obtain ⟨Ao59, co59, eo59⟩ := Kd.R_slice HO238.out
     (first | subst eo59 | (injection eo59 with f1_ f2_ f3_; have f4_ := f1_.symm; have f5_ := f3_.symm; clear f1_ f2_ f3_; subst f4_; subst f5_))
     obtain ⟨Ao60, co60, eo60⟩ := Kd.R_slice HO244.out
     (first | subst eo60 | (injection eo60 with f1_ f2_ f3_; have f4_ := f1_.symm; have f5_ := f3_.symm; clear f1_ f2_ f3_; subst f4_; subst f5_))
     refine norm_ (a' := ?_) ?_ ?_
     rotate_left
     ·simp only [putAll, Act.put, sa, s0, s1]
      rfl
     refine oA 13 (some 14) (bm 15 16383) HT_ fun K hK => ?_
     refine bS 14 #[.int .i64 0, .string (⟨#[]⟩ : ByteArray), .string (⟨#[]⟩ : ByteArray), .int .i64 0, .int .i64 0, .int .i64 0, .slice none 0 0, .slice none 0 0, .slice none 0 0] 29 ?_
     intro gb245 hg w61 hbox hb
     have HS5_ := (hb.cell (World.block_lt_of_cell? _ _ (hHeld.2.2.2.2.2))).trans (hHeld.2.2.2.2.2)
     replace HO_5 := rk HO_5 hb
     replace HO_6 := qk HO_6 hb
     replace HO_8 := qk HO_8 hb
     replace HO_10 := qk HO_10 hb
     replace HO238 := rk HO238 hb
     replace HO241 := rk HO241 hb
     replace HO244 := rk HO244 hb
     have BK245 := am (hbox)
     have GW245 := zB hg HB
     have GE245 := zB hg HB
     replace HB := kH HB hb
     have NB203_245 := nl hg (kb BK203)
     have NB245_203 := ng hg (kb BK203)
     replace BK203 := kP _ BK203 hb
     have NB233_245 := nl hg (kb BK233)
     have NB245_233 := ng hg (kb BK233)
     replace BK233 := kP _ BK233 hb
     clear hb hbox hg
     refine hK.out _ _ ⟨(blk_cell BK233.out 0).trans rfl, (blk_cell BK233.out 1).trans rfl, (blk_cell BK233.out 2).trans rfl, (blk_cell BK233.out 3).trans rfl, (blk_cell BK233.out 4).trans rfl, HS5_⟩ (fun hHeld => ?_)
     clear hK K
     refine nA (some 14) ?_
     exact norm_ (by first | (simp only [putAll, Act.put, sa, s0, s1]; done) | (simp only [putAll, Act.put, sa, s0, s1]; rfl)) (hJ3_6_8_11_13 (.slice Ao59 t236.length co59, .slice Ao58 t239.length co58, .slice Ao60 t242.length co60, gb245) _ ⟨hHeld, (ra HO238), (ra HO241), (ra HO244), (qa HO_10), (ra HO_5), (qa HO_6), (qa HO_8), (kb BK203), (kb BK233), (kb BK245), GW245.out, GE245.out, NB203_245.out, NB245_203.out, NB233_245.out, NB245_233.out, (xB HB)⟩)
   rintro ⟨v237, v240, v243, gb245⟩ w58 ⟨hS_, h0_, h1_, h2_, h3_, h4_, h5_, h6_, h7_, h8_, h9_, h10_, h11_, h12_, h13_, h14_, h15_, h16_⟩
   have n0_ : Aside0 (Kd.R k93 93 w58 w.heap.size (fun k_ => some k_ ≠ (v240 : Value).ownBlock) v237 t236) := ⟨h0_⟩
   have n1_ : Aside0 (Kd.R k93 93 w58 w.heap.size (fun k_ => some k_ ≠ (v237 : Value).ownBlock) v240 t239) := ⟨h1_⟩
   have n2_ : Aside0 (Kd.R k85 85 w58 w.heap.size (fun _ => True) v243 t242) := ⟨h2_⟩
   have n3_ : Aside0 (Kd.Q Kd.string 9 w58 w.heap.size (fun k_ => some k_ ≠ (.slice (some ad226) t208.length co41 : Value).ownBlock ∧ some k_ ≠ (.slice Ao46 t212.length co46 : Value).ownBlock ∧ some k_ ≠ (.slice Ao47 t217.length co47 : Value).ownBlock) (.slice Ao48 t222.length co48) t222) := ⟨h3_⟩
   have n4_ : Aside0 (Kd.R Kd.string 9 w58 w.heap.size (fun k_ => some k_ ≠ (.slice Ao48 t222.length co48 : Value).ownBlock ∧ some k_ ≠ (.slice Ao46 t212.length co46 : Value).ownBlock ∧ some k_ ≠ (.slice Ao47 t217.length co47 : Value).ownBlock) (.slice (some ad226) t208.length co41) t208) := ⟨h4_⟩
   have n5_ : Aside0 (Kd.Q Kd.string 9 w58 w.heap.size (fun k_ => some k_ ≠ (.slice Ao48 t222.length co48 : Value).ownBlock ∧ some k_ ≠ (.slice (some ad226) t208.length co41 : Value).ownBlock ∧ some k_ ≠ (.slice Ao47 t217.length co47 : Value).ownBlock) (.slice Ao46 t212.length co46) t212) := ⟨h5_⟩
   have n6_ : Aside0 (Kd.Q Kd.string 9 w58 w.heap.size (fun k_ => some k_ ≠ (.slice Ao48 t222.length co48 : Value).ownBlock ∧ some k_ ≠ (.slice (some ad226) t208.length co41 : Value).ownBlock ∧ some k_ ≠ (.slice Ao46 t212.length co46 : Value).ownBlock) (.slice Ao47 t217.length co47) t217) := ⟨h6_⟩
   have n7_ : Aside0 (w58.heap[gb203]? = some (.cells #[.int .i64 0, .string (⟨#[]⟩ : ByteArray), .string (⟨#[]⟩ : ByteArray), .int .i64 0, .int .i64 0, .int .i64 0, .slice none 0 0, .slice none 0 0, .slice none 0 0] 29 (0, 0))) := ⟨h7_⟩
   have n8_ : Aside0 (w58.heap[gb233]? = some (.cells #[.string t227, .string t228, .int .i64 t229, .int .i64 t230, .int .i64 t231] 23 (0, 0))) := ⟨h8_⟩
   have n9_ : Aside0 (w58.heap[gb245]? = some (.cells #[.int .i64 0, .string (⟨#[]⟩ : ByteArray), .string (⟨#[]⟩ : ByteArray), .int .i64 0, .int .i64 0, .int .i64 0, .slice none 0 0, .slice none 0 0, .slice none 0 0] 29 (0, 0))) := ⟨h9_⟩
   have n10_ : Aside0 (w.heap.size ≤ gb245) := ⟨h10_⟩
   have n11_ : Aside0 (w.heap.size ≤ gb245) := ⟨h11_⟩
   have n12_ : Aside0 (gb203 ≠ gb245) := ⟨h12_⟩
   have n13_ : Aside0 (gb245 ≠ gb203) := ⟨h13_⟩
   have n14_ : Aside0 (gb233 ≠ gb245) := ⟨h14_⟩
   have n15_ : Aside0 (gb245 ≠ gb233) := ⟨h15_⟩
   have n16_ : Aside0 (Below w.heap.size w w58) := ⟨h16_⟩
   clear HO_5
   clear HO_6
   clear HO_8
   clear HO_10
   clear BK203
   clear BK233
   clear HB
   clear h0_ h1_ h2_ h3_ h4_ h5_ h6_ h7_ h8_ h9_ h10_ h11_ h12_ h13_ h14_ h15_ h16_
   have HO238 := n0_
   have HO241 := n1_
   have HO244 := n2_
   have HO_10 := n3_
   have HO_5 := n4_
   have HO_6 := n5_
   have HO_8 := n6_
   have BK203 := n7_
   have BK233 := n8_
   have BK245 := n9_
   have GW245 := n10_
   have GE245 := n11_
   have NB203_245 := n12_
   have NB245_203 := n13_
   have NB233_245 := n14_
   have NB245_233 := n15_
   have HB := n16_
   clear n0_ n1_ n2_ n3_ n4_ n5_ n6_ n7_ n8_ n9_ n10_ n11_ n12_ n13_ n14_ n15_ n16_
   have hHeld : w58.cell? ⟨gb233, 0, none⟩ = some (.string t227) ∧ w58.cell? ⟨gb233, 1, none⟩ = some (.string t228) ∧ w58.cell? ⟨gb233, 2, none⟩ = some (.int .i64 t229) ∧ w58.cell? ⟨gb233, 3, none⟩ = some (.int .i64 t230) ∧ w58.cell? ⟨gb233, 4, none⟩ = some (.int .i64 t231) ∧ w58.cell? ad226 = some (.string (rdOf ByteArray.empty t208 0)) := hS_
   obtain ⟨Ao59, co59, eo59⟩ := Kd.R_slice HO241.out
   (first | subst eo59 | (injection eo59 with f1_ f2_ f3_; have f4_ := f1_.symm; have f5_ := f3_.symm; clear f1_ f2_ f3_; subst f4_; subst f5_))
   obtain ⟨Ao60, co60, eo60⟩ := Kd.R_slice HO238.out
   (first | subst eo60 | (injection eo60 with f1_ f2_ f3_; have f4_ := f1_.symm; have f5_ := f3_.symm; clear f1_ f2_ f3_; subst f4_; subst f5_))
   obtain ⟨Ao61, co61, eo61⟩ := Kd.R_slice HO244.out
   (first | subst eo61 | (injection eo61 with f1_ f2_ f3_; have f4_ := f1_.symm; have f5_ := f3_.symm; clear f1_ f2_ f3_; subst f4_; subst f5_))
   refine norm_ (a' := ?_) ?_ ?_
   rotate_left
   ·simp only [putAll, Act.put, sa, s0, s1]
    rfl
   refine oA 14 none (bm 15 32767) HT_ fun K hK => ?_
   have hs62 : w58.cell? ⟨gb245, 0, none⟩ = some (.int .i64 0) := (blk_cell BK245.out 0).trans rfl
   have hfs62 := blk_frozen BK245.out 0
   have hns62_0 := NB203_245.out
   have hns62_1 := NB233_245.out
   have hms62_0 := NB245_203.out
   have hms62_1 := NB245_233.out
   have hs63 : w58.cell? ⟨gb245, 1, none⟩ = some (.string (⟨#[]⟩ : ByteArray)) := (blk_cell BK245.out 1).trans rfl
   have hfs63 := blk_frozen BK245.out 1
   have hns63_0 := NB203_245.out
   have hns63_1 := NB233_245.out
   have hms63_0 := NB245_203.out
   have hms63_1 := NB245_233.out
   have hs64 : w58.cell? ⟨gb245, 2, none⟩ = some (.string (⟨#[]⟩ : ByteArray)) := (blk_cell BK245.out 2).trans rfl
   have hfs64 := blk_frozen BK245.out 2
   have hns64_0 := NB203_245.out
   have hns64_1 := NB233_245.out
   have hms64_0 := NB245_203.out
   have hms64_1 := NB245_233.out
   have hs65 : w58.cell? ⟨gb245, 3, none⟩ = some (.int .i64 0) := (blk_cell BK245.out 3).trans rfl
   have hfs65 := blk_frozen BK245.out 3
   have hns65_0 := NB203_245.out
   have hns65_1 := NB233_245.out
   have hms65_0 := NB245_203.out
   have hms65_1 := NB245_233.out
   have hs66 : w58.cell? ⟨gb245, 4, none⟩ = some (.int .i64 0) := (blk_cell BK245.out 4).trans rfl
   have hfs66 := blk_frozen BK245.out 4
   have hns66_0 := NB203_245.out
   have hns66_1 := NB233_245.out
   have hms66_0 := NB245_203.out
   have hms66_1 := NB245_233.out
   have hs67 : w58.cell? ⟨gb245, 5, none⟩ = some (.int .i64 0) := (blk_cell BK245.out 5).trans rfl
   have hfs67 := blk_frozen BK245.out 5
   have hns67_0 := NB203_245.out
   have hns67_1 := NB233_245.out
   have hms67_0 := NB245_203.out
   have hms67_1 := NB245_233.out
   have hs68 : w58.cell? ⟨gb245, 6, none⟩ = some (.slice none 0 0) := (blk_cell BK245.out 6).trans rfl
   have hfs68 := blk_frozen BK245.out 6
   have hns68_0 := NB203_245.out
   have hns68_1 := NB233_245.out
   have hms68_0 := NB245_203.out
   have hms68_1 := NB245_233.out
   have hs69 : w58.cell? ⟨gb245, 7, none⟩ = some (.slice none 0 0) := (blk_cell BK245.out 7).trans rfl
   have hfs69 := blk_frozen BK245.out 7
   have hns69_0 := NB203_245.out
   have hns69_1 := NB233_245.out
   have hms69_0 := NB245_203.out
   have hms69_1 := NB245_233.out
   have hs70 : w58.cell? ⟨gb245, 8, none⟩ = some (.slice none 0 0) := (blk_cell BK245.out 8).trans rfl
   have hfs70 := blk_frozen BK245.out 8
   have hns70_0 := NB203_245.out
   have hns70_1 := NB233_245.out
   have hms70_0 := NB245_203.out
   have hms70_1 := NB245_233.out
   refine skip_ (w1 := ?_) (by rfl) rfl ?_ ?_
   rotate_left
   ·go_simp
    rfl
   refine hK.out _ _ ⟨((cell_far (p := ⟨gb245, _, none⟩) NB233_245.out _).trans (((cell_far (p := ⟨gb245, _, none⟩) NB233_245.out _).trans (((cell_far (p := ⟨gb245, _, none⟩) NB233_245.out _).trans (((cell_far (p := ⟨gb245, _, none⟩) NB233_245.out _).trans (((cell_far (p := ⟨gb245, _, none⟩) NB233_245.out _).trans (((cell_far (p := ⟨gb245, _, none⟩) NB233_245.out _).trans (((cell_far (p := ⟨gb245, _, none⟩) NB233_245.out _).trans (((cell_far (p := ⟨gb245, _, none⟩) NB233_245.out _).trans (((cell_far (p := ⟨gb245, _, none⟩) NB233_245.out _).trans (hHeld.1)))))))))))))))))), ((cell_far (p := ⟨gb245, _, none⟩) NB233_245.out _).trans (((cell_far (p := ⟨gb245, _, none⟩) NB233_245.out _).trans (((cell_far (p := ⟨gb245, _, none⟩) NB233_245.out _).trans (((cell_far (p := ⟨gb245, _, none⟩) NB233_245.out _).trans (((cell_far (p := ⟨gb245, _, none⟩) NB233_245.out _).trans (((cell_far (p := ⟨gb245, _, none⟩) NB233_245.out _).trans (((cell_far (p := ⟨gb245, _, none⟩) NB233_245.out _).trans (((cell_far (p := ⟨gb245, _, none⟩) NB233_245.out _).trans (((cell_far (p := ⟨gb245, _, none⟩) NB233_245.out _).trans (hHeld.2.1)))))))))))))))))), ((cell_far (p := ⟨gb245, _, none⟩) NB233_245.out _).trans (((cell_far (p := ⟨gb245, _, none⟩) NB233_245.out _).trans (((cell_far (p := ⟨gb245, _, none⟩) NB233_245.out _).trans (((cell_far (p := ⟨gb245, _, none⟩) NB233_245.out _).trans (((cell_far (p := ⟨gb245, _, none⟩) NB233_245.out _).trans (((cell_far (p := ⟨gb245, _, none⟩) NB233_245.out _).trans (((cell_far (p := ⟨gb245, _, none⟩) NB233_245.out _).trans (((cell_far (p := ⟨gb245, _, none⟩) NB233_245.out _).trans (((cell_far (p := ⟨gb245, _, none⟩) NB233_245.out _).trans (hHeld.2.2.1)))))))))))))))))), ((cell_far (p := ⟨gb245, _, none⟩) NB233_245.out _).trans (((cell_far (p := ⟨gb245, _, none⟩) NB233_245.out _).trans (((cell_far (p := ⟨gb245, _, none⟩) NB233_245.out _).trans (((cell_far (p := ⟨gb245, _, none⟩) NB233_245.out _).trans (((cell_far (p := ⟨gb245, _, none⟩) NB233_245.out _).trans (((cell_far (p := ⟨gb245, _, none⟩) NB233_245.out _).trans (((cell_far (p := ⟨gb245, _, none⟩) NB233_245.out _).trans (((cell_far (p := ⟨gb245, _, none⟩) NB233_245.out _).trans (((cell_far (p := ⟨gb245, _, none⟩) NB233_245.out _).trans (hHeld.2.2.2.1)))))))))))))))))), ((cell_far (p := ⟨gb245, _, none⟩) NB233_245.out _).trans (((cell_far (p := ⟨gb245, _, none⟩) NB233_245.out _).trans (((cell_far (p := ⟨gb245, _, none⟩) NB233_245.out _).trans (((cell_far (p := ⟨gb245, _, none⟩) NB233_245.out _).trans (((cell_far (p := ⟨gb245, _, none⟩) NB233_245.out _).trans (((cell_far (p := ⟨gb245, _, none⟩) NB233_245.out _).trans (((cell_far (p := ⟨gb245, _, none⟩) NB233_245.out _).trans (((cell_far (p := ⟨gb245, _, none⟩) NB233_245.out _).trans (((cell_far (p := ⟨gb245, _, none⟩) NB233_245.out _).trans (hHeld.2.2.2.2.1)))))))))))))))))), ((cell_far (p := ⟨gb245, _, none⟩) (by first | exact Kd.own_blk (Kd.R_ne HO_5.out BK245.out (by decide)) | (rw [add_block]; exact Kd.own_blk (Kd.R_ne HO_5.out BK245.out (by decide))) | (show (Addr.add _ _).block ≠ _; rw [add_block]; exact Kd.own_blk (Kd.R_ne HO_5.out BK245.out (by decide))) | (dsimp only; exact Kd.own_blk (Kd.R_ne HO_5.out BK245.out (by decide)))) _).trans (((cell_far (p := ⟨gb245, _, none⟩) (by first | exact Kd.own_blk (Kd.R_ne HO_5.out BK245.out (by decide)) | (rw [add_block]; exact Kd.own_blk (Kd.R_ne HO_5.out BK245.out (by decide))) | (show (Addr.add _ _).block ≠ _; rw [add_block]; exact Kd.own_blk (Kd.R_ne HO_5.out BK245.out (by decide))) | (dsimp only; exact Kd.own_blk (Kd.R_ne HO_5.out BK245.out (by decide)))) _).trans (((cell_far (p := ⟨gb245, _, none⟩) (by first | exact Kd.own_blk (Kd.R_ne HO_5.out BK245.out (by decide)) | (rw [add_block]; exact Kd.own_blk (Kd.R_ne HO_5.out BK245.out (by decide))) | (show (Addr.add _ _).block ≠ _; rw [add_block]; exact Kd.own_blk (Kd.R_ne HO_5.out BK245.out (by decide))) | (dsimp only; exact Kd.own_blk (Kd.R_ne HO_5.out BK245.out (by decide)))) _).trans (((cell_far (p := ⟨gb245, _, none⟩) (by first | exact Kd.own_blk (Kd.R_ne HO_5.out BK245.out (by decide)) | (rw [add_block]; exact Kd.own_blk (Kd.R_ne HO_5.out BK245.out (by decide))) | (show (Addr.add _ _).block ≠ _; rw [add_block]; exact Kd.own_blk (Kd.R_ne HO_5.out BK245.out (by decide))) | (dsimp only; exact Kd.own_blk (Kd.R_ne HO_5.out BK245.out (by decide)))) _).trans (((cell_far (p := ⟨gb245, _, none⟩) (by first | exact Kd.own_blk (Kd.R_ne HO_5.out BK245.out (by decide)) | (rw [add_block]; exact Kd.own_blk (Kd.R_ne HO_5.out BK245.out (by decide))) | (show (Addr.add _ _).block ≠ _; rw [add_block]; exact Kd.own_blk (Kd.R_ne HO_5.out BK245.out (by decide))) | (dsimp only; exact Kd.own_blk (Kd.R_ne HO_5.out BK245.out (by decide)))) _).trans (((cell_far (p := ⟨gb245, _, none⟩) (by first | exact Kd.own_blk (Kd.R_ne HO_5.out BK245.out (by decide)) | (rw [add_block]; exact Kd.own_blk (Kd.R_ne HO_5.out BK245.out (by decide))) | (show (Addr.add _ _).block ≠ _; rw [add_block]; exact Kd.own_blk (Kd.R_ne HO_5.out BK245.out (by decide))) | (dsimp only; exact Kd.own_blk (Kd.R_ne HO_5.out BK245.out (by decide)))) _).trans (((cell_far (p := ⟨gb245, _, none⟩) (by first | exact Kd.own_blk (Kd.R_ne HO_5.out BK245.out (by decide)) | (rw [add_block]; exact Kd.own_blk (Kd.R_ne HO_5.out BK245.out (by decide))) | (show (Addr.add _ _).block ≠ _; rw [add_block]; exact Kd.own_blk (Kd.R_ne HO_5.out BK245.out (by decide))) | (dsimp only; exact Kd.own_blk (Kd.R_ne HO_5.out BK245.out (by decide)))) _).trans (((cell_far (p := ⟨gb245, _, none⟩) (by first | exact Kd.own_blk (Kd.R_ne HO_5.out BK245.out (by decide)) | (rw [add_block]; exact Kd.own_blk (Kd.R_ne HO_5.out BK245.out (by decide))) | (show (Addr.add _ _).block ≠ _; rw [add_block]; exact Kd.own_blk (Kd.R_ne HO_5.out BK245.out (by decide))) | (dsimp only; exact Kd.own_blk (Kd.R_ne HO_5.out BK245.out (by decide)))) _).trans (((cell_far (p := ⟨gb245, _, none⟩) (by first | exact Kd.own_blk (Kd.R_ne HO_5.out BK245.out (by decide)) | (rw [add_block]; exact Kd.own_blk (Kd.R_ne HO_5.out BK245.out (by decide))) | (show (Addr.add _ _).block ≠ _; rw [add_block]; exact Kd.own_blk (Kd.R_ne HO_5.out BK245.out (by decide))) | (dsimp only; exact Kd.own_blk (Kd.R_ne HO_5.out BK245.out (by decide)))) _).trans (hHeld.2.2.2.2.2))))))))))))))))))⟩ (fun hHeld => ?_)
   clear hK K
   refine done_ (done_of HT_.out (by kernel_rfl)) ?_
   generalize hW_ : World.setCell _ ⟨gb245, 8, none⟩ _ = wq_
   replace hW_ := hW_.symm
   have BQ_ := kF (.cells #[.int .i64 t235, .string t227, .string t228, .int .i64 t229, .int .i64 t230, .int .i64 t231, .slice Ao60 t236.length co60, .slice Ao59 t239.length co59, .slice Ao61 t242.length co61] 29 (0, 0)) BK245 hW_
   have hzq_ := bc9 BQ_
   replace hW_ := am hW_
   by_cases c36 : t232 = true
   rotate_left
   ·replace c36 := Bool.eq_false_iff.mpr c36
    subst c36
    try simp only [Bool.not_true, Bool.not_false]
    rw [if_neg (show ¬ (false = true) by decide)] at H
    simp only [Option.some.injEq, Prod.mk.injEq] at H
    obtain ⟨rfl, rfl, rfl, rfl, rfl, rfl, rfl, rfl, rfl, rfl⟩ := H
    have hnb181 := NB203_245.out
    have hnc181 := NB245_203.out
    (first | have hz182 := bc9 (kF _ BK203 hW_.out) | have hz182 := bc9 BK203)
    try go_wp2
    (try (clear hzq_ BQ_; obtain ⟨hW_⟩ := hW_; subst hW_))
    refine bodyPost_ret (results_ct rfl _ _ gb203 29 #[.int .i64 0, .string (⟨#[]⟩ : ByteArray), .string (⟨#[]⟩ : ByteArray), .int .i64 0, .int .i64 0, .int .i64 0, .slice none 0 0, .slice none 0 0, .slice none 0 0] (0, 0) _ rfl (fb BK203) Tryd.underlying29 rfl (by kernel_rfl)) rfl ?_
    exact ⟨_, _, _, xE, xN, xN, xN, xB HB⟩
   subst c36
   try simp only [Bool.not_true, Bool.not_false]
   rw [if_pos rfl] at H
   replace H := oa H
   obtain ⟨t246, A37, H⟩ := H
   by_cases c38 : t246 = true
   rotate_left
   ·replace c38 := Bool.eq_false_iff.mpr c38
    subst c38
    rw [if_neg (show ¬ (false = true) by decide)] at H
    simp only [Option.some.injEq, Prod.mk.injEq] at H
    obtain ⟨rfl, rfl, rfl, rfl, rfl, rfl, rfl, rfl, rfl, rfl⟩ := H
    have hnb146 := NB245_203.out
    have hnc146 := NB203_245.out
    have hnb147 := NB245_233.out
    have hnc147 := NB233_245.out
    (first | have hz148 := bc9 (kF _ BK245 hW_.out) | have hz148 := bc9 BK245)
    try go_wp2_with (go_at_call 30; (try (clear hzq_ BQ_; obtain ⟨hW_⟩ := hW_; subst hW_)); (with_reducible refine (spec_l9Ok.calls kj11 t235 t227 t228 t229 t230 t231 _ _ t236 _ _ t239 _ _ t242 false _ ?side1 ?side2 ?side3 ?side4 ?side5 ?side6 A37.out).mono ?_); (case side1 => exact (Kd.R_reads' (rf HO238 BK245)).2.2); (case side2 => exact (Kd.R_reads' HO238.out).2.1); (case side3 => exact (Kd.R_reads' (rf HO241 BK245)).2.2); (case side4 => exact (Kd.R_reads' HO241.out).2.1); (case side5 => exact (Kd.R_reads' (rf HO244 BK245)).2.2); (case side6 => exact (Kd.R_reads' HO244.out).2.1); rintro e w149 ⟨rfl, hb⟩; replace HO_5 := am (Kd.R_below (rf HO_5 BK245) hb); replace HO_6 := am (Kd.Q_below (by (with_reducible repeat (first | apply Kd.Q_alloc | apply Kd.Q_drewN | apply Kd.Q_drew)); exact (Kd.Q_mono (Kd.Q_far (p := ⟨gb245, 8, none⟩) (Kd.Q_far (p := ⟨gb245, 7, none⟩) (Kd.Q_far (p := ⟨gb245, 6, none⟩) (Kd.Q_far (p := ⟨gb245, 5, none⟩) (Kd.Q_far (p := ⟨gb245, 4, none⟩) (Kd.Q_far (p := ⟨gb245, 3, none⟩) (Kd.Q_far (p := ⟨gb245, 2, none⟩) (Kd.Q_far (p := ⟨gb245, 1, none⟩) (Kd.Q_far (p := ⟨gb245, 0, none⟩) (Kd.Q_types HO_6.out BK245.out (by decide)) (fun _ hk => hk.2) (.int .i64 t235)) (fun _ hk => hk.2) (.string t227)) (fun _ hk => hk.2) (.string t228)) (fun _ hk => hk.2) (.int .i64 t229)) (fun _ hk => hk.2) (.int .i64 t230)) (fun _ hk => hk.2) (.int .i64 t231)) (fun _ hk => hk.2) (.slice Ao60 t236.length co60)) (fun _ hk => hk.2) (.slice Ao59 t239.length co59)) (fun _ hk => hk.2) (.slice Ao61 t242.length co61)) (fun _ h_ => h_.1))) hb); replace HO_8 := am (Kd.Q_below (by (with_reducible repeat (first | apply Kd.Q_alloc | apply Kd.Q_drewN | apply Kd.Q_drew)); exact (Kd.Q_mono (Kd.Q_far (p := ⟨gb245, 8, none⟩) (Kd.Q_far (p := ⟨gb245, 7, none⟩) (Kd.Q_far (p := ⟨gb245, 6, none⟩) (Kd.Q_far (p := ⟨gb245, 5, none⟩) (Kd.Q_far (p := ⟨gb245, 4, none⟩) (Kd.Q_far (p := ⟨gb245, 3, none⟩) (Kd.Q_far (p := ⟨gb245, 2, none⟩) (Kd.Q_far (p := ⟨gb245, 1, none⟩) (Kd.Q_far (p := ⟨gb245, 0, none⟩) (Kd.Q_types HO_8.out BK245.out (by decide)) (fun _ hk => hk.2) (.int .i64 t235)) (fun _ hk => hk.2) (.string t227)) (fun _ hk => hk.2) (.string t228)) (fun _ hk => hk.2) (.int .i64 t229)) (fun _ hk => hk.2) (.int .i64 t230)) (fun _ hk => hk.2) (.int .i64 t231)) (fun _ hk => hk.2) (.slice Ao60 t236.length co60)) (fun _ hk => hk.2) (.slice Ao59 t239.length co59)) (fun _ hk => hk.2) (.slice Ao61 t242.length co61)) (fun _ h_ => h_.1))) hb); replace HO_10 := am (Kd.Q_below (by (with_reducible repeat (first | apply Kd.Q_alloc | apply Kd.Q_drewN | apply Kd.Q_drew)); exact (Kd.Q_mono (Kd.Q_far (p := ⟨gb245, 8, none⟩) (Kd.Q_far (p := ⟨gb245, 7, none⟩) (Kd.Q_far (p := ⟨gb245, 6, none⟩) (Kd.Q_far (p := ⟨gb245, 5, none⟩) (Kd.Q_far (p := ⟨gb245, 4, none⟩) (Kd.Q_far (p := ⟨gb245, 3, none⟩) (Kd.Q_far (p := ⟨gb245, 2, none⟩) (Kd.Q_far (p := ⟨gb245, 1, none⟩) (Kd.Q_far (p := ⟨gb245, 0, none⟩) (Kd.Q_types HO_10.out BK245.out (by decide)) (fun _ hk => hk.2) (.int .i64 t235)) (fun _ hk => hk.2) (.string t227)) (fun _ hk => hk.2) (.string t228)) (fun _ hk => hk.2) (.int .i64 t229)) (fun _ hk => hk.2) (.int .i64 t230)) (fun _ hk => hk.2) (.int .i64 t231)) (fun _ hk => hk.2) (.slice Ao60 t236.length co60)) (fun _ hk => hk.2) (.slice Ao59 t239.length co59)) (fun _ hk => hk.2) (.slice Ao61 t242.length co61)) (fun _ h_ => h_.1))) hb); replace HO238 := am (Kd.R_below (rf HO238 BK245) hb); replace HO241 := am (Kd.R_below (rf HO241 BK245) hb); replace HO244 := am (Kd.R_below (rf HO244 BK245) hb); replace BK203 := kP _ BK203 hb; replace BK233 := kP _ BK233 hb; replace BK245 := kP (.cells #[.int .i64 t235, .string t227, .string t228, .int .i64 t229, .int .i64 t230, .int .i64 t231, .slice Ao60 t236.length co60, .slice Ao59 t239.length co59, .slice Ao61 t242.length co61] 29 (0, 0)) BK245 hb; replace HB := kH HB hb; (try clear hb); have hz150 := bc9 BK203)
    (try (clear hzq_ BQ_; obtain ⟨hW_⟩ := hW_; subst hW_))
    refine bodyPost_ret (results_ct rfl _ _ gb203 29 #[.int .i64 0, .string (⟨#[]⟩ : ByteArray), .string (⟨#[]⟩ : ByteArray), .int .i64 0, .int .i64 0, .int .i64 0, .slice none 0 0, .slice none 0 0, .slice none 0 0] (0, 0) _ rfl (fb BK203) Tryd.underlying29 rfl (by kernel_rfl)) rfl ?_
    exact ⟨_, _, _, xE, xN, xN, xN, xB HB⟩
   subst c38
   rw [if_pos rfl] at H
   replace H := oa H
   obtain ⟨t247, A39, H⟩ := H
   have hnb71 := NB245_203.out
   have hnc71 := NB203_245.out
   have hnb72 := NB245_233.out
   have hnc72 := NB233_245.out
   (first | have hz73 := bc9 (kF _ BK245 hW_.out) | have hz73 := bc9 BK245)
   go_upto_if 94 with (first | (go_at_call 30; (try (clear hzq_ BQ_; obtain ⟨hW_⟩ := hW_; subst hW_)); (with_reducible refine (spec_l9Ok.calls kj11 t235 t227 t228 t229 t230 t231 _ _ t236 _ _ t239 _ _ t242 true _ ?side1 ?side2 ?side3 ?side4 ?side5 ?side6 A37.out).mono ?_); (case side1 => exact (Kd.R_reads' (rf HO238 BK245)).2.2); (case side2 => exact (Kd.R_reads' HO238.out).2.1); (case side3 => exact (Kd.R_reads' (rf HO241 BK245)).2.2); (case side4 => exact (Kd.R_reads' HO241.out).2.1); (case side5 => exact (Kd.R_reads' (rf HO244 BK245)).2.2); (case side6 => exact (Kd.R_reads' HO244.out).2.1); rintro e w74 ⟨rfl, hb⟩; replace HO_5 := am (Kd.R_below (rf HO_5 BK245) hb); replace HO_6 := am (Kd.Q_below (by (with_reducible repeat (first | apply Kd.Q_alloc | apply Kd.Q_drewN | apply Kd.Q_drew)); exact (Kd.Q_mono (Kd.Q_far (p := ⟨gb245, 8, none⟩) (Kd.Q_far (p := ⟨gb245, 7, none⟩) (Kd.Q_far (p := ⟨gb245, 6, none⟩) (Kd.Q_far (p := ⟨gb245, 5, none⟩) (Kd.Q_far (p := ⟨gb245, 4, none⟩) (Kd.Q_far (p := ⟨gb245, 3, none⟩) (Kd.Q_far (p := ⟨gb245, 2, none⟩) (Kd.Q_far (p := ⟨gb245, 1, none⟩) (Kd.Q_far (p := ⟨gb245, 0, none⟩) (Kd.Q_types HO_6.out BK245.out (by decide)) (fun _ hk => hk.2) (.int .i64 t235)) (fun _ hk => hk.2) (.string t227)) (fun _ hk => hk.2) (.string t228)) (fun _ hk => hk.2) (.int .i64 t229)) (fun _ hk => hk.2) (.int .i64 t230)) (fun _ hk => hk.2) (.int .i64 t231)) (fun _ hk => hk.2) (.slice Ao60 t236.length co60)) (fun _ hk => hk.2) (.slice Ao59 t239.length co59)) (fun _ hk => hk.2) (.slice Ao61 t242.length co61)) (fun _ h_ => h_.1))) hb); replace HO_8 := am (Kd.Q_below (by (with_reducible repeat (first | apply Kd.Q_alloc | apply Kd.Q_drewN | apply Kd.Q_drew)); exact (Kd.Q_mono (Kd.Q_far (p := ⟨gb245, 8, none⟩) (Kd.Q_far (p := ⟨gb245, 7, none⟩) (Kd.Q_far (p := ⟨gb245, 6, none⟩) (Kd.Q_far (p := ⟨gb245, 5, none⟩) (Kd.Q_far (p := ⟨gb245, 4, none⟩) (Kd.Q_far (p := ⟨gb245, 3, none⟩) (Kd.Q_far (p := ⟨gb245, 2, none⟩) (Kd.Q_far (p := ⟨gb245, 1, none⟩) (Kd.Q_far (p := ⟨gb245, 0, none⟩) (Kd.Q_types HO_8.out BK245.out (by decide)) (fun _ hk => hk.2) (.int .i64 t235)) (fun _ hk => hk.2) (.string t227)) (fun _ hk => hk.2) (.string t228)) (fun _ hk => hk.2) (.int .i64 t229)) (fun _ hk => hk.2) (.int .i64 t230)) (fun _ hk => hk.2) (.int .i64 t231)) (fun _ hk => hk.2) (.slice Ao60 t236.length co60)) (fun _ hk => hk.2) (.slice Ao59 t239.length co59)) (fun _ hk => hk.2) (.slice Ao61 t242.length co61)) (fun _ h_ => h_.1))) hb); replace HO_10 := am (Kd.Q_below (by (with_reducible repeat (first | apply Kd.Q_alloc | apply Kd.Q_drewN | apply Kd.Q_drew)); exact (Kd.Q_mono (Kd.Q_far (p := ⟨gb245, 8, none⟩) (Kd.Q_far (p := ⟨gb245, 7, none⟩) (Kd.Q_far (p := ⟨gb245, 6, none⟩) (Kd.Q_far (p := ⟨gb245, 5, none⟩) (Kd.Q_far (p := ⟨gb245, 4, none⟩) (Kd.Q_far (p := ⟨gb245, 3, none⟩) (Kd.Q_far (p := ⟨gb245, 2, none⟩) (Kd.Q_far (p := ⟨gb245, 1, none⟩) (Kd.Q_far (p := ⟨gb245, 0, none⟩) (Kd.Q_types HO_10.out BK245.out (by decide)) (fun _ hk => hk.2) (.int .i64 t235)) (fun _ hk => hk.2) (.string t227)) (fun _ hk => hk.2) (.string t228)) (fun _ hk => hk.2) (.int .i64 t229)) (fun _ hk => hk.2) (.int .i64 t230)) (fun _ hk => hk.2) (.int .i64 t231)) (fun _ hk => hk.2) (.slice Ao60 t236.length co60)) (fun _ hk => hk.2) (.slice Ao59 t239.length co59)) (fun _ hk => hk.2) (.slice Ao61 t242.length co61)) (fun _ h_ => h_.1))) hb); replace HO238 := am (Kd.R_below (rf HO238 BK245) hb); replace HO241 := am (Kd.R_below (rf HO241 BK245) hb); replace HO244 := am (Kd.R_below (rf HO244 BK245) hb); replace BK203 := kP _ BK203 hb; replace BK233 := kP _ BK233 hb; replace BK245 := kP (.cells #[.int .i64 t235, .string t227, .string t228, .int .i64 t229, .int .i64 t230, .int .i64 t231, .slice Ao60 t236.length co60, .slice Ao59 t239.length co59, .slice Ao61 t242.length co61] 29 (0, 0)) BK245 hb; replace HB := kH HB hb; (try clear hb); have hz75 := bc9 BK245) | (go_at_call 31; (try (clear hzq_ BQ_; obtain ⟨hW_⟩ := hW_; subst hW_)); (with_reducible refine (spec_l9Put.calls kj11 t235 t227 t228 t229 t230 t231 _ _ t236 _ _ t239 _ _ t242 t247 _ ?side1 ?side2 ?side3 ?side4 ?side5 ?side6 A39.out).mono ?_); (case side1 => exact cr (Kd.R_reads' HO238.out).2.2); (case side2 => exact (Kd.R_reads' HO238.out).2.1); (case side3 => exact cr (Kd.R_reads' HO241.out).2.2); (case side4 => exact (Kd.R_reads' HO241.out).2.1); (case side5 => exact cr (Kd.R_reads' HO244.out).2.2); (case side6 => exact (Kd.R_reads' HO244.out).2.1); rintro e w76 ⟨rfl, hb⟩; replace HO_5 := rk HO_5 hb; replace HO_6 := qk HO_6 hb; replace HO_8 := qk HO_8 hb; replace HO_10 := qk HO_10 hb; replace HO238 := rk HO238 hb; replace HO241 := rk HO241 hb; replace HO244 := rk HO244 hb; replace BK203 := kP _ BK203 hb; replace BK233 := kP _ BK233 hb; replace BK245 := kP _ BK245 hb; replace HB := kH HB hb; (try clear hb)))
   by_cases c40 : t247.toList = a0.toList
   rotate_left
   ·rw [if_neg c40] at H
    have c40b0 := beq_eq_false_iff_ne.mpr c40
    have c40b1 := bne_iff_ne.mpr c40
    try simp only [c40b0, c40b1]
    simp only [Option.some.injEq, Prod.mk.injEq] at H
    obtain ⟨rfl, rfl, rfl, rfl, rfl, rfl, rfl, rfl, rfl, rfl⟩ := H
    (first | have hz115 := bc9 (kF _ BK203 hW_.out) | have hz115 := bc9 BK203)
    try go_wp2
    (try (clear hzq_ BQ_; obtain ⟨hW_⟩ := hW_; subst hW_))
    refine bodyPost_ret (results_ct rfl _ _ gb203 29 #[.int .i64 0, .string (⟨#[]⟩ : ByteArray), .string (⟨#[]⟩ : ByteArray), .int .i64 0, .int .i64 0, .int .i64 0, .slice none 0 0, .slice none 0 0, .slice none 0 0] (0, 0) _ rfl (fb BK203) Tryd.underlying29 rfl (by kernel_rfl)) rfl ?_
    exact ⟨_, _, _, xE, xN, xN, xN, xB HB⟩
   rw [if_pos c40] at H
   have c40b0 := beq_iff_eq.mpr c40
   have c40b1 := bne_eq_false_iff_eq.mpr c40
   try simp only [c40b0, c40b1]
   clear c40
   simp only [Option.some.injEq, Prod.mk.injEq] at H
   obtain ⟨rfl, rfl, rfl, rfl, rfl, rfl, rfl, rfl, rfl, rfl⟩ := H
   (first | have hz77 := bc9 (kF _ BK245 hW_.out) | have hz77 := bc9 BK245)
   (first | have hz78 := bc9 (kF _ BK203 hW_.out) | have hz78 := bc9 BK203)
   try go_wp2
   (try (clear hzq_ BQ_; obtain ⟨hW_⟩ := hW_; subst hW_))
   refine bodyPost_ret (results_ct rfl _ _ gb203 29 #[.int .i64 t235, .string t227, .string t228, .int .i64 t229, .int .i64 t230, .int .i64 t231, .slice Ao60 t236.length co60, .slice Ao59 t239.length co59, .slice Ao61 t242.length co61] (0, 0) _ rfl (fb BK203) Tryd.underlying29 rfl (by kernel_rfl)) rfl ?_
   exact ⟨_, _, _, xE, rF HO238 BK203 (fun _ hk => hk), rF HO241 BK203 (fun _ hk => hk), rF HO244 BK203 (fun _ hk => trivial), xB HB⟩

end Go.Proofs.YtgjljbaadglpnaaDoor.PFnExactPaidGet
