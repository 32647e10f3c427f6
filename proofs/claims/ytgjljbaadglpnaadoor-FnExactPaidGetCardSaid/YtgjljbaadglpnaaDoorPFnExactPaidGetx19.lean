/- Functions of the program and what each answers: the kit's print, shortened (wip/press2.py). -/
import Derived.Test.YtgjljbaadglpnaaDoorPFnExactPaidGetx0
import Derived.Test.YtgjljbaadglpnaaDoorPFnExactPaidGetx13
import Derived.Test.YtgjljbaadglpnaaDoorPFnExactPaidGetx17
import Derived.Test.YtgjljbaadglpnaaDoorPFnExactPaidGetx18
namespace Go.Proofs.YtgjljbaadglpnaaDoor.PFnExactPaidGet
open Go.Proofs.YtgjljbaadglpnaaDoor.Sq Go.RowKit Go.Proofs.YtgjljbaadglpnaaDoorW.PrintWords Go.Proofs.YtgjljbaadglpnaaDoorW.PrintLast Go.Proofs.YtgjljbaadglpnaaDoorW.PrintMore
attribute [local go_sem] max2_int min2_int max_two min_two max_three min_three max_four min_four   -- for this text's walks alone
set_option linter.unusedVariables false
set_option linter.unusedSimpArgs false

/-! ### impl_PaidGet: function 9 -/
def impl_PaidGet.j0 : Nat → ByteArray → List ByteArray → Bool → Option (Int × ByteArray × ByteArray × Int × Int × Int × (List (S93)) × (List (S93)) × (List (S85)) × Bool)
 | 0, _, _, _ => none
 | k + 1, x0, x4, x29 => if x29 = true then (some (0, (⟨#[]⟩ : ByteArray), (⟨#[]⟩ : ByteArray), 0, 0, 0, ([] : List (S93)), ([] : List (S93)), ([] : List (S85)), false)) else (if 0 < (x4.length : Int) then ((strings_Cut.f (rdOf ByteArray.empty x4 0) (⟨#[32]⟩ : ByteArray)).bind fun bt359 => ((impl_number.f k bt359.1).bind fun bt362 => ((impl_HeadGet.f k bt359.2.1).bind fun bt364 => (if 1 < (x4.length : Int) then ((impl_peaksGet.f k (⟨#[112, 101, 97, 107, 115]⟩ : ByteArray) (rdOf ByteArray.empty x4 1)).bind fun bt372 => (if 2 < (x4.length : Int) then ((impl_peaksGet.f k (⟨#[115, 116, 101, 112, 115]⟩ : ByteArray) (rdOf ByteArray.empty x4 2)).bind fun bt377 => (if 3 < (x4.length : Int) then ((impl_sidesGet.f k (rdOf ByteArray.empty x4 3)).bind fun bt382 => (if bt362.2 = true then (if bt364.2.2.2.2.2 = true then (if bt372.2 = true then (if bt377.2 = true then (if bt382.2 = true then ((impl_PaidPut.f k bt362.1 bt364.1 bt364.2.1 bt364.2.2.1 bt364.2.2.2.1 bt364.2.2.2.2.1 bt372.1 bt377.1 bt382.1).bind fun t387 => (if t387.toList = x0.toList then (some (bt362.1, bt364.1, bt364.2.1, bt364.2.2.1, bt364.2.2.2.1, bt364.2.2.2.2.1, bt372.1, bt377.1, bt382.1, true)) else (some (0, (⟨#[]⟩ : ByteArray), (⟨#[]⟩ : ByteArray), 0, 0, 0, ([] : List (S93)), ([] : List (S93)), ([] : List (S85)), false)))) else (some (0, (⟨#[]⟩ : ByteArray), (⟨#[]⟩ : ByteArray), 0, 0, 0, ([] : List (S93)), ([] : List (S93)), ([] : List (S85)), false))) else (some (0, (⟨#[]⟩ : ByteArray), (⟨#[]⟩ : ByteArray), 0, 0, 0, ([] : List (S93)), ([] : List (S93)), ([] : List (S85)), false))) else (some (0, (⟨#[]⟩ : ByteArray), (⟨#[]⟩ : ByteArray), 0, 0, 0, ([] : List (S93)), ([] : List (S93)), ([] : List (S85)), false))) else (some (0, (⟨#[]⟩ : ByteArray), (⟨#[]⟩ : ByteArray), 0, 0, 0, ([] : List (S93)), ([] : List (S93)), ([] : List (S85)), false))) else (some (0, (⟨#[]⟩ : ByteArray), (⟨#[]⟩ : ByteArray), 0, 0, 0, ([] : List (S93)), ([] : List (S93)), ([] : List (S85)), false)))) else (none))) else (none))) else (none))))) else (none))
def impl_PaidGet.f (k : Nat) (a0 : ByteArray) : Option (Int × ByteArray × ByteArray × Int × Int × Int × (List (S93)) × (List (S93)) × (List (S85)) × Bool) := (strings_Split.f a0 (⟨#[10]⟩ : ByteArray)).bind fun t354 => (if (t354.length : Int) = 5 then (if 4 < (t354.length : Int) then (impl_PaidGet.j0 k a0 t354 ((rdOf ByteArray.empty t354 4).toList != ([] : List UInt8))) else (none)) else (impl_PaidGet.j0 k a0 t354 true))
theorem impl_PaidGet.mono_l : ∀ k, (∀ y0 y1 y2, LeO (impl_PaidGet.j0 k y0 y1 y2) (impl_PaidGet.j0 (k + 1) y0 y1 y2))
 | 0 => fun _ _ _ r h => by simp [impl_PaidGet.j0] at h
 | k + 1 => by
  have ih0 := impl_PaidGet.mono_l k
  ·intro y0 y1 y2
   unfold impl_PaidGet.j0
   exact mo6 ih0 impl_HeadGet.mono impl_PaidPut.mono impl_number.mono impl_peaksGet.mono impl_sidesGet.mono
theorem impl_PaidGet.mono : ∀ a0 k, LeO (impl_PaidGet.f k a0) (impl_PaidGet.f (k + 1) a0) := by
 intro a0 k
 have ih0 := impl_PaidGet.mono_l k
 unfold impl_PaidGet.f
 exact mo6 ih0 impl_HeadGet.mono impl_PaidPut.mono impl_number.mono impl_peaksGet.mono impl_sidesGet.mono
set_option maxHeartbeats 64000000 in
set_option maxRecDepth 100000 in
theorem impl_PaidGet.calls (k : Nat) (a0 : ByteArray) (r1 : Int) (r2 : ByteArray) (r3 : ByteArray) (r4 : Int) (r5 : Int) (r6 : Int) (r7 : List (S93)) (r8 : List (S93)) (r9 : List (S85)) (r10 : Bool) (w : World) (h : impl_PaidGet.f k a0 = some (r1, r2, r3, r4, r5, r6, r7, r8, r9, r10)) (PQM_ : Aside0 (Sh.HasM w)) (PQT_ : Aside0 (Sh.HasT w)) :
  Calls Tryd.prog 9 #[.string a0] w fun e w' => ∃ v6_ v7_ v8_ : Value, e = .returned (.tuple #[.agg #[.int .i64 r1, .string r2, .string r3, .int .i64 r4, .int .i64 r5, .int .i64 r6, v6_, v7_, v8_], .bool r10]) ∧ Kd.R k93 93 w' w.heap.size (fun k_ => some k_ ≠ (v7_ : Value).ownBlock) v6_ r7 ∧ Kd.R k93 93 w' w.heap.size (fun k_ => some k_ ≠ (v6_ : Value).ownBlock) v7_ r8 ∧ Kd.R k85 85 w' w.heap.size (fun _ => True) v8_ r9 ∧ Below w.heap.size w w' := by
 have hu29 := Tryd.underlying29
 have hu23 := Tryd.underlying23
 have hu26 := Tryd.underlying26
 have HB := Aside0.mk (Below.refl w.heap.size w)
 have H : ((strings_Split.f a0 (⟨#[10]⟩ : ByteArray)).bind fun t354 => (if (t354.length : Int) = 5 then (if 4 < (t354.length : Int) then (impl_PaidGet.j0 k a0 t354 ((rdOf ByteArray.empty t354 4).toList != ([] : List UInt8))) else (none)) else (impl_PaidGet.j0 k a0 t354 true))) = some (r1, r2, r3, r4, r5, r6, r7, r8, r9, r10) := h
 clear h
 replace H := oa H
 obtain ⟨t354, A2, H⟩ := H
 have HC3 := Aside0.mk H
 clear H
 go_enter Tryd.func9, Tryd.ntmps9
 go_upto_region 2 with ((with_reducible refine gg ?_); first | (refine bE 2 #[.int .i64 0, .string (⟨#[]⟩ : ByteArray), .string (⟨#[]⟩ : ByteArray), .int .i64 0, .int .i64 0, .int .i64 0, .slice none 0 0, .slice none 0 0, .slice none 0 0] 29 ?_; intro gb353 hg w4 hbox hb; have BK353 := am (hbox); have GW353 := zB hg HB; have GE353 := zB hg HB; replace HB := kH HB hb; clear hb hbox hg) | (refine store_event (t := 29) (p := 2) (v := ?vo_) (w1 := ?wo_) ?hg ?ho ?hn ?hr ?_; (case ho => rfl); (case hg => rfl); (case hn => rfl); (case hr => go_simp; rfl); intro wq_ hW_; have BQ_ := am hW_; have hzq_ := am hW_; replace hW_ := am hW_) | (refine gL 20 Tryd.func32 #[.string a0, .string (⟨#[10]⟩ : ByteArray)] ?_; (try (clear hzq_ BQ_; obtain ⟨hW_⟩ := hW_; subst hW_)); (with_reducible refine (strings_Split.calls a0 (⟨#[10]⟩ : ByteArray) t354 _ A2.out (Aside0.mk (Sh.hasM_of PQM_ (xB HB)))).mono ?_); rintro e w5 ⟨v355, rfl, ho0, hb⟩; refine ⟨_, rfl, ?_⟩; have HO356 := am (Kd.R_lower ho0 (below_size (xB HB))); replace BK353 := kP _ BK353 hb; replace HB := kH HB hb; (try clear hb); (try clear ho0)))
 (try simp only [Act.put, sa, s0, s1])
 (try (clear hzq_ BQ_; obtain ⟨hW_⟩ := hW_; subst hW_))
 go_cut [29] (fun v29 wc => ∃ (kq : Nat) (x29_2 : Bool), v29 = .bool x29_2 ∧ Aside0 (impl_PaidGet.j0 kq a0 t354 x29_2 = some (r1, r2, r3, r4, r5, r6, r7, r8, r9, r10)) ∧ Aside0 (kq ≤ k) ∧ Aside0 (Kd.R Kd.string 9 wc w.heap.size (fun _ => True) v355 t354) ∧ Aside0 (wc.heap[gb353]? = some (.cells #[.int .i64 0, .string (⟨#[]⟩ : ByteArray), .string (⟨#[]⟩ : ByteArray), .int .i64 0, .int .i64 0, .int .i64 0, (.slice none 0 0), (.slice none 0 0), (.slice none 0 0)] 29 (0, 0))) ∧ Aside0 (Below w.heap.size w wc))
 case first =>
  have H := HC3.out
  clear HC3
  by_cases c6 : (t354.length : Int) = 5
  rotate_left
  ·rw [if_neg c6] at H
   have c6b0 := beq_eq_false_iff_ne.mpr c6
   have c6b1 := bne_iff_ne.mpr c6
   (first | rw [c6b0] | (simp only [i64_w, i32_w]; rw [c6b0]) | skip)
   have H' := Aside0.mk H
   clear H
   obtain ⟨Ao9, co9, eo9⟩ := Kd.R_slice HO356.out
   subst eo9
   go_wp2
   (try (clear hzq_ BQ_; obtain ⟨hW_⟩ := hW_; subst hW_))
   go_meet
   case rel => exact ⟨_, (true), xR, H', ⟨xO⟩, ⟨ra HO356⟩, ⟨kb BK353⟩, ⟨xB HB⟩⟩
  rw [if_pos c6] at H
  have c6b0 := beq_iff_eq.mpr c6
  have c6b1 := bne_eq_false_iff_eq.mpr c6
  clear c6
  (first | rw [c6b0] | (simp only [i64_w, i32_w]; rw [c6b0]) | skip)
  replace H := ip H
  obtain ⟨c7, H⟩ := H
  have c7b0 := decide_eq_true c7
  have c7b1 : decide (4 < t354.length) = true := decide_eq_true (by omega)
  clear c7
  have H' := Aside0.mk H
  clear H
  obtain ⟨Ao8, co8, eo8⟩ := Kd.R_slice HO356.out
  subst eo8
  have p357 : 0 ≤ (4 : Int) := (by omega)
  have q357 : 4 < (t354.length : Int) := of_decide_eq_true xA
  obtain ⟨ad357, e357, hx357_0⟩ := Kd.at_string (Kd.R_reads' HO356.out).2.2 4 p357 q357
  cases e357
  (try simp only [show (4 : Int).toNat = 4 from rfl, Nat.reduceMul, Nat.reduceEqDiff, Go.Addr.add, ↓reduceIte] at hx357_0)
  have qi357 : (4 < t354.length) = True := eq_true (by omega)
  (try rw [show ((4 : Int)).toNat = 4 from rfl] at hx357_0)
  replace p357 := eq_true p357
  replace q357 := eq_true q357
  go_wp2
  (try (clear hzq_ BQ_; obtain ⟨hW_⟩ := hW_; subst hW_))
  go_meet
  case rel => exact ⟨_, (((rdOf ByteArray.empty t354 4).toList != ([] : List UInt8))), (by simp; cases (rdOf ByteArray.empty t354 4).toList <;> rfl), H', ⟨xO⟩, ⟨ra HO356⟩, ⟨kb BK353⟩, ⟨xB HB⟩⟩
 case rest =>
  clear HC3
  try clear p2
  try clear c3
  try clear p3
  try clear q3
  try clear hx3
  try clear qi3
  try clear c6
  try clear c6b0
  try clear c6b1
  try clear c7
  try clear c7b0
  try clear c7b1
  try clear c9
  try clear hx357_0
  try clear p357
  try clear q357
  obtain ⟨kq, x29_2, rfl, HA, HJ2, HO_4, BK353, HB⟩ := hcut
  cases kq with
  | zero => exact absurd HA.out (by simp [impl_PaidGet.j0])
  | succ kj2 =>
   have H := HA.out
   clear HA
   simp only [impl_PaidGet.j0] at H
   by_cases c10 : x29_2 = true
   ·subst c10
    rw [if_pos rfl] at H
    simp only [Option.some.injEq, Prod.mk.injEq] at H
    obtain ⟨rfl, rfl, rfl, rfl, rfl, rfl, rfl, rfl, rfl, rfl⟩ := H
    (first | have hz11 := bc9 (kF _ BK353 hW_.out) | have hz11 := bc9 BK353)
    go_wp2
    (try (clear hzq_ BQ_; obtain ⟨hW_⟩ := hW_; subst hW_))
    refine bodyPost_ret (results_ct rfl _ _ gb353 29 #[.int .i64 0, .string (⟨#[]⟩ : ByteArray), .string (⟨#[]⟩ : ByteArray), .int .i64 0, .int .i64 0, .int .i64 0, .slice none 0 0, .slice none 0 0, .slice none 0 0] (0, 0) _ rfl (fb BK353) Tryd.underlying29 rfl (by kernel_rfl)) rfl ?_
    exact ⟨_, _, _, xE, xN, xN, xN, xB HB⟩
   replace c10 := Bool.eq_false_iff.mpr c10
   subst c10
   rw [if_neg (show ¬ (false = true) by decide)] at H
   replace H := ip H
   obtain ⟨c12, H⟩ := H
   have c12b0 := decide_eq_true c12
   have c12b1 : decide (0 < t354.length) = true := decide_eq_true (by omega)
   clear c12
   replace H := Option.bind_eq_some_iff.mp H
   obtain ⟨⟨t359, t360, t361⟩, A130, H⟩ := H
   have A13 := Aside0.mk A130
   clear A130
   replace H := Option.bind_eq_some_iff.mp H
   obtain ⟨⟨t362, t363⟩, A140, H⟩ := H
   have A14 := Aside0.mk A140
   clear A140
   replace H := Option.bind_eq_some_iff.mp H
   obtain ⟨⟨t364, t365, t366, t367, t368, t369⟩, A150, H⟩ := H
   have A15 := Aside0.mk A150
   clear A150
   replace H := ip H
   obtain ⟨c16, H⟩ := H
   have c16b0 := decide_eq_true c16
   have c16b1 : decide (1 < t354.length) = true := decide_eq_true (by omega)
   clear c16
   replace H := Option.bind_eq_some_iff.mp H
   obtain ⟨⟨t372, t373⟩, A170, H⟩ := H
   have A17 := Aside0.mk A170
   clear A170
   replace H := ip H
   obtain ⟨c18, H⟩ := H
   have c18b0 := decide_eq_true c18
   have c18b1 : decide (2 < t354.length) = true := decide_eq_true (by omega)
   clear c18
   replace H := Option.bind_eq_some_iff.mp H
   obtain ⟨⟨t377, t378⟩, A190, H⟩ := H
   have A19 := Aside0.mk A190
   clear A190
   replace H := ip H
   obtain ⟨c20, H⟩ := H
   have c20b0 := decide_eq_true c20
   have c20b1 : decide (3 < t354.length) = true := decide_eq_true (by omega)
   clear c20
   replace H := Option.bind_eq_some_iff.mp H
   obtain ⟨⟨t382, t383⟩, A210, H⟩ := H
   have A21 := Aside0.mk A210
   clear A210
   obtain ⟨Ao29, co29, eo29⟩ := Kd.R_slice HO_4.out
   subst eo29
   have p358 : 0 ≤ (0 : Int) := (by omega)
   have q358 : 0 < (t354.length : Int) := of_decide_eq_true xA
   obtain ⟨ad358, e358, hx358_0⟩ := Kd.at_string (Kd.R_reads' HO_4.out).2.2 0 p358 q358
   cases e358
   have qi358 : (0 < t354.length) = True := eq_true (by omega)
   (try rw [show ((0 : Int)).toNat = 0 from rfl] at hx358_0)
   (try rw [Addr.add_zero'] at hx358_0)
   replace p358 := eq_true p358
   replace q358 := eq_true q358
   go_upto_region 11 with ((with_reducible refine gg ?_); first | (refine gL 35 Tryd.func33 #[.string (rdOf ByteArray.empty t354 0), .string (⟨#[32]⟩ : ByteArray)] ?_; (try (clear hzq_ BQ_; obtain ⟨hW_⟩ := hW_; subst hW_)); (with_reducible refine (strings_Cut.calls (rdOf ByteArray.empty t354 0) (⟨#[32]⟩ : ByteArray) t359 t360 t361 _ A13.out (Aside0.mk (Sh.hasM_of PQM_ (xB HB)))).mono ?_); rintro e w30 ⟨rfl, hb⟩; refine ⟨_, rfl, ?_⟩; replace HO_4 := rk HO_4 hb; replace BK353 := kP _ BK353 hb; replace HB := kH HB hb; (try clear hb)) | (refine gL 41 Tryd.func34 #[.string t359] ?_; (try (clear hzq_ BQ_; obtain ⟨hW_⟩ := hW_; subst hW_)); (with_reducible refine (impl_number.calls kj2 t359 t362 t363 _ A14.out).mono ?_); rintro e w' ⟨rfl, ⟨nd, rfl⟩⟩; refine ⟨_, rfl, ?_⟩; (try (rw [drewN_self w30]; generalize hq_ : World.drewN w30 _ = w30; have n0_ := dR hq_ HO_4; have n1_ := dK hq_ BK353; have n2_ := dB hq_ HB; clear HO_4 BK353 HB hq_; have HO_4 := n0_; have BK353 := n1_; have HB := n2_; clear n0_ n1_ n2_))) | (refine gL 46 Tryd.func18 #[.string t360] ?_; (try (clear hzq_ BQ_; obtain ⟨hW_⟩ := hW_; subst hW_)); (with_reducible refine (impl_HeadGet.calls kj2 t360 t364 t365 t366 t367 t368 t369 _ A15.out (Aside0.mk (Sh.hasM_of PQM_ (xB HB)))).mono ?_); rintro e w31 ⟨rfl, hb⟩; refine ⟨_, rfl, ?_⟩; replace HO_4 := rk HO_4 hb; replace BK353 := kP _ BK353 hb; replace HB := kH HB hb; (try clear hb)) | (refine bE 10 #[.string (⟨#[]⟩ : ByteArray), .string (⟨#[]⟩ : ByteArray), .int .i64 0, .int .i64 0, .int .i64 0] 23 ?_; (try (clear hzq_ BQ_; obtain ⟨hW_⟩ := hW_; subst hW_)); intro gb370 hg w32 hbox hb; replace HO_4 := rk HO_4 hb; have BK370 := am (hbox); have GW370 := zB hg HB; have GE370 := zB hg HB; replace HB := kH HB hb; have NB353_370 := nl hg (kb BK353); have NB370_353 := ng hg (kb BK353); replace BK353 := kP _ BK353 hb; clear hb hbox hg; have hnb33 := NB370_353.out; have hnc33 := NB353_370.out; have hz34 := bc5 BK370; have p371 : 0 ≤ (1 : Int) := (by omega); have q371 : 1 < (t354.length : Int) := of_decide_eq_true xA; obtain ⟨ad371, e371, hx371_0⟩ := Kd.at_string (Kd.R_reads' HO_4.out).2.2 1 p371 q371; obtain rfl : ad358 = ad371 := (by injection e371); (try simp only [show (1 : Int).toNat = 1 from rfl, Nat.reduceMul, Nat.reduceEqDiff, Go.Addr.add, ↓reduceIte] at hx371_0); have qi371 : (1 < t354.length) = True := eq_true (by omega); (try rw [show ((1 : Int)).toNat = 1 from rfl] at hx371_0); have hn371_0 : ad358.block ≠ gb370 := Kd.own_blk (Kd.R_ne HO_4.out BK370.out (by decide)); have hn371_1 : ad358.block ≠ gb370 := Kd.own_blk (Kd.R_ne HO_4.out BK370.out (by decide)); have hn371_2 : ad358.block ≠ gb370 := Kd.own_blk (Kd.R_ne HO_4.out BK370.out (by decide)); have hn371_3 : ad358.block ≠ gb370 := Kd.own_blk (Kd.R_ne HO_4.out BK370.out (by decide)); have hn371_4 : ad358.block ≠ gb370 := Kd.own_blk (Kd.R_ne HO_4.out BK370.out (by decide)); replace hx371_0 := (cell_far (p := ⟨gb370, 0, none⟩) (by first | (rw [add_block]; exact hn371_0) | (show (Addr.add _ _).block ≠ _; rw [add_block]; exact hn371_0) | exact hn371_0) (.string t364)).trans hx371_0; replace hx371_0 := (cell_far (p := ⟨gb370, 1, none⟩) (by first | (rw [add_block]; exact hn371_1) | (show (Addr.add _ _).block ≠ _; rw [add_block]; exact hn371_1) | exact hn371_1) (.string t365)).trans hx371_0; replace hx371_0 := (cell_far (p := ⟨gb370, 2, none⟩) (by first | (rw [add_block]; exact hn371_2) | (show (Addr.add _ _).block ≠ _; rw [add_block]; exact hn371_2) | exact hn371_2) (.int .i64 t366)).trans hx371_0; replace hx371_0 := (cell_far (p := ⟨gb370, 3, none⟩) (by first | (rw [add_block]; exact hn371_3) | (show (Addr.add _ _).block ≠ _; rw [add_block]; exact hn371_3) | exact hn371_3) (.int .i64 t367)).trans hx371_0; replace hx371_0 := (cell_far (p := ⟨gb370, 4, none⟩) (by first | (rw [add_block]; exact hn371_4) | (show (Addr.add _ _).block ≠ _; rw [add_block]; exact hn371_4) | exact hn371_4) (.int .i64 t368)).trans hx371_0; clear hn371_0; clear hn371_1; clear hn371_2; clear hn371_3; clear hn371_4; replace p371 := eq_true p371; replace q371 := eq_true q371) | (refine store_event (t := 23) (p := 10) (v := ?vo_) (w1 := ?wo_) ?hg ?ho ?hn ?hr ?_; (case ho => rfl); (case hg => rfl); (case hn => rfl); (case hr => go_simp; rfl); intro wq_ hW_; (try rw [← hW_] at hx371_0); (first | (have BQ_ := kF (.cells #[.string t364, .string t365, .int .i64 t366, .int .i64 t367, .int .i64 t368] 23 (0, 0)) BK370 hW_; have hzq_ := bc5 BQ_) | (have BQ_ := am hW_; have hzq_ := am hW_)); replace hW_ := am hW_) | (refine gL 53 Tryd.func35 #[.string (⟨#[112, 101, 97, 107, 115]⟩ : ByteArray), .string (rdOf ByteArray.empty t354 1)] ?_; (try (clear hzq_ BQ_; obtain ⟨hW_⟩ := hW_; subst hW_)); (with_reducible refine (impl_peaksGet.calls kj2 (⟨#[112, 101, 97, 107, 115]⟩ : ByteArray) (rdOf ByteArray.empty t354 1) t372 t373 _ A17.out (Aside0.mk (Sh.hasM_of PQM_ (xB HB)))).mono ?_); rintro e w35 ⟨v374, rfl, ho0, hb⟩; refine ⟨_, rfl, ?_⟩; replace HO_4 := am (Kd.R_below (rf HO_4 BK370) hb); have HO375 := am (Kd.R_lower ho0 (below_size (xB HB))); replace BK353 := kP _ BK353 hb; replace BK370 := kP (.cells #[.string t364, .string t365, .int .i64 t366, .int .i64 t367, .int .i64 t368] 23 (0, 0)) BK370 hb; replace HB := kH HB hb; (try clear hb); (try clear ho0); have p376 : 0 ≤ (2 : Int) := (by omega); have q376 : 2 < (t354.length : Int) := of_decide_eq_true xA; obtain ⟨ad376, e376, hx376_0⟩ := Kd.at_string (Kd.R_reads' HO_4.out).2.2 2 p376 q376; obtain rfl : ad358 = ad376 := (by injection e376); (try simp only [show (2 : Int).toNat = 2 from rfl, Nat.reduceMul, Nat.reduceEqDiff, Go.Addr.add, ↓reduceIte] at hx376_0); have qi376 : (2 < t354.length) = True := eq_true (by omega); (try rw [show ((2 : Int)).toNat = 2 from rfl] at hx376_0); replace p376 := eq_true p376; replace q376 := eq_true q376) | (refine gL 60 Tryd.func35 #[.string (⟨#[115, 116, 101, 112, 115]⟩ : ByteArray), .string (rdOf ByteArray.empty t354 2)] ?_; (try (clear hzq_ BQ_; obtain ⟨hW_⟩ := hW_; subst hW_)); (with_reducible refine (impl_peaksGet.calls kj2 (⟨#[115, 116, 101, 112, 115]⟩ : ByteArray) (rdOf ByteArray.empty t354 2) t377 t378 _ A19.out (Aside0.mk (Sh.hasM_of PQM_ (xB HB)))).mono ?_); rintro e w36 ⟨v379, rfl, ho0, hb⟩; refine ⟨_, rfl, ?_⟩; replace HO_4 := rk HO_4 hb; have HO380 := am (Kd.R_lower (Kd.R_new' ho0 (Kd.R_lt (ra HO375))) (below_size (xB HB))); replace HO375 := am (Kd.R_elder' (ra HO375) (Kd.R_base ho0) hb); replace BK353 := kP _ BK353 hb; replace BK370 := kP _ BK370 hb; replace HB := kH HB hb; (try clear hb); (try clear ho0); have p381 : 0 ≤ (3 : Int) := (by omega); have q381 : 3 < (t354.length : Int) := of_decide_eq_true xA; obtain ⟨ad381, e381, hx381_0⟩ := Kd.at_string (Kd.R_reads' HO_4.out).2.2 3 p381 q381; obtain rfl : ad358 = ad381 := (by injection e381); (try simp only [show (3 : Int).toNat = 3 from rfl, Nat.reduceMul, Nat.reduceEqDiff, Go.Addr.add, ↓reduceIte] at hx381_0); have qi381 : (3 < t354.length) = True := eq_true (by omega); (try rw [show ((3 : Int)).toNat = 3 from rfl] at hx381_0); replace p381 := eq_true p381; replace q381 := eq_true q381) | (refine gL 67 Tryd.func36 #[.string (rdOf ByteArray.empty t354 3)] ?_; (try (clear hzq_ BQ_; obtain ⟨hW_⟩ := hW_; subst hW_)); (with_reducible refine (impl_sidesGet.calls kj2 (rdOf ByteArray.empty t354 3) t382 t383 _ A21.out (Aside0.mk (Sh.hasM_of PQM_ (xB HB)))).mono ?_); rintro e w37 ⟨v384, rfl, ho0, hb⟩; refine ⟨_, rfl, ?_⟩; replace HO_4 := rk HO_4 hb; replace HO375 := rk HO375 hb; replace HO380 := rk HO380 hb; have HO385 := am (Kd.R_lower ho0 (below_size (xB HB))); replace BK353 := kP _ BK353 hb; replace BK370 := kP _ BK370 hb; replace HB := kH HB hb; (try clear hb); (try clear ho0); have hz38 := bc5 BK370; obtain ⟨Ao39, co39, eo39⟩ := Kd.R_slice HO380.out; subst eo39; obtain ⟨Ao40, co40, eo40⟩ := Kd.R_slice HO375.out; subst eo40; obtain ⟨Ao41, co41, eo41⟩ := Kd.R_slice HO385.out; subst eo41) | (refine bE 18 #[.int .i64 0, .string (⟨#[]⟩ : ByteArray), .string (⟨#[]⟩ : ByteArray), .int .i64 0, .int .i64 0, .int .i64 0, .slice none 0 0, .slice none 0 0, .slice none 0 0] 29 ?_; (try (clear hzq_ BQ_; obtain ⟨hW_⟩ := hW_; subst hW_)); intro gb386 hg w42 hbox hb; replace HO_4 := rk HO_4 hb; replace HO375 := rk HO375 hb; replace HO380 := rk HO380 hb; replace HO385 := rk HO385 hb; have BK386 := am (hbox); have GW386 := zB hg HB; have GE386 := zB hg HB; replace HB := kH HB hb; have NB353_386 := nl hg (kb BK353); have NB386_353 := ng hg (kb BK353); replace BK353 := kP _ BK353 hb; have NB370_386 := nl hg (kb BK370); have NB386_370 := ng hg (kb BK370); replace BK370 := kP _ BK370 hb; clear hb hbox hg; have hnb43 := NB386_353.out; have hnc43 := NB353_386.out; have hnb44 := NB386_370.out; have hnc44 := NB370_386.out; have hz45 := bc9 BK386) | (refine store_event (t := 29) (p := 18) (v := ?vo_) (w1 := ?wo_) ?hg ?ho ?hn ?hr ?_; (case ho => rfl); (case hg => rfl); (case hn => rfl); (case hr => go_simp; rfl); intro wq_ hW_; (first | (have BQ_ := kF (.cells #[.int .i64 t362, .string t364, .string t365, .int .i64 t366, .int .i64 t367, .int .i64 t368, .slice Ao40 t372.length co40, .slice Ao39 t377.length co39, .slice Ao41 t382.length co41] 29 (0, 0)) BK386 hW_; have hzq_ := bc9 BQ_) | (have BQ_ := am hW_; have hzq_ := am hW_)); replace hW_ := am hW_))
   by_cases c22 : t363 = true
   rotate_left
   ·replace c22 := Bool.eq_false_iff.mpr c22
    subst c22
    try simp only [Bool.not_true, Bool.not_false]
    rw [if_neg (show ¬ (false = true) by decide)] at H
    simp only [Option.some.injEq, Prod.mk.injEq] at H
    obtain ⟨rfl, rfl, rfl, rfl, rfl, rfl, rfl, rfl, rfl, rfl⟩ := H
    (first | have hz157 := bc9 (kF _ BK353 hW_.out) | have hz157 := bc9 BK353)
    go_wp2
    (try (clear hzq_ BQ_; obtain ⟨hW_⟩ := hW_; subst hW_))
    refine bodyPost_ret (results_ct rfl _ _ gb353 29 #[.int .i64 0, .string (⟨#[]⟩ : ByteArray), .string (⟨#[]⟩ : ByteArray), .int .i64 0, .int .i64 0, .int .i64 0, .slice none 0 0, .slice none 0 0, .slice none 0 0] (0, 0) _ rfl (fb BK353) Tryd.underlying29 rfl (by kernel_rfl)) rfl ?_
    exact ⟨_, _, _, xE, xN, xN, xN, xB HB⟩
   subst c22
   try simp only [Bool.not_true, Bool.not_false]
   rw [if_pos rfl] at H
   by_cases c23 : t369 = true
   rotate_left
   ·replace c23 := Bool.eq_false_iff.mpr c23
    subst c23
    rw [if_neg (show ¬ (false = true) by decide)] at H
    simp only [Option.some.injEq, Prod.mk.injEq] at H
    obtain ⟨rfl, rfl, rfl, rfl, rfl, rfl, rfl, rfl, rfl, rfl⟩ := H
    (first | have hz139 := bc9 (kF _ BK353 hW_.out) | have hz139 := bc9 BK353)
    go_wp2
    (try (clear hzq_ BQ_; obtain ⟨hW_⟩ := hW_; subst hW_))
    refine bodyPost_ret (results_ct rfl _ _ gb353 29 #[.int .i64 0, .string (⟨#[]⟩ : ByteArray), .string (⟨#[]⟩ : ByteArray), .int .i64 0, .int .i64 0, .int .i64 0, .slice none 0 0, .slice none 0 0, .slice none 0 0] (0, 0) _ rfl (fb BK353) Tryd.underlying29 rfl (by kernel_rfl)) rfl ?_
    exact ⟨_, _, _, xE, xN, xN, xN, xB HB⟩
   subst c23
   rw [if_pos rfl] at H
   by_cases c24 : t373 = true
   rotate_left
   ·replace c24 := Bool.eq_false_iff.mpr c24
    subst c24
    rw [if_neg (show ¬ (false = true) by decide)] at H
    simp only [Option.some.injEq, Prod.mk.injEq] at H
    obtain ⟨rfl, rfl, rfl, rfl, rfl, rfl, rfl, rfl, rfl, rfl⟩ := H
    (first | have hz121 := bc9 (kF _ BK353 hW_.out) | have hz121 := bc9 BK353)
    go_wp2
    (try (clear hzq_ BQ_; obtain ⟨hW_⟩ := hW_; subst hW_))
    refine bodyPost_ret (results_ct rfl _ _ gb353 29 #[.int .i64 0, .string (⟨#[]⟩ : ByteArray), .string (⟨#[]⟩ : ByteArray), .int .i64 0, .int .i64 0, .int .i64 0, .slice none 0 0, .slice none 0 0, .slice none 0 0] (0, 0) _ rfl (fb BK353) Tryd.underlying29 rfl (by kernel_rfl)) rfl ?_
    exact ⟨_, _, _, xE, xN, xN, xN, xB HB⟩
   subst c24
   rw [if_pos rfl] at H
   by_cases c25 : t378 = true
   rotate_left
   ·replace c25 := Bool.eq_false_iff.mpr c25
    subst c25
    rw [if_neg (show ¬ (false = true) by decide)] at H
    simp only [Option.some.injEq, Prod.mk.injEq] at H
    obtain ⟨rfl, rfl, rfl, rfl, rfl, rfl, rfl, rfl, rfl, rfl⟩ := H
    (first | have hz103 := bc9 (kF _ BK353 hW_.out) | have hz103 := bc9 BK353)
    go_wp2
    (try (clear hzq_ BQ_; obtain ⟨hW_⟩ := hW_; subst hW_))
    refine bodyPost_ret (results_ct rfl _ _ gb353 29 #[.int .i64 0, .string (⟨#[]⟩ : ByteArray), .string (⟨#[]⟩ : ByteArray), .int .i64 0, .int .i64 0, .int .i64 0, .slice none 0 0, .slice none 0 0, .slice none 0 0] (0, 0) _ rfl (fb BK353) Tryd.underlying29 rfl (by kernel_rfl)) rfl ?_
    exact ⟨_, _, _, xE, xN, xN, xN, xB HB⟩
   subst c25
   rw [if_pos rfl] at H
   by_cases c26 : t383 = true
   rotate_left
   ·replace c26 := Bool.eq_false_iff.mpr c26
    subst c26
    rw [if_neg (show ¬ (false = true) by decide)] at H
    simp only [Option.some.injEq, Prod.mk.injEq] at H
    obtain ⟨rfl, rfl, rfl, rfl, rfl, rfl, rfl, rfl, rfl, rfl⟩ := H
    (first | have hz85 := bc9 (kF _ BK353 hW_.out) | have hz85 := bc9 BK353)
    go_wp2
    (try (clear hzq_ BQ_; obtain ⟨hW_⟩ := hW_; subst hW_))
    refine bodyPost_ret (results_ct rfl _ _ gb353 29 #[.int .i64 0, .string (⟨#[]⟩ : ByteArray), .string (⟨#[]⟩ : ByteArray), .int .i64 0, .int .i64 0, .int .i64 0, .slice none 0 0, .slice none 0 0, .slice none 0 0] (0, 0) _ rfl (fb BK353) Tryd.underlying29 rfl (by kernel_rfl)) rfl ?_
    exact ⟨_, _, _, xE, xN, xN, xN, xB HB⟩
   subst c26
   rw [if_pos rfl] at H
   replace H := oa H
   obtain ⟨t387, A27, H⟩ := H
   go_upto_if 100 with (go_at_call 23; (try (clear hzq_ BQ_; obtain ⟨hW_⟩ := hW_; subst hW_)); (with_reducible refine (impl_PaidPut.calls kj2 t362 t364 t365 t366 t367 t368 _ _ t372 _ _ t377 _ _ t382 t387 _ ?side1 ?side2 ?side3 ?side4 ?side5 ?side6 A27.out (Aside0.mk (Sh.hasT_of PQT_ (xB HB)))).mono ?_); (case side1 => exact (Kd.R_reads' (rf HO375 BK386)).2.2); (case side2 => exact (Kd.R_reads' HO375.out).2.1); (case side3 => exact (Kd.R_reads' (rf HO380 BK386)).2.2); (case side4 => exact (Kd.R_reads' HO380.out).2.1); (case side5 => exact (Kd.R_reads' (rf HO385 BK386)).2.2); (case side6 => exact (Kd.R_reads' HO385.out).2.1); rintro e w46 ⟨rfl, hb⟩; replace HO_4 := am (Kd.R_below (rf HO_4 BK386) hb); replace HO375 := am (Kd.R_below (rf HO375 BK386) hb); replace HO380 := am (Kd.R_below (rf HO380 BK386) hb); replace HO385 := am (Kd.R_below (rf HO385 BK386) hb); replace BK353 := kP _ BK353 hb; replace BK370 := kP _ BK370 hb; replace BK386 := kP (.cells #[.int .i64 t362, .string t364, .string t365, .int .i64 t366, .int .i64 t367, .int .i64 t368, .slice Ao40 t372.length co40, .slice Ao39 t377.length co39, .slice Ao41 t382.length co41] 29 (0, 0)) BK386 hb; replace HB := kH HB hb; (try clear hb))
   by_cases c28 : t387.toList = a0.toList
   rotate_left
   ·rw [if_neg c28] at H
    have c28b0 := beq_eq_false_iff_ne.mpr c28
    have c28b1 := bne_iff_ne.mpr c28
    try simp only [c28b0, c28b1, Bool.not_true, Bool.not_false]
    simp only [Option.some.injEq, Prod.mk.injEq] at H
    obtain ⟨rfl, rfl, rfl, rfl, rfl, rfl, rfl, rfl, rfl, rfl⟩ := H
    (first | have hz67 := bc9 (kF _ BK353 hW_.out) | have hz67 := bc9 BK353)
    go_wp2
    (try (clear hzq_ BQ_; obtain ⟨hW_⟩ := hW_; subst hW_))
    refine bodyPost_ret (results_ct rfl _ _ gb353 29 #[.int .i64 0, .string (⟨#[]⟩ : ByteArray), .string (⟨#[]⟩ : ByteArray), .int .i64 0, .int .i64 0, .int .i64 0, .slice none 0 0, .slice none 0 0, .slice none 0 0] (0, 0) _ rfl (fb BK353) Tryd.underlying29 rfl (by kernel_rfl)) rfl ?_
    exact ⟨_, _, _, xE, xN, xN, xN, xB HB⟩
   rw [if_pos c28] at H
   have c28b0 := beq_iff_eq.mpr c28
   have c28b1 := bne_eq_false_iff_eq.mpr c28
   try simp only [c28b0, c28b1, Bool.not_true, Bool.not_false]
   clear c28
   simp only [Option.some.injEq, Prod.mk.injEq] at H
   obtain ⟨rfl, rfl, rfl, rfl, rfl, rfl, rfl, rfl, rfl, rfl⟩ := H
   (first | have hz47 := bc9 (kF _ BK386 hW_.out) | have hz47 := bc9 BK386)
   (first | have hz48 := bc9 (kF _ BK353 hW_.out) | have hz48 := bc9 BK353)
   go_wp2
   (try (clear hzq_ BQ_; obtain ⟨hW_⟩ := hW_; subst hW_))
   refine bodyPost_ret (results_ct rfl _ _ gb353 29 #[.int .i64 t362, .string t364, .string t365, .int .i64 t366, .int .i64 t367, .int .i64 t368, .slice Ao40 t372.length co40, .slice Ao39 t377.length co39, .slice Ao41 t382.length co41] (0, 0) _ rfl (fb BK353) Tryd.underlying29 rfl (by kernel_rfl)) rfl ?_
   exact ⟨_, _, _, xE, rF HO375 BK353 (fun _ hk => hk.2), rF HO380 BK353 (fun _ hk => hk.2), rF HO385 BK353 (fun _ hk => trivial), xB HB⟩

/-! ### laws_eqHead: function 19 -/
def laws_eqHead.f (a0_0 : ByteArray) (a0_1 : ByteArray) (a0_2 : Int) (a0_3 : Int) (a0_4 : Int) (a1_0 : ByteArray) (a1_1 : ByteArray) (a1_2 : Int) (a1_3 : Int) (a1_4 : Int) : Option (Bool) := if a0_0.toList = a1_0.toList then (if a0_1.toList = a1_1.toList then (if a0_2 = a1_2 then (if a0_3 = a1_3 then (if a0_4 = a1_4 then (some true) else (some false)) else (some false)) else (some false)) else (some false)) else (some false)
set_option maxHeartbeats 64000000 in
set_option maxRecDepth 100000 in
theorem laws_eqHead.calls (a0_0 : ByteArray) (a0_1 : ByteArray) (a0_2 : Int) (a0_3 : Int) (a0_4 : Int) (a1_0 : ByteArray) (a1_1 : ByteArray) (a1_2 : Int) (a1_3 : Int) (a1_4 : Int) (r : Bool) (w : World) (h : laws_eqHead.f a0_0 a0_1 a0_2 a0_3 a0_4 a1_0 a1_1 a1_2 a1_3 a1_4 = some r) :
  Calls Tryd.prog 19 #[.agg #[.string a0_0, .string a0_1, .int .i64 a0_2, .int .i64 a0_3, .int .i64 a0_4], .agg #[.string a1_0, .string a1_1, .int .i64 a1_2, .int .i64 a1_3, .int .i64 a1_4]] w fun e w' => e = .returned (.bool r) ∧ Below w.heap.size w w' := by
 have hu23 := Tryd.underlying23
 have HB := Aside0.mk (Below.refl w.heap.size w)
 have H : (if a0_0.toList = a1_0.toList then (if a0_1.toList = a1_1.toList then (if a0_2 = a1_2 then (if a0_3 = a1_3 then (if a0_4 = a1_4 then (some true) else (some false)) else (some false)) else (some false)) else (some false)) else (some false)) = some r := h
 clear h
 go_enter Tryd.func19, Tryd.ntmps19
 go_upto_if 9 with ((with_reducible refine gg ?_); first | (refine bE 2 #[.string a0_0, .string a0_1, .int .i64 a0_2, .int .i64 a0_3, .int .i64 a0_4] 23 ?_; intro gb388 hg w8 hbox hb; have BK388 := am (hbox); have GW388 := zB hg HB; have GE388 := zB hg HB; replace HB := kH HB hb; clear hb hbox hg) | (refine bE 3 #[.string a1_0, .string a1_1, .int .i64 a1_2, .int .i64 a1_3, .int .i64 a1_4] 23 ?_; intro gb389 hg w9 hbox hb; have BK389 := am (hbox); have GW389 := zB hg HB; have GE389 := zB hg HB; replace HB := kH HB hb; have NB388_389 := nl hg (kb BK388); have NB389_388 := ng hg (kb BK388); replace BK388 := kP _ BK388 hb; clear hb hbox hg; have hnb10 := NB388_389.out; have hnc10 := NB389_388.out; have hz11 := bc5 BK388; have hz12 := bc5 BK389))
 by_cases c3 : a0_0.toList = a1_0.toList
 rotate_left
 ·rw [if_neg c3] at H
  have c3b0 := beq_eq_false_iff_ne.mpr c3
  have c3b1 := bne_iff_ne.mpr c3
  try simp only [c3b0, c3b1, Bool.not_true, Bool.not_false]
  obtain rfl := Option.some.inj H
  go_wp2
  go_ret
  exact ⟨xE, xB HB⟩
 rw [if_pos c3] at H
 have c3b0 := beq_iff_eq.mpr c3
 have c3b1 := bne_eq_false_iff_eq.mpr c3
 try simp only [c3b0, c3b1, Bool.not_true, Bool.not_false]
 clear c3
 by_cases c4 : a0_1.toList = a1_1.toList
 rotate_left
 ·rw [if_neg c4] at H
  have c4b0 := beq_eq_false_iff_ne.mpr c4
  have c4b1 := bne_iff_ne.mpr c4
  obtain rfl := Option.some.inj H
  go_wp2
  go_ret
  exact ⟨xE, xB HB⟩
 rw [if_pos c4] at H
 have c4b0 := beq_iff_eq.mpr c4
 have c4b1 := bne_eq_false_iff_eq.mpr c4
 clear c4
 by_cases c5 : a0_2 = a1_2
 rotate_left
 ·rw [if_neg c5] at H
  have c5b0 := beq_eq_false_iff_ne.mpr c5
  have c5b1 := bne_iff_ne.mpr c5
  obtain rfl := Option.some.inj H
  go_wp2
  go_ret
  exact ⟨xE, xB HB⟩
 rw [if_pos c5] at H
 have c5b0 := beq_iff_eq.mpr c5
 have c5b1 := bne_eq_false_iff_eq.mpr c5
 clear c5
 by_cases c6 : a0_3 = a1_3
 rotate_left
 ·rw [if_neg c6] at H
  have c6b0 := beq_eq_false_iff_ne.mpr c6
  have c6b1 := bne_iff_ne.mpr c6
  obtain rfl := Option.some.inj H
  go_wp2
  go_ret
  exact ⟨xE, xB HB⟩
 rw [if_pos c6] at H
 have c6b0 := beq_iff_eq.mpr c6
 have c6b1 := bne_eq_false_iff_eq.mpr c6
 clear c6
 by_cases c7 : a0_4 = a1_4
 rotate_left
 ·rw [if_neg c7] at H
  have c7b0 := beq_eq_false_iff_ne.mpr c7
  have c7b1 := bne_iff_ne.mpr c7
  obtain rfl := Option.some.inj H
  go_wp2
  go_ret
  exact ⟨xE, xB HB⟩
 rw [if_pos c7] at H
 have c7b0 := beq_iff_eq.mpr c7
 have c7b1 := bne_eq_false_iff_eq.mpr c7
 clear c7
 obtain rfl := Option.some.inj H
 go_wp2
 go_ret
 exact ⟨xE, xB HB⟩

/-! ### laws_eqPeak: function 92 -/
def laws_eqPeak.f (a0_0 : ByteArray) (a0_1 : Int) (a0_2 : Int) (a1_0 : ByteArray) (a1_1 : Int) (a1_2 : Int) : Option (Bool) := if a0_0.toList = a1_0.toList then (if a0_1 = a1_1 then (if a0_2 = a1_2 then (some true) else (some false)) else (some false)) else (some false)
set_option maxHeartbeats 64000000 in
set_option maxRecDepth 100000 in
theorem laws_eqPeak.calls (a0_0 : ByteArray) (a0_1 : Int) (a0_2 : Int) (a1_0 : ByteArray) (a1_1 : Int) (a1_2 : Int) (r : Bool) (w : World) (h : laws_eqPeak.f a0_0 a0_1 a0_2 a1_0 a1_1 a1_2 = some r) :
  Calls Tryd.prog 92 #[.agg #[.string a0_0, .int .i64 a0_1, .int .i64 a0_2], .agg #[.string a1_0, .int .i64 a1_1, .int .i64 a1_2]] w fun e w' => e = .returned (.bool r) ∧ Below w.heap.size w w' := by
 have hu93 := Tryd.underlying93
 have HB := Aside0.mk (Below.refl w.heap.size w)
 have H : (if a0_0.toList = a1_0.toList then (if a0_1 = a1_1 then (if a0_2 = a1_2 then (some true) else (some false)) else (some false)) else (some false)) = some r := h
 clear h
 go_enter Tryd.func92, Tryd.ntmps92
 go_upto_if 9 with ((with_reducible refine gg ?_); first | (refine bE 2 #[.string a0_0, .int .i64 a0_1, .int .i64 a0_2] 93 ?_; intro gb390 hg w6 hbox hb; have BK390 := am (hbox); have GW390 := zB hg HB; have GE390 := zB hg HB; replace HB := kH HB hb; clear hb hbox hg) | (refine bE 3 #[.string a1_0, .int .i64 a1_1, .int .i64 a1_2] 93 ?_; intro gb391 hg w7 hbox hb; have BK391 := am (hbox); have GW391 := zB hg HB; have GE391 := zB hg HB; replace HB := kH HB hb; have NB390_391 := nl hg (kb BK390); have NB391_390 := ng hg (kb BK390); replace BK390 := kP _ BK390 hb; clear hb hbox hg; have hnb8 := NB390_391.out; have hnc8 := NB391_390.out; have hz9 := bc3 BK390; have hz10 := bc3 BK391))
 by_cases c3 : a0_0.toList = a1_0.toList
 rotate_left
 ·rw [if_neg c3] at H
  have c3b0 := beq_eq_false_iff_ne.mpr c3
  have c3b1 := bne_iff_ne.mpr c3
  try simp only [c3b0, c3b1, Bool.not_true, Bool.not_false]
  obtain rfl := Option.some.inj H
  go_wp2
  go_ret
  exact ⟨xE, xB HB⟩
 rw [if_pos c3] at H
 have c3b0 := beq_iff_eq.mpr c3
 have c3b1 := bne_eq_false_iff_eq.mpr c3
 try simp only [c3b0, c3b1, Bool.not_true, Bool.not_false]
 clear c3
 by_cases c4 : a0_1 = a1_1
 rotate_left
 ·rw [if_neg c4] at H
  have c4b0 := beq_eq_false_iff_ne.mpr c4
  have c4b1 := bne_iff_ne.mpr c4
  obtain rfl := Option.some.inj H
  go_wp2
  go_ret
  exact ⟨xE, xB HB⟩
 rw [if_pos c4] at H
 have c4b0 := beq_iff_eq.mpr c4
 have c4b1 := bne_eq_false_iff_eq.mpr c4
 clear c4
 by_cases c5 : a0_2 = a1_2
 rotate_left
 ·rw [if_neg c5] at H
  have c5b0 := beq_eq_false_iff_ne.mpr c5
  have c5b1 := bne_iff_ne.mpr c5
  obtain rfl := Option.some.inj H
  go_wp2
  go_ret
  exact ⟨xE, xB HB⟩
 rw [if_pos c5] at H
 have c5b0 := beq_iff_eq.mpr c5
 have c5b1 := bne_eq_false_iff_eq.mpr c5
 clear c5
 obtain rfl := Option.some.inj H
 go_wp2
 go_ret
 exact ⟨xE, xB HB⟩

end Go.Proofs.YtgjljbaadglpnaaDoor.PFnExactPaidGet
