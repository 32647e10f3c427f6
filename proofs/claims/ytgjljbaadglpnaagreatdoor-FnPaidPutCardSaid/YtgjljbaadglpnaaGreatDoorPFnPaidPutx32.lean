/- Functions of the program and what each answers: the kit's print, shortened (wip/press2.py). -/
import Derived.Test.YtgjljbaadglpnaaGreatDoorPFnPaidPutx0
import Derived.Test.YtgjljbaadglpnaaGreatDoorPFnPaidPutx4
import Derived.Test.YtgjljbaadglpnaaGreatDoorPFnPaidPutx19
import Derived.Test.YtgjljbaadglpnaaGreatDoorPFnPaidPutx22
import Derived.Test.YtgjljbaadglpnaaGreatDoorPFnPaidPutx26
import Derived.Test.YtgjljbaadglpnaaGreatDoorPFnPaidPutx28
import Derived.Test.YtgjljbaadglpnaaGreatDoorPFnPaidPutx30
namespace Go.Proofs.YtgjljbaadglpnaaGreatDoor.PFnPaidPut
open Go.Proofs.YtgjljbaadglpnaaGreatDoor.Sq Go.RowKit Go.Proofs.YtgjljbaadglpnaaGreatDoorW.PrintWords Go.Proofs.YtgjljbaadglpnaaGreatDoorW.PrintLast Go.Proofs.YtgjljbaadglpnaaGreatDoorW.PrintMore
attribute [local go_sem] max2_int min2_int max_two min_two max_three min_three max_four min_four   -- for this text's walks alone
set_option linter.unusedVariables false
set_option linter.unusedSimpArgs false
set_option maxHeartbeats 64000000
set_option maxRecDepth 100000
attribute [local go_sem high] eqA48 eqA93
def impl_PaidGet.j0 : Nat → ByteArray → List ByteArray → Bool → Option (Int × ByteArray × ByteArray × Int × Int × Int × (List (S93)) × (List (S93)) × (List (S48)) × Bool)
 | 0, _, _, _ => none
 | k + 1, x0, x4, x29 => if x29 = true then (some (0, (⟨#[]⟩ : ByteArray), (⟨#[]⟩ : ByteArray), 0, 0, 0, ([] : List (S93)), ([] : List (S93)), ([] : List (S48)), false)) else (if 0 < (x4.length : Int) then ((strings_Cut.f (rdOf ByteArray.empty x4 0) (⟨#[32]⟩ : ByteArray)).bind fun bt691 => ((impl_number.f k bt691.1).bind fun bt694 => ((impl_HeadGet.f k bt691.2.1).bind fun bt696 => (if 1 < (x4.length : Int) then ((impl_peaksGet.f k (⟨#[112, 101, 97, 107, 115]⟩ : ByteArray) (rdOf ByteArray.empty x4 1)).bind fun bt704 => (if 2 < (x4.length : Int) then ((impl_peaksGet.f k (⟨#[115, 116, 101, 112, 115]⟩ : ByteArray) (rdOf ByteArray.empty x4 2)).bind fun bt709 => (if 3 < (x4.length : Int) then ((impl_sidesGet.f k (rdOf ByteArray.empty x4 3)).bind fun bt714 => (if bt694.2 = true then (if bt696.2.2.2.2.2 = true then (if bt704.2 = true then (if bt709.2 = true then (if bt714.2 = true then ((impl_PaidPut.f k bt694.1 bt696.1 bt696.2.1 bt696.2.2.1 bt696.2.2.2.1 bt696.2.2.2.2.1 bt704.1 bt709.1 bt714.1).bind fun t719 => (if t719.toList = x0.toList then (some (bt694.1, bt696.1, bt696.2.1, bt696.2.2.1, bt696.2.2.2.1, bt696.2.2.2.2.1, bt704.1, bt709.1, bt714.1, true)) else (some (0, (⟨#[]⟩ : ByteArray), (⟨#[]⟩ : ByteArray), 0, 0, 0, ([] : List (S93)), ([] : List (S93)), ([] : List (S48)), false)))) else (some (0, (⟨#[]⟩ : ByteArray), (⟨#[]⟩ : ByteArray), 0, 0, 0, ([] : List (S93)), ([] : List (S93)), ([] : List (S48)), false))) else (some (0, (⟨#[]⟩ : ByteArray), (⟨#[]⟩ : ByteArray), 0, 0, 0, ([] : List (S93)), ([] : List (S93)), ([] : List (S48)), false))) else (some (0, (⟨#[]⟩ : ByteArray), (⟨#[]⟩ : ByteArray), 0, 0, 0, ([] : List (S93)), ([] : List (S93)), ([] : List (S48)), false))) else (some (0, (⟨#[]⟩ : ByteArray), (⟨#[]⟩ : ByteArray), 0, 0, 0, ([] : List (S93)), ([] : List (S93)), ([] : List (S48)), false))) else (some (0, (⟨#[]⟩ : ByteArray), (⟨#[]⟩ : ByteArray), 0, 0, 0, ([] : List (S93)), ([] : List (S93)), ([] : List (S48)), false)))) else (none))) else (none))) else (none))))) else (none))
def impl_PaidGet.f (k : Nat) (a0 : ByteArray) : Option (Int × ByteArray × ByteArray × Int × Int × Int × (List (S93)) × (List (S93)) × (List (S48)) × Bool) := (strings_Split.f a0 (⟨#[10]⟩ : ByteArray)).bind fun t686 => (if (t686.length : Int) = 5 then (if 4 < (t686.length : Int) then (impl_PaidGet.j0 k a0 t686 ((rdOf ByteArray.empty t686 4).toList != ([] : List UInt8))) else (none)) else (impl_PaidGet.j0 k a0 t686 true))
theorem impl_PaidGet.mono_l : ∀ k, (∀ y0 y1 y2, LeO (impl_PaidGet.j0 k y0 y1 y2) (impl_PaidGet.j0 (k + 1) y0 y1 y2))
 | 0 => fun _ _ _ r h => by simp [impl_PaidGet.j0] at h
 | k + 1 => by
  have ih0 := impl_PaidGet.mono_l k
  ·intro y0 y1 y2
   unfold impl_PaidGet.j0
   exact mo6 ih0 impl_HeadGet.mono impl_PaidPut.mono impl_number.mono impl_peaksGet.mono impl_sidesGet.mono
theorem impl_PaidGet.mono : ∀ a0 k, LeO (impl_PaidGet.f k a0) (impl_PaidGet.f (k + 1) a0) := by
 intro a0 k
 have ih0 := impl_PaidGet.mono_l k
 unfold impl_PaidGet.f
 exact mo6 ih0 impl_HeadGet.mono impl_PaidPut.mono impl_number.mono impl_peaksGet.mono impl_sidesGet.mono
theorem impl_PaidGet.calls (k : Nat) (a0 : ByteArray) (r1 : Int) (r2 : ByteArray) (r3 : ByteArray) (r4 : Int) (r5 : Int) (r6 : Int) (r7 : List (S93)) (r8 : List (S93)) (r9 : List (S48)) (r10 : Bool) (w : World) (h : impl_PaidGet.f k a0 = some (r1, r2, r3, r4, r5, r6, r7, r8, r9, r10)) (PQM_ : Aside0 (Sh.HasM w)) (PQT_ : Aside0 (Sh.HasT w)) :
  Calls Tryz.prog 8 #[.string a0] w fun e w' => ∃ v6_ v7_ v8_ : Value, e = .returned (.tuple #[.agg #[.int .i64 r1, .string r2, .string r3, .int .i64 r4, .int .i64 r5, .int .i64 r6, v6_, v7_, v8_], .bool r10]) ∧ Kd.R k93 93 w' w.heap.size (fun k_ => some k_ ≠ (v7_ : Value).ownBlock) v6_ r7 ∧ Kd.R k93 93 w' w.heap.size (fun k_ => some k_ ≠ (v6_ : Value).ownBlock) v7_ r8 ∧ Kd.R k48 48 w' w.heap.size (fun _ => True) v8_ r9 ∧ Below w.heap.size w w' := by
 have hu30 := Tryz.underlying30
 have hu24 := Tryz.underlying24
 have hu27 := Tryz.underlying27
 have HB := Aside0.mk (Below.refl w.heap.size w)
 have H : ((strings_Split.f a0 (⟨#[10]⟩ : ByteArray)).bind fun t686 => (if (t686.length : Int) = 5 then (if 4 < (t686.length : Int) then (impl_PaidGet.j0 k a0 t686 ((rdOf ByteArray.empty t686 4).toList != ([] : List UInt8))) else (none)) else (impl_PaidGet.j0 k a0 t686 true))) = some (r1, r2, r3, r4, r5, r6, r7, r8, r9, r10) := h
 clear h
 replace H := oa H
 obtain ⟨t686, A2, H⟩ := H
 have HC3 := Aside0.mk H
 clear H
 go_enter Tryz.func8, Tryz.ntmps8
 go_upto_region 2 with ((with_reducible refine gg ?_); first | (refine bE 2 #[.int .i64 0, .string (⟨#[]⟩ : ByteArray), .string (⟨#[]⟩ : ByteArray), .int .i64 0, .int .i64 0, .int .i64 0, .slice none 0 0, .slice none 0 0, .slice none 0 0] 30 ?_; intro gb685 hg w4 hbox hb; have BK685 := am (hbox); have GW685 := zB hg HB; have GE685 := zB hg HB; replace HB := kH HB hb; clear hb hbox hg) | (refine store_event (t := 30) (p := 2) (v := ?vo_) (w1 := ?wo_) ?hg ?ho ?hn ?hr ?_; (case ho => rfl); (case hg => rfl); (case hn => rfl); (case hr => go_simp; rfl); intro wq_ hW_; have BQ_ := am hW_; have hzq_ := am hW_; replace hW_ := am hW_) | (refine gL 20 Tryz.func24 #[.string a0, .string (⟨#[10]⟩ : ByteArray)] ?_; (try (clear hzq_ BQ_; obtain ⟨hW_⟩ := hW_; subst hW_)); (with_reducible refine (strings_Split.calls a0 (⟨#[10]⟩ : ByteArray) t686 _ A2.out (Aside0.mk (Sh.hasM_of PQM_ (xB HB)))).mono ?_); rintro e w5 ⟨v687, rfl, ho0, hb⟩; refine ⟨_, rfl, ?_⟩; have HO688 := am (Kd.R_lower ho0 (below_size (xB HB))); replace BK685 := kP _ BK685 hb; replace HB := kH HB hb; (try clear hb); (try clear ho0)))
 (try simp only [Act.put, sa, s0, s1])
 (try (clear hzq_ BQ_; obtain ⟨hW_⟩ := hW_; subst hW_))
 go_cut [29] (fun v29 wc => ∃ (kq : Nat) (x29_2 : Bool), v29 = .bool x29_2 ∧ Aside0 (impl_PaidGet.j0 kq a0 t686 x29_2 = some (r1, r2, r3, r4, r5, r6, r7, r8, r9, r10)) ∧ Aside0 (kq ≤ k) ∧ Aside0 (Kd.R Kd.string 9 wc w.heap.size (fun _ => True) v687 t686) ∧ Aside0 (wc.heap[gb685]? = some (.cells #[.int .i64 0, .string (⟨#[]⟩ : ByteArray), .string (⟨#[]⟩ : ByteArray), .int .i64 0, .int .i64 0, .int .i64 0, (.slice none 0 0), (.slice none 0 0), (.slice none 0 0)] 30 (0, 0))) ∧ Aside0 (Below w.heap.size w wc))
 case first =>
  have H := HC3.out
  clear HC3
  by_cases c6 : (t686.length : Int) = 5
  rotate_left
  ·rw [if_neg c6] at H
   have c6b0 := beq_eq_false_iff_ne.mpr c6
   have c6b1 := bne_iff_ne.mpr c6
   (first | rw [c6b0] | rw [c6b1] | (simp only [i64_w, i32_w]; rw [c6b0]) | skip)
   have H' := Aside0.mk H
   clear H
   obtain ⟨Ao9, co9, eo9⟩ := Kd.R_slice HO688.out
   subst eo9
   go_wp2
   (try (clear hzq_ BQ_; obtain ⟨hW_⟩ := hW_; subst hW_))
   go_meet
   case rel => exact ⟨_, (true), xR, H', ⟨xO⟩, ⟨ra HO688⟩, ⟨kb BK685⟩, ⟨xB HB⟩⟩
  rw [if_pos c6] at H
  have c6b0 := beq_iff_eq.mpr c6
  have c6b1 := bne_eq_false_iff_eq.mpr c6
  clear c6
  (first | rw [c6b0] | rw [c6b1] | (simp only [i64_w, i32_w]; rw [c6b0]) | skip)
  replace H := ip H
  obtain ⟨c7, H⟩ := H
  have c7b0 := decide_eq_true c7
  have c7b1 : decide (4 < t686.length) = true := decide_eq_true (by omega)
  clear c7
  have H' := Aside0.mk H
  clear H
  obtain ⟨Ao8, co8, eo8⟩ := Kd.R_slice HO688.out
  subst eo8
  have p689 : 0 ≤ (4 : Int) := (by omega)
  have q689 : 4 < (t686.length : Int) := of_decide_eq_true xA
  obtain ⟨ad689, e689, hx689_0⟩ := Kd.at_string (Kd.R_reads' HO688.out).2.2 4 p689 q689
  cases e689
  (try simp only [show (4 : Int).toNat = 4 from rfl, Nat.reduceMul, Nat.reduceEqDiff, Go.Addr.add, ↓reduceIte] at hx689_0)
  have qi689 : (4 < t686.length) = True := eq_true (by omega)
  (try rw [show ((4 : Int)).toNat = 4 from rfl] at hx689_0)
  replace p689 := eq_true p689
  replace q689 := eq_true q689
  go_wp2
  (try (clear hzq_ BQ_; obtain ⟨hW_⟩ := hW_; subst hW_))
  go_meet
  case rel => exact ⟨_, (((rdOf ByteArray.empty t686 4).toList != ([] : List UInt8))), xR, H', ⟨xO⟩, ⟨ra HO688⟩, ⟨kb BK685⟩, ⟨xB HB⟩⟩
 case rest =>
  clear HC3
  try clear c2
  try clear p2
  try clear c6
  try clear c6b0
  try clear c6b1
  try clear p6
  try clear q6
  try clear hx6
  try clear qi6
  try clear c7
  try clear c7b0
  try clear c7b1
  try clear c8
  try clear hx689_0
  try clear p689
  try clear q689
  obtain ⟨kq, x29_2, rfl, HA, HJ2, HO_4, BK685, HB⟩ := hcut
  cases kq with
  | zero => exact absurd HA.out (by simp [impl_PaidGet.j0])
  | succ kj2 =>
   have H := HA.out
   clear HA
   simp only [impl_PaidGet.j0] at H
   by_cases c10 : x29_2 = true
   ·subst c10
    rw [if_pos rfl] at H
    simp only [Option.some.injEq, Prod.mk.injEq] at H
    obtain ⟨rfl, rfl, rfl, rfl, rfl, rfl, rfl, rfl, rfl, rfl⟩ := H
    (first | have hz11 := bc9 (kF _ BK685 hW_.out) | have hz11 := bc9 BK685)
    go_wp2
    (try (clear hzq_ BQ_; obtain ⟨hW_⟩ := hW_; subst hW_))
    refine bodyPost_ret (results_ct rfl _ _ gb685 30 #[.int .i64 0, .string (⟨#[]⟩ : ByteArray), .string (⟨#[]⟩ : ByteArray), .int .i64 0, .int .i64 0, .int .i64 0, .slice none 0 0, .slice none 0 0, .slice none 0 0] (0, 0) _ rfl (fb BK685) Tryz.underlying30 rfl (by kernel_rfl)) rfl ?_
    exact ⟨_, _, _, xE, xN, xN, xN, xB HB⟩
   replace c10 := Bool.eq_false_iff.mpr c10
   subst c10
   rw [if_neg (show ¬ (false = true) by decide)] at H
   replace H := ip H
   obtain ⟨c12, H⟩ := H
   have c12b0 := decide_eq_true c12
   have c12b1 : decide (0 < t686.length) = true := decide_eq_true (by omega)
   clear c12
   replace H := Option.bind_eq_some_iff.mp H
   obtain ⟨⟨t691, t692, t693⟩, A130, H⟩ := H
   have A13 := Aside0.mk A130
   clear A130
   replace H := Option.bind_eq_some_iff.mp H
   obtain ⟨⟨t694, t695⟩, A140, H⟩ := H
   have A14 := Aside0.mk A140
   clear A140
   replace H := Option.bind_eq_some_iff.mp H
   obtain ⟨⟨t696, t697, t698, t699, t700, t701⟩, A150, H⟩ := H
   have A15 := Aside0.mk A150
   clear A150
   replace H := ip H
   obtain ⟨c16, H⟩ := H
   have c16b0 := decide_eq_true c16
   have c16b1 : decide (1 < t686.length) = true := decide_eq_true (by omega)
   clear c16
   replace H := Option.bind_eq_some_iff.mp H
   obtain ⟨⟨t704, t705⟩, A170, H⟩ := H
   have A17 := Aside0.mk A170
   clear A170
   replace H := ip H
   obtain ⟨c18, H⟩ := H
   have c18b0 := decide_eq_true c18
   have c18b1 : decide (2 < t686.length) = true := decide_eq_true (by omega)
   clear c18
   replace H := Option.bind_eq_some_iff.mp H
   obtain ⟨⟨t709, t710⟩, A190, H⟩ := H
   have A19 := Aside0.mk A190
   clear A190
   replace H := ip H
   obtain ⟨c20, H⟩ := H
   have c20b0 := decide_eq_true c20
   have c20b1 : decide (3 < t686.length) = true := decide_eq_true (by omega)
   clear c20
   replace H := Option.bind_eq_some_iff.mp H
   obtain ⟨⟨t714, t715⟩, A210, H⟩ := H
   have A21 := Aside0.mk A210
   clear A210
   obtain ⟨Ao29, co29, eo29⟩ := Kd.R_slice HO_4.out
   subst eo29
   have p690 : 0 ≤ (0 : Int) := (by omega)
   have q690 : 0 < (t686.length : Int) := of_decide_eq_true xA
   obtain ⟨ad690, e690, hx690_0⟩ := Kd.at_string (Kd.R_reads' HO_4.out).2.2 0 p690 q690
   cases e690
   have qi690 : (0 < t686.length) = True := eq_true (by omega)
   (try rw [show ((0 : Int)).toNat = 0 from rfl] at hx690_0)
   (try rw [Addr.add_zero'] at hx690_0)
   replace p690 := eq_true p690
   replace q690 := eq_true q690
   go_upto_region 11 with ((with_reducible refine gg ?_); first | (refine gL 35 Tryz.func25 #[.string (rdOf ByteArray.empty t686 0), .string (⟨#[32]⟩ : ByteArray)] ?_; (try (clear hzq_ BQ_; obtain ⟨hW_⟩ := hW_; subst hW_)); (with_reducible refine (strings_Cut.calls (rdOf ByteArray.empty t686 0) (⟨#[32]⟩ : ByteArray) t691 t692 t693 _ A13.out (Aside0.mk (Sh.hasM_of PQM_ (xB HB)))).mono ?_); rintro e w30 ⟨rfl, hb⟩; refine ⟨_, rfl, ?_⟩; replace HO_4 := rk HO_4 hb; replace BK685 := kP _ BK685 hb; replace HB := kH HB hb; (try clear hb)) | (refine gL 41 Tryz.func26 #[.string t691] ?_; (try (clear hzq_ BQ_; obtain ⟨hW_⟩ := hW_; subst hW_)); (with_reducible refine (impl_number.calls kj2 t691 t694 t695 _ A14.out).mono ?_); rintro e w' ⟨rfl, ⟨nd, rfl⟩⟩; refine ⟨_, rfl, ?_⟩; (try (rw [drewN_self w30]; generalize hq_ : World.drewN w30 _ = w30; have n0_ := dR hq_ HO_4; have n1_ := dK hq_ BK685; have n2_ := dB hq_ HB; clear HO_4 BK685 HB hq_; have HO_4 := n0_; have BK685 := n1_; have HB := n2_; clear n0_ n1_ n2_))) | (refine gL 46 Tryz.func27 #[.string t692] ?_; (try (clear hzq_ BQ_; obtain ⟨hW_⟩ := hW_; subst hW_)); (with_reducible refine (impl_HeadGet.calls kj2 t692 t696 t697 t698 t699 t700 t701 _ A15.out (Aside0.mk (Sh.hasM_of PQM_ (xB HB)))).mono ?_); rintro e w31 ⟨rfl, hb⟩; refine ⟨_, rfl, ?_⟩; replace HO_4 := rk HO_4 hb; replace BK685 := kP _ BK685 hb; replace HB := kH HB hb; (try clear hb)) | (refine bE 10 #[.string (⟨#[]⟩ : ByteArray), .string (⟨#[]⟩ : ByteArray), .int .i64 0, .int .i64 0, .int .i64 0] 24 ?_; (try (clear hzq_ BQ_; obtain ⟨hW_⟩ := hW_; subst hW_)); intro gb702 hg w32 hbox hb; replace HO_4 := rk HO_4 hb; have BK702 := am (hbox); have GW702 := zB hg HB; have GE702 := zB hg HB; replace HB := kH HB hb; have NB685_702 := nl hg (kb BK685); have NB702_685 := ng hg (kb BK685); replace BK685 := kP _ BK685 hb; clear hb hbox hg; have hnb33 := NB702_685.out; have hnc33 := NB685_702.out; have hz34 := bc5 BK702; have p703 : 0 ≤ (1 : Int) := (by omega); have q703 : 1 < (t686.length : Int) := of_decide_eq_true xA; obtain ⟨ad703, e703, hx703_0⟩ := Kd.at_string (Kd.R_reads' HO_4.out).2.2 1 p703 q703; obtain rfl : ad690 = ad703 := (by injection e703); (try simp only [show (1 : Int).toNat = 1 from rfl, Nat.reduceMul, Nat.reduceEqDiff, Go.Addr.add, ↓reduceIte] at hx703_0); have qi703 : (1 < t686.length) = True := eq_true (by omega); (try rw [show ((1 : Int)).toNat = 1 from rfl] at hx703_0); have hn703_0 : ad690.block ≠ gb702 := Kd.own_blk (Kd.R_ne HO_4.out BK702.out (by decide)); have hn703_1 : ad690.block ≠ gb702 := Kd.own_blk (Kd.R_ne HO_4.out BK702.out (by decide)); have hn703_2 : ad690.block ≠ gb702 := Kd.own_blk (Kd.R_ne HO_4.out BK702.out (by decide)); have hn703_3 : ad690.block ≠ gb702 := Kd.own_blk (Kd.R_ne HO_4.out BK702.out (by decide)); have hn703_4 : ad690.block ≠ gb702 := Kd.own_blk (Kd.R_ne HO_4.out BK702.out (by decide)); replace hx703_0 := (cell_far (p := ⟨gb702, 0, none⟩) (by first | (rw [add_block]; exact hn703_0) | (show (Addr.add _ _).block ≠ _; rw [add_block]; exact hn703_0) | exact hn703_0) (.string t696)).trans hx703_0; replace hx703_0 := (cell_far (p := ⟨gb702, 1, none⟩) (by first | (rw [add_block]; exact hn703_1) | (show (Addr.add _ _).block ≠ _; rw [add_block]; exact hn703_1) | exact hn703_1) (.string t697)).trans hx703_0; replace hx703_0 := (cell_far (p := ⟨gb702, 2, none⟩) (by first | (rw [add_block]; exact hn703_2) | (show (Addr.add _ _).block ≠ _; rw [add_block]; exact hn703_2) | exact hn703_2) (.int .i64 t698)).trans hx703_0; replace hx703_0 := (cell_far (p := ⟨gb702, 3, none⟩) (by first | (rw [add_block]; exact hn703_3) | (show (Addr.add _ _).block ≠ _; rw [add_block]; exact hn703_3) | exact hn703_3) (.int .i64 t699)).trans hx703_0; replace hx703_0 := (cell_far (p := ⟨gb702, 4, none⟩) (by first | (rw [add_block]; exact hn703_4) | (show (Addr.add _ _).block ≠ _; rw [add_block]; exact hn703_4) | exact hn703_4) (.int .i64 t700)).trans hx703_0; clear hn703_0; clear hn703_1; clear hn703_2; clear hn703_3; clear hn703_4; replace p703 := eq_true p703; replace q703 := eq_true q703) | (refine store_event (t := 24) (p := 10) (v := ?vo_) (w1 := ?wo_) ?hg ?ho ?hn ?hr ?_; (case ho => rfl); (case hg => rfl); (case hn => rfl); (case hr => go_simp; rfl); intro wq_ hW_; (try rw [← hW_] at hx703_0); (first | (have BQ_ := kF (.cells #[.string t696, .string t697, .int .i64 t698, .int .i64 t699, .int .i64 t700] 24 (0, 0)) BK702 hW_; have hzq_ := bc5 BQ_) | (have BQ_ := am hW_; have hzq_ := am hW_)); replace hW_ := am hW_) | (refine gL 53 Tryz.func28 #[.string (⟨#[112, 101, 97, 107, 115]⟩ : ByteArray), .string (rdOf ByteArray.empty t686 1)] ?_; (try (clear hzq_ BQ_; obtain ⟨hW_⟩ := hW_; subst hW_)); (with_reducible refine (impl_peaksGet.calls kj2 (⟨#[112, 101, 97, 107, 115]⟩ : ByteArray) (rdOf ByteArray.empty t686 1) t704 t705 _ A17.out (Aside0.mk (Sh.hasM_of PQM_ (xB HB)))).mono ?_); rintro e w35 ⟨v706, rfl, ho0, hb⟩; refine ⟨_, rfl, ?_⟩; replace HO_4 := am (Kd.R_below (rf HO_4 BK702) hb); have HO707 := am (Kd.R_lower ho0 (below_size (xB HB))); replace BK685 := kP _ BK685 hb; replace BK702 := kP (.cells #[.string t696, .string t697, .int .i64 t698, .int .i64 t699, .int .i64 t700] 24 (0, 0)) BK702 hb; replace HB := kH HB hb; (try clear hb); (try clear ho0); have p708 : 0 ≤ (2 : Int) := (by omega); have q708 : 2 < (t686.length : Int) := of_decide_eq_true xA; obtain ⟨ad708, e708, hx708_0⟩ := Kd.at_string (Kd.R_reads' HO_4.out).2.2 2 p708 q708; obtain rfl : ad690 = ad708 := (by injection e708); (try simp only [show (2 : Int).toNat = 2 from rfl, Nat.reduceMul, Nat.reduceEqDiff, Go.Addr.add, ↓reduceIte] at hx708_0); have qi708 : (2 < t686.length) = True := eq_true (by omega); (try rw [show ((2 : Int)).toNat = 2 from rfl] at hx708_0); replace p708 := eq_true p708; replace q708 := eq_true q708) | (refine gL 60 Tryz.func28 #[.string (⟨#[115, 116, 101, 112, 115]⟩ : ByteArray), .string (rdOf ByteArray.empty t686 2)] ?_; (try (clear hzq_ BQ_; obtain ⟨hW_⟩ := hW_; subst hW_)); (with_reducible refine (impl_peaksGet.calls kj2 (⟨#[115, 116, 101, 112, 115]⟩ : ByteArray) (rdOf ByteArray.empty t686 2) t709 t710 _ A19.out (Aside0.mk (Sh.hasM_of PQM_ (xB HB)))).mono ?_); rintro e w36 ⟨v711, rfl, ho0, hb⟩; refine ⟨_, rfl, ?_⟩; replace HO_4 := rk HO_4 hb; have HO712 := am (Kd.R_lower (Kd.R_new' ho0 (Kd.R_lt (ra HO707))) (below_size (xB HB))); replace HO707 := am (Kd.R_elder' (ra HO707) (Kd.R_base ho0) hb); replace BK685 := kP _ BK685 hb; replace BK702 := kP _ BK702 hb; replace HB := kH HB hb; (try clear hb); (try clear ho0); have p713 : 0 ≤ (3 : Int) := (by omega); have q713 : 3 < (t686.length : Int) := of_decide_eq_true xA; obtain ⟨ad713, e713, hx713_0⟩ := Kd.at_string (Kd.R_reads' HO_4.out).2.2 3 p713 q713; obtain rfl : ad690 = ad713 := (by injection e713); (try simp only [show (3 : Int).toNat = 3 from rfl, Nat.reduceMul, Nat.reduceEqDiff, Go.Addr.add, ↓reduceIte] at hx713_0); have qi713 : (3 < t686.length) = True := eq_true (by omega); (try rw [show ((3 : Int)).toNat = 3 from rfl] at hx713_0); replace p713 := eq_true p713; replace q713 := eq_true q713) | (refine gL 67 Tryz.func29 #[.string (rdOf ByteArray.empty t686 3)] ?_; (try (clear hzq_ BQ_; obtain ⟨hW_⟩ := hW_; subst hW_)); (with_reducible refine (impl_sidesGet.calls kj2 (rdOf ByteArray.empty t686 3) t714 t715 _ A21.out (Aside0.mk (Sh.hasM_of PQM_ (xB HB)))).mono ?_); rintro e w37 ⟨v716, rfl, ho0, hb⟩; refine ⟨_, rfl, ?_⟩; replace HO_4 := rk HO_4 hb; replace HO707 := rk HO707 hb; replace HO712 := rk HO712 hb; have HO717 := am (Kd.R_lower ho0 (below_size (xB HB))); replace BK685 := kP _ BK685 hb; replace BK702 := kP _ BK702 hb; replace HB := kH HB hb; (try clear hb); (try clear ho0); have hz38 := bc5 BK702; obtain ⟨Ao39, co39, eo39⟩ := Kd.R_slice HO712.out; subst eo39; obtain ⟨Ao40, co40, eo40⟩ := Kd.R_slice HO707.out; subst eo40; obtain ⟨Ao41, co41, eo41⟩ := Kd.R_slice HO717.out; subst eo41) | (refine bE 18 #[.int .i64 0, .string (⟨#[]⟩ : ByteArray), .string (⟨#[]⟩ : ByteArray), .int .i64 0, .int .i64 0, .int .i64 0, .slice none 0 0, .slice none 0 0, .slice none 0 0] 30 ?_; (try (clear hzq_ BQ_; obtain ⟨hW_⟩ := hW_; subst hW_)); intro gb718 hg w42 hbox hb; replace HO_4 := rk HO_4 hb; replace HO707 := rk HO707 hb; replace HO712 := rk HO712 hb; replace HO717 := rk HO717 hb; have BK718 := am (hbox); have GW718 := zB hg HB; have GE718 := zB hg HB; replace HB := kH HB hb; have NB685_718 := nl hg (kb BK685); have NB718_685 := ng hg (kb BK685); replace BK685 := kP _ BK685 hb; have NB702_718 := nl hg (kb BK702); have NB718_702 := ng hg (kb BK702); replace BK702 := kP _ BK702 hb; clear hb hbox hg; have hnb43 := NB718_685.out; have hnc43 := NB685_718.out; have hnb44 := NB718_702.out; have hnc44 := NB702_718.out; have hz45 := bc9 BK718) | (refine store_event (t := 30) (p := 18) (v := ?vo_) (w1 := ?wo_) ?hg ?ho ?hn ?hr ?_; (case ho => rfl); (case hg => rfl); (case hn => rfl); (case hr => go_simp; rfl); intro wq_ hW_; (first | (have BQ_ := kF (.cells #[.int .i64 t694, .string t696, .string t697, .int .i64 t698, .int .i64 t699, .int .i64 t700, .slice Ao40 t704.length co40, .slice Ao39 t709.length co39, .slice Ao41 t714.length co41] 30 (0, 0)) BK718 hW_; have hzq_ := bc9 BQ_) | (have BQ_ := am hW_; have hzq_ := am hW_)); replace hW_ := am hW_))
   by_cases c22 : t695 = true
   rotate_left
   ·replace c22 := Bool.eq_false_iff.mpr c22
    subst c22
    try simp only [Bool.not_true, Bool.not_false]
    rw [if_neg (show ¬ (false = true) by decide)] at H
    simp only [Option.some.injEq, Prod.mk.injEq] at H
    obtain ⟨rfl, rfl, rfl, rfl, rfl, rfl, rfl, rfl, rfl, rfl⟩ := H
    (first | have hz157 := bc9 (kF _ BK685 hW_.out) | have hz157 := bc9 BK685)
    go_wp2
    (try (clear hzq_ BQ_; obtain ⟨hW_⟩ := hW_; subst hW_))
    refine bodyPost_ret (results_ct rfl _ _ gb685 30 #[.int .i64 0, .string (⟨#[]⟩ : ByteArray), .string (⟨#[]⟩ : ByteArray), .int .i64 0, .int .i64 0, .int .i64 0, .slice none 0 0, .slice none 0 0, .slice none 0 0] (0, 0) _ rfl (fb BK685) Tryz.underlying30 rfl (by kernel_rfl)) rfl ?_
    exact ⟨_, _, _, xE, xN, xN, xN, xB HB⟩
   subst c22
   try simp only [Bool.not_true, Bool.not_false]
   rw [if_pos rfl] at H
   by_cases c23 : t701 = true
   rotate_left
   ·replace c23 := Bool.eq_false_iff.mpr c23
    subst c23
    rw [if_neg (show ¬ (false = true) by decide)] at H
    simp only [Option.some.injEq, Prod.mk.injEq] at H
    obtain ⟨rfl, rfl, rfl, rfl, rfl, rfl, rfl, rfl, rfl, rfl⟩ := H
    (first | have hz139 := bc9 (kF _ BK685 hW_.out) | have hz139 := bc9 BK685)
    go_wp2
    (try (clear hzq_ BQ_; obtain ⟨hW_⟩ := hW_; subst hW_))
    refine bodyPost_ret (results_ct rfl _ _ gb685 30 #[.int .i64 0, .string (⟨#[]⟩ : ByteArray), .string (⟨#[]⟩ : ByteArray), .int .i64 0, .int .i64 0, .int .i64 0, .slice none 0 0, .slice none 0 0, .slice none 0 0] (0, 0) _ rfl (fb BK685) Tryz.underlying30 rfl (by kernel_rfl)) rfl ?_
    exact ⟨_, _, _, xE, xN, xN, xN, xB HB⟩
   subst c23
   rw [if_pos rfl] at H
   by_cases c24 : t705 = true
   rotate_left
   ·replace c24 := Bool.eq_false_iff.mpr c24
    subst c24
    rw [if_neg (show ¬ (false = true) by decide)] at H
    simp only [Option.some.injEq, Prod.mk.injEq] at H
    obtain ⟨rfl, rfl, rfl, rfl, rfl, rfl, rfl, rfl, rfl, rfl⟩ := H
    (first | have hz121 := bc9 (kF _ BK685 hW_.out) | have hz121 := bc9 BK685)
    go_wp2
    (try (clear hzq_ BQ_; obtain ⟨hW_⟩ := hW_; subst hW_))
    refine bodyPost_ret (results_ct rfl _ _ gb685 30 #[.int .i64 0, .string (⟨#[]⟩ : ByteArray), .string (⟨#[]⟩ : ByteArray), .int .i64 0, .int .i64 0, .int .i64 0, .slice none 0 0, .slice none 0 0, .slice none 0 0] (0, 0) _ rfl (fb BK685) Tryz.underlying30 rfl (by kernel_rfl)) rfl ?_
    exact ⟨_, _, _, xE, xN, xN, xN, xB HB⟩
   subst c24
   rw [if_pos rfl] at H
   by_cases c25 : t710 = true
   rotate_left
   ·replace c25 := Bool.eq_false_iff.mpr c25
    subst c25
    rw [if_neg (show ¬ (false = true) by decide)] at H
    simp only [Option.some.injEq, Prod.mk.injEq] at H
    obtain ⟨rfl, rfl, rfl, rfl, rfl, rfl, rfl, rfl, rfl, rfl⟩ := H
    (first | have hz103 := bc9 (kF _ BK685 hW_.out) | have hz103 := bc9 BK685)
    go_wp2
    (try (clear hzq_ BQ_; obtain ⟨hW_⟩ := hW_; subst hW_))
    refine bodyPost_ret (results_ct rfl _ _ gb685 30 #[.int .i64 0, .string (⟨#[]⟩ : ByteArray), .string (⟨#[]⟩ : ByteArray), .int .i64 0, .int .i64 0, .int .i64 0, .slice none 0 0, .slice none 0 0, .slice none 0 0] (0, 0) _ rfl (fb BK685) Tryz.underlying30 rfl (by kernel_rfl)) rfl ?_
    exact ⟨_, _, _, xE, xN, xN, xN, xB HB⟩
   subst c25
   rw [if_pos rfl] at H
   by_cases c26 : t715 = true
   rotate_left
   ·replace c26 := Bool.eq_false_iff.mpr c26
    subst c26
    rw [if_neg (show ¬ (false = true) by decide)] at H
    simp only [Option.some.injEq, Prod.mk.injEq] at H
    obtain ⟨rfl, rfl, rfl, rfl, rfl, rfl, rfl, rfl, rfl, rfl⟩ := H
    (first | have hz85 := bc9 (kF _ BK685 hW_.out) | have hz85 := bc9 BK685)
    go_wp2
    (try (clear hzq_ BQ_; obtain ⟨hW_⟩ := hW_; subst hW_))
    refine bodyPost_ret (results_ct rfl _ _ gb685 30 #[.int .i64 0, .string (⟨#[]⟩ : ByteArray), .string (⟨#[]⟩ : ByteArray), .int .i64 0, .int .i64 0, .int .i64 0, .slice none 0 0, .slice none 0 0, .slice none 0 0] (0, 0) _ rfl (fb BK685) Tryz.underlying30 rfl (by kernel_rfl)) rfl ?_
    exact ⟨_, _, _, xE, xN, xN, xN, xB HB⟩
   subst c26
   rw [if_pos rfl] at H
   replace H := oa H
   obtain ⟨t719, A27, H⟩ := H
   go_upto_if 100 with (go_at_call 6; (try (clear hzq_ BQ_; obtain ⟨hW_⟩ := hW_; subst hW_)); (with_reducible refine (impl_PaidPut.calls kj2 t694 t696 t697 t698 t699 t700 _ _ t704 _ _ t709 _ _ t714 t719 _ ?side1 ?side2 ?side3 ?side4 ?side5 ?side6 A27.out (Aside0.mk (Sh.hasT_of PQT_ (xB HB)))).mono ?_); (case side1 => exact (Kd.R_reads' (rf HO707 BK718)).2.2); (case side2 => exact sl HO707); (case side3 => exact (Kd.R_reads' (rf HO712 BK718)).2.2); (case side4 => exact sl HO712); (case side5 => exact (Kd.R_reads' (rf HO717 BK718)).2.2); (case side6 => exact sl HO717); rintro e w46 ⟨rfl, hb⟩; replace HO_4 := am (Kd.R_below (rf HO_4 BK718) hb); replace HO707 := am (Kd.R_below (rf HO707 BK718) hb); replace HO712 := am (Kd.R_below (rf HO712 BK718) hb); replace HO717 := am (Kd.R_below (rf HO717 BK718) hb); replace BK685 := kP _ BK685 hb; replace BK702 := kP _ BK702 hb; replace BK718 := kP (.cells #[.int .i64 t694, .string t696, .string t697, .int .i64 t698, .int .i64 t699, .int .i64 t700, .slice Ao40 t704.length co40, .slice Ao39 t709.length co39, .slice Ao41 t714.length co41] 30 (0, 0)) BK718 hb; replace HB := kH HB hb; (try clear hb))
   by_cases c28 : t719.toList = a0.toList
   rotate_left
   ·rw [if_neg c28] at H
    have c28b0 := beq_eq_false_iff_ne.mpr c28
    have c28b1 := bne_iff_ne.mpr c28
    try simp only [c28b0, c28b1, Bool.not_true, Bool.not_false]
    simp only [Option.some.injEq, Prod.mk.injEq] at H
    obtain ⟨rfl, rfl, rfl, rfl, rfl, rfl, rfl, rfl, rfl, rfl⟩ := H
    (first | have hz67 := bc9 (kF _ BK685 hW_.out) | have hz67 := bc9 BK685)
    go_wp2
    (try (clear hzq_ BQ_; obtain ⟨hW_⟩ := hW_; subst hW_))
    refine bodyPost_ret (results_ct rfl _ _ gb685 30 #[.int .i64 0, .string (⟨#[]⟩ : ByteArray), .string (⟨#[]⟩ : ByteArray), .int .i64 0, .int .i64 0, .int .i64 0, .slice none 0 0, .slice none 0 0, .slice none 0 0] (0, 0) _ rfl (fb BK685) Tryz.underlying30 rfl (by kernel_rfl)) rfl ?_
    exact ⟨_, _, _, xE, xN, xN, xN, xB HB⟩
   rw [if_pos c28] at H
   have c28b0 := beq_iff_eq.mpr c28
   have c28b1 := bne_eq_false_iff_eq.mpr c28
   try simp only [c28b0, c28b1, Bool.not_true, Bool.not_false]
   clear c28
   simp only [Option.some.injEq, Prod.mk.injEq] at H
   obtain ⟨rfl, rfl, rfl, rfl, rfl, rfl, rfl, rfl, rfl, rfl⟩ := H
   (first | have hz47 := bc9 (kF _ BK718 hW_.out) | have hz47 := bc9 BK718)
   (first | have hz48 := bc9 (kF _ BK685 hW_.out) | have hz48 := bc9 BK685)
   go_wp2
   (try (clear hzq_ BQ_; obtain ⟨hW_⟩ := hW_; subst hW_))
   refine bodyPost_ret (results_ct rfl _ _ gb685 30 #[.int .i64 t694, .string t696, .string t697, .int .i64 t698, .int .i64 t699, .int .i64 t700, .slice Ao40 t704.length co40, .slice Ao39 t709.length co39, .slice Ao41 t714.length co41] (0, 0) _ rfl (fb BK685) Tryz.underlying30 rfl (by kernel_rfl)) rfl ?_
   exact ⟨_, _, _, xE, rF HO707 BK685 (fun _ hk => hk.2), rF HO712 BK685 (fun _ hk => hk.2), rF HO717 BK685 (fun _ hk => trivial), xB HB⟩
def laws_coPeaks.l0 : Nat → List (S93) → List (S93) → Int → Option (Bool)
 | 0, _, _, _ => none
 | k + 1, x0, x1, x5 => if x5 < (x0.length : Int) then (if 0 ≤ x5 then (if x5 < (x1.length : Int) then (if (!((((rd_T93 x0 x5).f0).toList) == (((rd_T93 x1 x5).f0).toList)) || (!(((rd_T93 x0 x5).f1) == ((rd_T93 x1 x5).f1)) || (!(((rd_T93 x0 x5).f2) == ((rd_T93 x1 x5).f2))))) = true then (some false) else (laws_coPeaks.l0 k x0 x1 (wrap64 (x5 + 1)))) else (none)) else (none)) else (some true)
def laws_coPeaks.f (k : Nat) (l0 : List (S93)) (l1 : List (S93)) : Option (Bool) := if (l0.length : Int) = (l1.length : Int) then (laws_coPeaks.l0 k l0 l1 0) else (some false)
theorem laws_coPeaks.mono_l : ∀ k, (∀ y0 y1 y2, LeO (laws_coPeaks.l0 k y0 y1 y2) (laws_coPeaks.l0 (k + 1) y0 y1 y2))
 | 0 => fun _ _ _ r h => by simp [laws_coPeaks.l0] at h
 | k + 1 => by
  have ih0 := laws_coPeaks.mono_l k
  ·intro y0 y1 y2
   unfold laws_coPeaks.l0
   exact mo1 ih0
theorem laws_coPeaks.mono : ∀ a0 a1 k, LeO (laws_coPeaks.f k a0 a1) (laws_coPeaks.f (k + 1) a0 a1) := by
 intro a0 a1 k
 have ih0 := laws_coPeaks.mono_l k
 unfold laws_coPeaks.f
 exact mo1 ih0
theorem laws_coPeaks.calls (k : Nat) (A0 : Option Addr) (c0 : Nat) (l0 : List (S93)) (A1 : Option Addr) (c1 : Nat) (l1 : List (S93)) (r : Bool) (w : World) (hr0 : Kd.C k93 w A0 l0.length l0) (hc0 : l0.length ≤ c0) (hr1 : Kd.C k93 w A1 l1.length l1) (hc1 : l1.length ≤ c1) (h : laws_coPeaks.f k l0 l1 = some r) :
  Calls Tryz.prog 67 #[.slice A0 l0.length c0, .slice A1 l1.length c1] w fun e w' => e = .returned (.bool r) ∧ Drawn0 w w' := by
 have hu93 := Tryz.underlying93
 have HR0 := Aside0.mk hr0
 have HC0 := Aside0.mk hc0
 clear hr0 hc0
 have HR1 := Aside0.mk hr1
 have HC1 := Aside0.mk hc1
 clear hr1 hc1
 have H : (if (l0.length : Int) = (l1.length : Int) then (laws_coPeaks.l0 k l0 l1 0) else (some false)) = some r := h
 clear h
 by_cases c3 : (l0.length : Int) = (l1.length : Int)
 rotate_left
 ·rw [if_neg c3] at H
  have c3b0 := beq_eq_false_iff_ne.mpr c3
  have c3b1 := bne_iff_ne.mpr c3
  have c3b2 : (l0.length == l1.length) = false := by first | simpa using c3 | (simp at c3 ⊢; omega)
  obtain rfl := Option.some.inj H
  go_enter Tryz.func67, Tryz.ntmps67
  go_wp2
  repeat (go_quiet (fail); try go_wp2)
  go_ret
  exact ⟨xR, xW⟩
 rw [if_pos c3] at H
 have c3b0 := beq_iff_eq.mpr c3
 have c3b1 := bne_eq_false_iff_eq.mpr c3
 have c3b2 : (l0.length == l1.length) = true := by first | simpa using c3 | (simp at c3 ⊢; omega)
 clear c3
 have H' := Aside0.mk H
 clear H
 go_enter Tryz.func67, Tryz.ntmps67
 go_wp2
 repeat (go_quiet (fail); try go_wp2)
 go_loopg [5] k (fun kq v5 w' => ∃ (x5_1 : Int), v5 = .int .i64 x5_1 ∧ Aside0 (laws_coPeaks.l0 kq l0 l1 x5_1 = some r) ∧ Aside0 (kq ≤ k) ∧ Drawn0 w w')
 case atStart => exact ⟨(0), xR, H', ⟨Nat.le_refl _⟩, xW⟩
 case round =>
  clear H'
  try clear c1
  try clear p2
  try clear c3
  try clear c3b0
  try clear c3b1
  try clear c3b2
  obtain ⟨x5_1, rfl, HA, HK1, ⟨m1, rfl⟩⟩ := hrel
  cases gk with
  | zero => exact absurd HA.out (by simp [laws_coPeaks.l0])
  | succ k1 =>
   have H := HA.out
   clear HA
   simp only [laws_coPeaks.l0] at H
   by_cases c4 : x5_1 < (l0.length : Int)
   rotate_left
   ·rw [if_neg c4] at H
    have c4b0 := decide_eq_false c4
    clear c4
    obtain rfl := Option.some.inj H
    go_wp2
    repeat (go_quiet (fail); try go_wp2)
    go_ret
    exact ⟨xR, xW⟩
   rw [if_pos c4] at H
   have c4b0 := decide_eq_true c4
   clear c4
   replace H := ipd H
   obtain ⟨c5b0, H⟩ := H
   replace H := ipd H
   obtain ⟨c6b0, H⟩ := H
   have p720 : 0 ≤ (x5_1 : Int) := of_decide_eq_true xA
   have q720 : x5_1 < (l0.length : Int) := of_decide_eq_true xA
   obtain ⟨ad720, e720, hx720_0, hx720_1, hx720_2⟩ := at_T93 HR0.out x5_1 p720 q720
   cases e720
   replace p720 := eq_true p720
   replace q720 := eq_true q720
   have p721 : 0 ≤ (x5_1 : Int) := of_decide_eq_true xA
   have q721 : x5_1 < (l1.length : Int) := of_decide_eq_true xA
   obtain ⟨ad721, e721, hx721_0, hx721_1, hx721_2⟩ := at_T93 HR1.out x5_1 p721 q721
   cases e721
   replace p721 := eq_true p721
   replace q721 := eq_true q721
   by_cases c7 : (!((((rd_T93 l0 x5_1).f0).toList) == (((rd_T93 l1 x5_1).f0).toList)) || (!(((rd_T93 l0 x5_1).f1) == ((rd_T93 l1 x5_1).f1)) || (!(((rd_T93 l0 x5_1).f2) == ((rd_T93 l1 x5_1).f2))))) = true
   ·rw [if_pos c7] at H
    have c7b0 : (!((((rd_T93 l0 x5_1).f0).toList) == (((rd_T93 l1 x5_1).f0).toList)) || (!(((rd_T93 l0 x5_1).f1) == ((rd_T93 l1 x5_1).f1)) || (!(((rd_T93 l0 x5_1).f2) == ((rd_T93 l1 x5_1).f2))))) = true := c7
    clear c7
    obtain rfl := Option.some.inj H
    go_wp2
    repeat (go_quiet (fail); try go_wp2)
    go_ret
    exact ⟨xR, xW⟩
   rw [if_neg c7] at H
   have c7b0 : (!((((rd_T93 l0 x5_1).f0).toList) == (((rd_T93 l1 x5_1).f0).toList)) || (!(((rd_T93 l0 x5_1).f1) == ((rd_T93 l1 x5_1).f1)) || (!(((rd_T93 l0 x5_1).f2) == ((rd_T93 l1 x5_1).f2))))) = false := by simpa using c7
   clear c7
   have H' := Aside0.mk H
   clear H
   go_wp2
   repeat (go_quiet (fail); try go_wp2)
   go_roundg k1
   case measure => have := HK1.out; omega
   case rel => exact ⟨(wrap64 (x5_1 + 1)), xR, H', ⟨xL HK1⟩, xW⟩
def laws_coProof.f (k : Nat) (l0_0 : List (S93)) (l0_1 : List (S93)) (l1_0 : List (S93)) (l1_1 : List (S93)) : Option (Bool) := (laws_coPeaks.f k l0_0 l1_0).bind fun t724 => (if t724 = true then ((laws_coPeaks.f k l0_1 l1_1).bind fun t725 => (some t725)) else (some false))
theorem laws_coProof.mono : ∀ a0 a1 a2 a3 k, LeO (laws_coProof.f k a0 a1 a2 a3) (laws_coProof.f (k + 1) a0 a1 a2 a3) := by
 intro a0 a1 a2 a3 k
 unfold laws_coProof.f
 exact mo1 laws_coPeaks.mono
theorem laws_coProof.calls (k : Nat) (A0_0 : Option Addr) (c0_0 : Nat) (l0_0 : List (S93)) (A0_1 : Option Addr) (c0_1 : Nat) (l0_1 : List (S93)) (A1_0 : Option Addr) (c1_0 : Nat) (l1_0 : List (S93)) (A1_1 : Option Addr) (c1_1 : Nat) (l1_1 : List (S93)) (r : Bool) (w : World) (hr0_0 : Kd.C k93 w A0_0 l0_0.length l0_0) (hc0_0 : l0_0.length ≤ c0_0) (hr0_1 : Kd.C k93 w A0_1 l0_1.length l0_1) (hc0_1 : l0_1.length ≤ c0_1) (hr1_0 : Kd.C k93 w A1_0 l1_0.length l1_0) (hc1_0 : l1_0.length ≤ c1_0) (hr1_1 : Kd.C k93 w A1_1 l1_1.length l1_1) (hc1_1 : l1_1.length ≤ c1_1) (h : laws_coProof.f k l0_0 l0_1 l1_0 l1_1 = some r) :
  Calls Tryz.prog 30 #[.agg #[.slice A0_0 l0_0.length c0_0, .slice A0_1 l0_1.length c0_1], .agg #[.slice A1_0 l1_0.length c1_0, .slice A1_1 l1_1.length c1_1]] w fun e w' => e = .returned (.bool r) ∧ Below w.heap.size w w' := by
 have hu27 := Tryz.underlying27
 have HR0_0 := Aside0.mk hr0_0
 have HC0_0 := Aside0.mk hc0_0
 clear hr0_0 hc0_0
 have HR0_1 := Aside0.mk hr0_1
 have HC0_1 := Aside0.mk hc0_1
 clear hr0_1 hc0_1
 have HR1_0 := Aside0.mk hr1_0
 have HC1_0 := Aside0.mk hc1_0
 clear hr1_0 hc1_0
 have HR1_1 := Aside0.mk hr1_1
 have HC1_1 := Aside0.mk hc1_1
 clear hr1_1 hc1_1
 have HB := Aside0.mk (Below.refl w.heap.size w)
 have H : ((laws_coPeaks.f k l0_0 l1_0).bind fun t724 => (if t724 = true then ((laws_coPeaks.f k l0_1 l1_1).bind fun t725 => (some t725)) else (some false))) = some r := h
 clear h
 replace H := oa H
 obtain ⟨t724, A3, H⟩ := H
 go_enter Tryz.func30, Tryz.ntmps30
 go_upto_region 1 with ((with_reducible refine gg ?_); first | (refine bE 2 #[.slice A0_0 l0_0.length c0_0, .slice A0_1 l0_1.length c0_1] 27 ?_; intro gb722 hg w6 hbox hb; have BK722 := am (hbox); have GW722 := zB hg HB; have GE722 := zB hg HB; replace HB := kH HB hb; clear hb hbox hg) | (refine bE 3 #[.slice A1_0 l1_0.length c1_0, .slice A1_1 l1_1.length c1_1] 27 ?_; intro gb723 hg w7 hbox hb; have BK723 := am (hbox); have GW723 := zB hg HB; have GE723 := zB hg HB; replace HB := kH HB hb; have NB722_723 := nl hg (kb BK722); have NB723_722 := ng hg (kb BK722); replace BK722 := kP _ BK722 hb; clear hb hbox hg; have hnb8 := NB722_723.out; have hnc8 := NB723_722.out; have hz9 := bc2 BK722; have hz10 := bc2 BK723))
 by_cases c4 : t724 = true
 rotate_left
 ·replace c4 := Bool.eq_false_iff.mpr c4
  subst c4
  try simp only [Bool.not_true, Bool.not_false]
  rw [if_neg (show ¬ (false = true) by decide)] at H
  obtain rfl := Option.some.inj H
  go_wp2_with ((with_reducible refine gg ?_); refine gL 9 Tryz.func67 #[.slice A0_0 l0_0.length c0_0, .slice A1_0 l1_0.length c1_0] ?_; (with_reducible refine (laws_coPeaks.calls k _ _ l0_0 _ _ l1_0 false _ ?side1 ?side2 ?side3 ?side4 A3.out).mono ?_); (case side1 => exact cb HR0_0 HB); (case side2 => exact HC0_0.out); (case side3 => exact cb HR1_0 HB); (case side4 => exact HC1_0.out); rintro e w' ⟨rfl, ⟨nd, rfl⟩⟩; refine ⟨_, rfl, ?_⟩)
  go_ret
  exact ⟨xE, xB HB⟩
 subst c4
 try simp only [Bool.not_true, Bool.not_false]
 rw [if_pos rfl] at H
 replace H := oa H
 obtain ⟨t725, A5, H⟩ := H
 obtain rfl := Option.some.inj H
 go_wp2_with (first | ((with_reducible refine gg ?_); refine gL 9 Tryz.func67 #[.slice A0_0 l0_0.length c0_0, .slice A1_0 l1_0.length c1_0] ?_; (with_reducible refine (laws_coPeaks.calls k _ _ l0_0 _ _ l1_0 true _ ?side1 ?side2 ?side3 ?side4 A3.out).mono ?_); (case side1 => exact cb HR0_0 HB); (case side2 => exact HC0_0.out); (case side3 => exact cb HR1_0 HB); (case side4 => exact HC1_0.out); rintro e w' ⟨rfl, ⟨nd, rfl⟩⟩; refine ⟨_, rfl, ?_⟩) | (go_at_call 67; (with_reducible refine (laws_coPeaks.calls k _ _ l0_1 _ _ l1_1 t725 _ ?side1 ?side2 ?side3 ?side4 A5.out).mono ?_); (case side1 => repeat (first | exact (Kd.C_below HR0_1.out (xB HB)) | (with_reducible refine Kd.C_alloc ?_ _) | (with_reducible refine Kd.C_drewN ?_ _) | (with_reducible refine Kd.C_drew ?_))); (case side2 => exact HC0_1.out); (case side3 => repeat (first | exact (Kd.C_below HR1_1.out (xB HB)) | (with_reducible refine Kd.C_alloc ?_ _) | (with_reducible refine Kd.C_drewN ?_ _) | (with_reducible refine Kd.C_drew ?_))); (case side4 => exact HC1_1.out); rintro e w' ⟨rfl, ⟨nd, rfl⟩⟩))
 go_ret
 exact ⟨xE, xB HB⟩
def laws_coSides.l0 : Nat → List (S48) → List (S48) → Int → Option (Bool)
 | 0, _, _, _ => none
 | k + 1, x0, x1, x5 => if x5 < (x0.length : Int) then (if 0 ≤ x5 then (if x5 < (x1.length : Int) then (if (!((((rd_T48 x0 x5).f0).toList) == (((rd_T48 x1 x5).f0).toList)) || (!(((rd_T48 x0 x5).f1) == ((rd_T48 x1 x5).f1)))) = true then (some false) else (laws_coSides.l0 k x0 x1 (wrap64 (x5 + 1)))) else (none)) else (none)) else (some true)
def laws_coSides.f (k : Nat) (l0 : List (S48)) (l1 : List (S48)) : Option (Bool) := if (l0.length : Int) = (l1.length : Int) then (laws_coSides.l0 k l0 l1 0) else (some false)
theorem laws_coSides.mono_l : ∀ k, (∀ y0 y1 y2, LeO (laws_coSides.l0 k y0 y1 y2) (laws_coSides.l0 (k + 1) y0 y1 y2))
 | 0 => fun _ _ _ r h => by simp [laws_coSides.l0] at h
 | k + 1 => by
  have ih0 := laws_coSides.mono_l k
  ·intro y0 y1 y2
   unfold laws_coSides.l0
   exact mo1 ih0
theorem laws_coSides.mono : ∀ a0 a1 k, LeO (laws_coSides.f k a0 a1) (laws_coSides.f (k + 1) a0 a1) := by
 intro a0 a1 k
 have ih0 := laws_coSides.mono_l k
 unfold laws_coSides.f
 exact mo1 ih0
theorem laws_coSides.calls (k : Nat) (A0 : Option Addr) (c0 : Nat) (l0 : List (S48)) (A1 : Option Addr) (c1 : Nat) (l1 : List (S48)) (r : Bool) (w : World) (hr0 : Kd.C k48 w A0 l0.length l0) (hc0 : l0.length ≤ c0) (hr1 : Kd.C k48 w A1 l1.length l1) (hc1 : l1.length ≤ c1) (h : laws_coSides.f k l0 l1 = some r) :
  Calls Tryz.prog 31 #[.slice A0 l0.length c0, .slice A1 l1.length c1] w fun e w' => e = .returned (.bool r) ∧ Drawn0 w w' := by
 have hu48 := Tryz.underlying48
 have HR0 := Aside0.mk hr0
 have HC0 := Aside0.mk hc0
 clear hr0 hc0
 have HR1 := Aside0.mk hr1
 have HC1 := Aside0.mk hc1
 clear hr1 hc1
 have H : (if (l0.length : Int) = (l1.length : Int) then (laws_coSides.l0 k l0 l1 0) else (some false)) = some r := h
 clear h
 by_cases c3 : (l0.length : Int) = (l1.length : Int)
 rotate_left
 ·rw [if_neg c3] at H
  have c3b0 := beq_eq_false_iff_ne.mpr c3
  have c3b1 := bne_iff_ne.mpr c3
  have c3b2 : (l0.length == l1.length) = false := by first | simpa using c3 | (simp at c3 ⊢; omega)
  obtain rfl := Option.some.inj H
  go_enter Tryz.func31, Tryz.ntmps31
  go_wp2
  repeat (go_quiet (fail); try go_wp2)
  go_ret
  exact ⟨xR, xW⟩
 rw [if_pos c3] at H
 have c3b0 := beq_iff_eq.mpr c3
 have c3b1 := bne_eq_false_iff_eq.mpr c3
 have c3b2 : (l0.length == l1.length) = true := by first | simpa using c3 | (simp at c3 ⊢; omega)
 clear c3
 have H' := Aside0.mk H
 clear H
 go_enter Tryz.func31, Tryz.ntmps31
 go_wp2
 repeat (go_quiet (fail); try go_wp2)
 go_loopg [5] k (fun kq v5 w' => ∃ (x5_1 : Int), v5 = .int .i64 x5_1 ∧ Aside0 (laws_coSides.l0 kq l0 l1 x5_1 = some r) ∧ Aside0 (kq ≤ k) ∧ Drawn0 w w')
 case atStart => exact ⟨(0), xR, H', ⟨Nat.le_refl _⟩, xW⟩
 case round =>
  clear H'
  try clear c1
  try clear p2
  try clear c3
  try clear c3b0
  try clear c3b1
  try clear c3b2
  obtain ⟨x5_1, rfl, HA, HK1, ⟨m1, rfl⟩⟩ := hrel
  cases gk with
  | zero => exact absurd HA.out (by simp [laws_coSides.l0])
  | succ k1 =>
   have H := HA.out
   clear HA
   simp only [laws_coSides.l0] at H
   by_cases c4 : x5_1 < (l0.length : Int)
   rotate_left
   ·rw [if_neg c4] at H
    have c4b0 := decide_eq_false c4
    clear c4
    obtain rfl := Option.some.inj H
    go_wp2
    repeat (go_quiet (fail); try go_wp2)
    go_ret
    exact ⟨xR, xW⟩
   rw [if_pos c4] at H
   have c4b0 := decide_eq_true c4
   clear c4
   replace H := ipd H
   obtain ⟨c5b0, H⟩ := H
   replace H := ipd H
   obtain ⟨c6b0, H⟩ := H
   have p726 : 0 ≤ (x5_1 : Int) := of_decide_eq_true xA
   have q726 : x5_1 < (l0.length : Int) := of_decide_eq_true xA
   obtain ⟨ad726, e726, hx726_0, hx726_1⟩ := at_T48 HR0.out x5_1 p726 q726
   cases e726
   replace p726 := eq_true p726
   replace q726 := eq_true q726
   have p727 : 0 ≤ (x5_1 : Int) := of_decide_eq_true xA
   have q727 : x5_1 < (l1.length : Int) := of_decide_eq_true xA
   obtain ⟨ad727, e727, hx727_0, hx727_1⟩ := at_T48 HR1.out x5_1 p727 q727
   cases e727
   replace p727 := eq_true p727
   replace q727 := eq_true q727
   by_cases c7 : (!((((rd_T48 l0 x5_1).f0).toList) == (((rd_T48 l1 x5_1).f0).toList)) || (!(((rd_T48 l0 x5_1).f1) == ((rd_T48 l1 x5_1).f1)))) = true
   ·rw [if_pos c7] at H
    have c7b0 : (!((((rd_T48 l0 x5_1).f0).toList) == (((rd_T48 l1 x5_1).f0).toList)) || (!(((rd_T48 l0 x5_1).f1) == ((rd_T48 l1 x5_1).f1)))) = true := c7
    clear c7
    obtain rfl := Option.some.inj H
    go_wp2
    repeat (go_quiet (fail); try go_wp2)
    go_ret
    exact ⟨xR, xW⟩
   rw [if_neg c7] at H
   have c7b0 : (!((((rd_T48 l0 x5_1).f0).toList) == (((rd_T48 l1 x5_1).f0).toList)) || (!(((rd_T48 l0 x5_1).f1) == ((rd_T48 l1 x5_1).f1)))) = false := by simpa using c7
   clear c7
   have H' := Aside0.mk H
   clear H
   go_wp2
   repeat (go_quiet (fail); try go_wp2)
   go_roundg k1
   case measure => have := HK1.out; omega
   case rel => exact ⟨(wrap64 (x5_1 + 1)), xR, H', ⟨xL HK1⟩, xW⟩
attribute [local go_sem high] eqA24
def laws_coPaid.f (k : Nat) (a0_0 : Int) (a0_1 : ByteArray) (a0_2 : ByteArray) (a0_3 : Int) (a0_4 : Int) (a0_5 : Int) (l0_6 : List (S93)) (l0_7 : List (S93)) (l0_8 : List (S48)) (a1_0 : Int) (a1_1 : ByteArray) (a1_2 : ByteArray) (a1_3 : Int) (a1_4 : Int) (a1_5 : Int) (l1_6 : List (S93)) (l1_7 : List (S93)) (l1_8 : List (S48)) : Option (Bool) := if a0_0 = a1_0 then (if (a0_1.toList == a1_1.toList && (a0_2.toList == a1_2.toList && (a0_3 == a1_3 && (a0_4 == a1_4 && (a0_5 == a1_5))))) = true then ((laws_coProof.f k l0_6 l0_7 l1_6 l1_7).bind fun t730 => (if t730 = true then ((laws_coSides.f k l0_8 l1_8).bind fun t731 => (some t731)) else (some false))) else (some false)) else (some false)
theorem laws_coPaid.mono : ∀ a0 a1 a2 a3 a4 a5 a6 a7 a8 a9 a10 a11 a12 a13 a14 a15 a16 a17 k, LeO (laws_coPaid.f k a0 a1 a2 a3 a4 a5 a6 a7 a8 a9 a10 a11 a12 a13 a14 a15 a16 a17) (laws_coPaid.f (k + 1) a0 a1 a2 a3 a4 a5 a6 a7 a8 a9 a10 a11 a12 a13 a14 a15 a16 a17) := by
 intro a0 a1 a2 a3 a4 a5 a6 a7 a8 a9 a10 a11 a12 a13 a14 a15 a16 a17 k
 unfold laws_coPaid.f
 exact mo2 laws_coProof.mono laws_coSides.mono
theorem laws_coPaid.calls (k : Nat) (a0_0 : Int) (a0_1 : ByteArray) (a0_2 : ByteArray) (a0_3 : Int) (a0_4 : Int) (a0_5 : Int) (A0_6 : Option Addr) (c0_6 : Nat) (l0_6 : List (S93)) (A0_7 : Option Addr) (c0_7 : Nat) (l0_7 : List (S93)) (A0_8 : Option Addr) (c0_8 : Nat) (l0_8 : List (S48)) (a1_0 : Int) (a1_1 : ByteArray) (a1_2 : ByteArray) (a1_3 : Int) (a1_4 : Int) (a1_5 : Int) (A1_6 : Option Addr) (c1_6 : Nat) (l1_6 : List (S93)) (A1_7 : Option Addr) (c1_7 : Nat) (l1_7 : List (S93)) (A1_8 : Option Addr) (c1_8 : Nat) (l1_8 : List (S48)) (r : Bool) (w : World) (hr0_6 : Kd.C k93 w A0_6 l0_6.length l0_6) (hc0_6 : l0_6.length ≤ c0_6) (hr0_7 : Kd.C k93 w A0_7 l0_7.length l0_7) (hc0_7 : l0_7.length ≤ c0_7) (hr0_8 : Kd.C k48 w A0_8 l0_8.length l0_8) (hc0_8 : l0_8.length ≤ c0_8) (hr1_6 : Kd.C k93 w A1_6 l1_6.length l1_6) (hc1_6 : l1_6.length ≤ c1_6) (hr1_7 : Kd.C k93 w A1_7 l1_7.length l1_7) (hc1_7 : l1_7.length ≤ c1_7) (hr1_8 : Kd.C k48 w A1_8 l1_8.length l1_8) (hc1_8 : l1_8.length ≤ c1_8) (h : laws_coPaid.f k a0_0 a0_1 a0_2 a0_3 a0_4 a0_5 l0_6 l0_7 l0_8 a1_0 a1_1 a1_2 a1_3 a1_4 a1_5 l1_6 l1_7 l1_8 = some r) :
  Calls Tryz.prog 9 #[.agg #[.int .i64 a0_0, .string a0_1, .string a0_2, .int .i64 a0_3, .int .i64 a0_4, .int .i64 a0_5, .slice A0_6 l0_6.length c0_6, .slice A0_7 l0_7.length c0_7, .slice A0_8 l0_8.length c0_8], .agg #[.int .i64 a1_0, .string a1_1, .string a1_2, .int .i64 a1_3, .int .i64 a1_4, .int .i64 a1_5, .slice A1_6 l1_6.length c1_6, .slice A1_7 l1_7.length c1_7, .slice A1_8 l1_8.length c1_8]] w fun e w' => e = .returned (.bool r) ∧ Below w.heap.size w w' := by
 have hu30 := Tryz.underlying30
 have hu24 := Tryz.underlying24
 have hu27 := Tryz.underlying27
 have HR0_6 := Aside0.mk hr0_6
 have HC0_6 := Aside0.mk hc0_6
 clear hr0_6 hc0_6
 have HR0_7 := Aside0.mk hr0_7
 have HC0_7 := Aside0.mk hc0_7
 clear hr0_7 hc0_7
 have HR0_8 := Aside0.mk hr0_8
 have HC0_8 := Aside0.mk hc0_8
 clear hr0_8 hc0_8
 have HR1_6 := Aside0.mk hr1_6
 have HC1_6 := Aside0.mk hc1_6
 clear hr1_6 hc1_6
 have HR1_7 := Aside0.mk hr1_7
 have HC1_7 := Aside0.mk hc1_7
 clear hr1_7 hc1_7
 have HR1_8 := Aside0.mk hr1_8
 have HC1_8 := Aside0.mk hc1_8
 clear hr1_8 hc1_8
 have HB := Aside0.mk (Below.refl w.heap.size w)
 have H : (if a0_0 = a1_0 then (if (a0_1.toList == a1_1.toList && (a0_2.toList == a1_2.toList && (a0_3 == a1_3 && (a0_4 == a1_4 && (a0_5 == a1_5))))) = true then ((laws_coProof.f k l0_6 l0_7 l1_6 l1_7).bind fun t730 => (if t730 = true then ((laws_coSides.f k l0_8 l1_8).bind fun t731 => (some t731)) else (some false))) else (some false)) else (some false)) = some r := h
 clear h
 by_cases c3 : a0_0 = a1_0
 rotate_left
 ·rw [if_neg c3] at H
  have c3b0 := beq_eq_false_iff_ne.mpr c3
  have c3b1 := bne_iff_ne.mpr c3
  obtain rfl := Option.some.inj H
  go_enter Tryz.func9, Tryz.ntmps9
  go_wp2_with ((with_reducible refine gg ?_); first | (refine bE 2 #[.int .i64 a0_0, .string a0_1, .string a0_2, .int .i64 a0_3, .int .i64 a0_4, .int .i64 a0_5, .slice A0_6 l0_6.length c0_6, .slice A0_7 l0_7.length c0_7, .slice A0_8 l0_8.length c0_8] 30 ?_; intro gb728 hg w27 hbox hb; have BK728 := am (hbox); have GW728 := zB hg HB; have GE728 := zB hg HB; replace HB := kH HB hb; clear hb hbox hg) | (refine bE 3 #[.int .i64 a1_0, .string a1_1, .string a1_2, .int .i64 a1_3, .int .i64 a1_4, .int .i64 a1_5, .slice A1_6 l1_6.length c1_6, .slice A1_7 l1_7.length c1_7, .slice A1_8 l1_8.length c1_8] 30 ?_; intro gb729 hg w28 hbox hb; have BK729 := am (hbox); have GW729 := zB hg HB; have GE729 := zB hg HB; replace HB := kH HB hb; have NB728_729 := nl hg (kb BK728); have NB729_728 := ng hg (kb BK728); replace BK728 := kP _ BK728 hb; clear hb hbox hg; have hnb29 := NB728_729.out; have hnc29 := NB729_728.out; have hz30 := bc9 BK728; have hz31 := bc9 BK729))
  go_ret
  exact ⟨xE, xB HB⟩
 rw [if_pos c3] at H
 have c3b0 := beq_iff_eq.mpr c3
 have c3b1 := bne_eq_false_iff_eq.mpr c3
 clear c3
 by_cases c4 : (a0_1.toList == a1_1.toList && (a0_2.toList == a1_2.toList && (a0_3 == a1_3 && (a0_4 == a1_4 && (a0_5 == a1_5))))) = true
 rotate_left
 ·rw [if_neg c4] at H
  have c4b0 : (a0_1.toList == a1_1.toList && (a0_2.toList == a1_2.toList && (a0_3 == a1_3 && (a0_4 == a1_4 && (a0_5 == a1_5))))) = false := by simpa using c4
  (try (have c4b1 : decide (a0_1.toList = a1_1.toList && (a0_2.toList == a1_2.toList && (a0_3 == a1_3 && (a0_4 == a1_4 && (a0_5 == a1_5))))) = false := by simpa using c4))
  (try (have c4b2 : (a0_1.toList == a1_1.toList && (a0_2.toList == a1_2.toList && (a0_3 == a1_3 && (a0_4 == a1_4 && (a0_5 == a1_5))))) = false := by simpa using c4))
  (try (have c4b3 : ¬ (a0_1.toList = a1_1.toList && (a0_2.toList == a1_2.toList && (a0_3 == a1_3 && (a0_4 == a1_4 && (a0_5 == a1_5))))) := by simpa using c4))
  clear c4
  obtain rfl := Option.some.inj H
  go_enter Tryz.func9, Tryz.ntmps9
  go_wp2_with ((with_reducible refine gg ?_); first | (refine bE 2 #[.int .i64 a0_0, .string a0_1, .string a0_2, .int .i64 a0_3, .int .i64 a0_4, .int .i64 a0_5, .slice A0_6 l0_6.length c0_6, .slice A0_7 l0_7.length c0_7, .slice A0_8 l0_8.length c0_8] 30 ?_; intro gb728 hg w22 hbox hb; have BK728 := am (hbox); have GW728 := zB hg HB; have GE728 := zB hg HB; replace HB := kH HB hb; clear hb hbox hg) | (refine bE 3 #[.int .i64 a1_0, .string a1_1, .string a1_2, .int .i64 a1_3, .int .i64 a1_4, .int .i64 a1_5, .slice A1_6 l1_6.length c1_6, .slice A1_7 l1_7.length c1_7, .slice A1_8 l1_8.length c1_8] 30 ?_; intro gb729 hg w23 hbox hb; have BK729 := am (hbox); have GW729 := zB hg HB; have GE729 := zB hg HB; replace HB := kH HB hb; have NB728_729 := nl hg (kb BK728); have NB729_728 := ng hg (kb BK728); replace BK728 := kP _ BK728 hb; clear hb hbox hg; have hnb24 := NB728_729.out; have hnc24 := NB729_728.out; have hz25 := bc9 BK728; have hz26 := bc9 BK729))
  go_ret
  exact ⟨xE, xB HB⟩
 rw [if_pos c4] at H
 have c4b0 : (a0_1.toList == a1_1.toList && (a0_2.toList == a1_2.toList && (a0_3 == a1_3 && (a0_4 == a1_4 && (a0_5 == a1_5))))) = true := c4
 (try (have c4b1 : decide (a0_1.toList = a1_1.toList && (a0_2.toList == a1_2.toList && (a0_3 == a1_3 && (a0_4 == a1_4 && (a0_5 == a1_5))))) = true := by simpa using c4))
 (try (have c4b2 : (a0_1.toList == a1_1.toList && (a0_2.toList == a1_2.toList && (a0_3 == a1_3 && (a0_4 == a1_4 && (a0_5 == a1_5))))) = true := by simpa using c4))
 clear c4
 replace H := oa H
 obtain ⟨t730, A5, H⟩ := H
 by_cases c6 : t730 = true
 rotate_left
 ·replace c6 := Bool.eq_false_iff.mpr c6
  subst c6
  rw [if_neg (show ¬ (false = true) by decide)] at H
  obtain rfl := Option.some.inj H
  go_enter Tryz.func9, Tryz.ntmps9
  go_wp2_with (first | ((with_reducible refine gg ?_); first | (refine bE 2 #[.int .i64 a0_0, .string a0_1, .string a0_2, .int .i64 a0_3, .int .i64 a0_4, .int .i64 a0_5, .slice A0_6 l0_6.length c0_6, .slice A0_7 l0_7.length c0_7, .slice A0_8 l0_8.length c0_8] 30 ?_; intro gb728 hg w16 hbox hb; have BK728 := am (hbox); have GW728 := zB hg HB; have GE728 := zB hg HB; replace HB := kH HB hb; clear hb hbox hg) | (refine bE 3 #[.int .i64 a1_0, .string a1_1, .string a1_2, .int .i64 a1_3, .int .i64 a1_4, .int .i64 a1_5, .slice A1_6 l1_6.length c1_6, .slice A1_7 l1_7.length c1_7, .slice A1_8 l1_8.length c1_8] 30 ?_; intro gb729 hg w17 hbox hb; have BK729 := am (hbox); have GW729 := zB hg HB; have GE729 := zB hg HB; replace HB := kH HB hb; have NB728_729 := nl hg (kb BK728); have NB729_728 := ng hg (kb BK728); replace BK728 := kP _ BK728 hb; clear hb hbox hg; have hnb18 := NB728_729.out; have hnc18 := NB729_728.out; have hz19 := bc9 BK728; have hz20 := bc9 BK729)) | (go_at_call 30; (with_reducible refine (laws_coProof.calls k _ _ l0_6 _ _ l0_7 _ _ l1_6 _ _ l1_7 false _ ?side1 ?side2 ?side3 ?side4 ?side5 ?side6 ?side7 ?side8 A5.out).mono ?_); (case side1 => exact cb HR0_6 HB); (case side2 => exact HC0_6.out); (case side3 => exact cb HR0_7 HB); (case side4 => exact HC0_7.out); (case side5 => exact cb HR1_6 HB); (case side6 => exact HC1_6.out); (case side7 => exact cb HR1_7 HB); (case side8 => exact HC1_7.out); rintro e w21 ⟨rfl, hb⟩; replace BK728 := kP _ BK728 hb; replace BK729 := kP _ BK729 hb; replace HB := kH HB hb; (try clear hb)))
  go_ret
  exact ⟨xE, xB HB⟩
 subst c6
 rw [if_pos rfl] at H
 replace H := oa H
 obtain ⟨t731, A7, H⟩ := H
 obtain rfl := Option.some.inj H
 go_enter Tryz.func9, Tryz.ntmps9
 go_wp2_with (first | ((with_reducible refine gg ?_); first | (refine bE 2 #[.int .i64 a0_0, .string a0_1, .string a0_2, .int .i64 a0_3, .int .i64 a0_4, .int .i64 a0_5, .slice A0_6 l0_6.length c0_6, .slice A0_7 l0_7.length c0_7, .slice A0_8 l0_8.length c0_8] 30 ?_; intro gb728 hg w8 hbox hb; have BK728 := am (hbox); have GW728 := zB hg HB; have GE728 := zB hg HB; replace HB := kH HB hb; clear hb hbox hg) | (refine bE 3 #[.int .i64 a1_0, .string a1_1, .string a1_2, .int .i64 a1_3, .int .i64 a1_4, .int .i64 a1_5, .slice A1_6 l1_6.length c1_6, .slice A1_7 l1_7.length c1_7, .slice A1_8 l1_8.length c1_8] 30 ?_; intro gb729 hg w9 hbox hb; have BK729 := am (hbox); have GW729 := zB hg HB; have GE729 := zB hg HB; replace HB := kH HB hb; have NB728_729 := nl hg (kb BK728); have NB729_728 := ng hg (kb BK728); replace BK728 := kP _ BK728 hb; clear hb hbox hg; have hnb10 := NB728_729.out; have hnc10 := NB729_728.out; have hz11 := bc9 BK728; have hz12 := bc9 BK729)) | (go_at_call 30; (with_reducible refine (laws_coProof.calls k _ _ l0_6 _ _ l0_7 _ _ l1_6 _ _ l1_7 true _ ?side1 ?side2 ?side3 ?side4 ?side5 ?side6 ?side7 ?side8 A5.out).mono ?_); (case side1 => exact cb HR0_6 HB); (case side2 => exact HC0_6.out); (case side3 => exact cb HR0_7 HB); (case side4 => exact HC0_7.out); (case side5 => exact cb HR1_6 HB); (case side6 => exact HC1_6.out); (case side7 => exact cb HR1_7 HB); (case side8 => exact HC1_7.out); rintro e w13 ⟨rfl, hb⟩; replace BK728 := kP _ BK728 hb; replace BK729 := kP _ BK729 hb; replace HB := kH HB hb; (try clear hb); have hz14 := bc9 BK728; have hz15 := bc9 BK729) | (go_at_call 31; (with_reducible refine (laws_coSides.calls k _ _ l0_8 _ _ l1_8 t731 _ ?side1 ?side2 ?side3 ?side4 A7.out).mono ?_); (case side1 => exact cb HR0_8 HB); (case side2 => exact HC0_8.out); (case side3 => exact cb HR1_8 HB); (case side4 => exact HC1_8.out); rintro e w' ⟨rfl, ⟨nd, rfl⟩⟩))
 go_ret
 exact ⟨xE, xB HB⟩
def impl_RangeMany.l0 : Nat → Int → Int → List (S93) → Int → Int → Option (Int × Int)
 | 0, _, _, _, _, _ => none
 | k + 1, x4, x5, x11, x12, x13 => if x13 < x12 then (if 0 ≤ x13 then (if x13 < (x11.length : Int) then (impl_RangeMany.l0 k (wrap64 (x4 + ((rd_T93 x11 x13).f2))) (wrap64 (x5 + ((rd_T93 x11 x13).f1))) x11 x12 (wrap64 (x13 + 1))) else (none)) else (none)) else (some (x4, x5))
def impl_RangeMany.f (k : Nat) (l0 : List (S93)) : Option (Int × Int) := (impl_RangeOk.f k l0).bind fun t732 => (if t732 = true then (impl_RangeMany.l0 k 0 0 l0 (l0.length : Int) 0) else (some ((-1), (-1))))
theorem impl_RangeMany.mono_l : ∀ k, (∀ y0 y1 y2 y3 y4, LeO (impl_RangeMany.l0 k y0 y1 y2 y3 y4) (impl_RangeMany.l0 (k + 1) y0 y1 y2 y3 y4))
 | 0 => fun _ _ _ _ _ r h => by simp [impl_RangeMany.l0] at h
 | k + 1 => by
  have ih0 := impl_RangeMany.mono_l k
  ·intro y0 y1 y2 y3 y4
   unfold impl_RangeMany.l0
   exact mo2 ih0 impl_RangeOk.mono
theorem impl_RangeMany.mono : ∀ a0 k, LeO (impl_RangeMany.f k a0) (impl_RangeMany.f (k + 1) a0) := by
 intro a0 k
 have ih0 := impl_RangeMany.mono_l k
 unfold impl_RangeMany.f
 exact mo2 ih0 impl_RangeOk.mono
theorem impl_RangeMany.calls (k : Nat) (A0 : Option Addr) (c0 : Nat) (l0 : List (S93)) (r1 : Int) (r2 : Int) (w : World) (hr0 : Kd.C k93 w A0 l0.length l0) (hc0 : l0.length ≤ c0) (h : impl_RangeMany.f k l0 = some (r1, r2)) :
  Calls Tryz.prog 32 #[.slice A0 l0.length c0] w fun e w' => e = .returned (.tuple #[.int .i64 r1, .int .i64 r2]) ∧ Below w.heap.size w w' := by
 have hu93 := Tryz.underlying93
 have HR0 := Aside0.mk hr0
 have HC0 := Aside0.mk hc0
 clear hr0 hc0
 have HB := Aside0.mk (Below.refl w.heap.size w)
 have H : ((impl_RangeOk.f k l0).bind fun t732 => (if t732 = true then (impl_RangeMany.l0 k 0 0 l0 (l0.length : Int) 0) else (some ((-1), (-1))))) = some (r1, r2) := h
 clear h
 replace H := oa H
 obtain ⟨t732, A2, H⟩ := H
 go_enter Tryz.func32, Tryz.ntmps32
 go_upto_if 10 with ((with_reducible refine gg ?_); refine gL 9 Tryz.func50 #[.slice A0 l0.length c0] ?_; (with_reducible refine (impl_RangeOk.calls k _ _ l0 t732 _ ?side1 ?side2 A2.out).mono ?_); (case side1 => exact cr HR0.out); (case side2 => exact HC0.out); rintro e w4 ⟨rfl, hb⟩; refine ⟨_, rfl, ?_⟩; replace HB := kH HB hb; (try clear hb))
 by_cases c3 : t732 = true
 rotate_left
 ·replace c3 := Bool.eq_false_iff.mpr c3
  subst c3
  try simp only [Bool.not_true, Bool.not_false]
  rw [if_neg (show ¬ (false = true) by decide)] at H
  simp only [Option.some.injEq, Prod.mk.injEq] at H
  obtain ⟨rfl, rfl⟩ := H
  go_wp2
  go_ret2
  exact ⟨xE, bl HB⟩
 subst c3
 try simp only [Bool.not_true, Bool.not_false]
 rw [if_pos rfl] at H
 have H' := Aside0.mk H
 clear H
 go_wp2
 go_loopg [4, 5, 13] k (fun kq v4 v5 v13 w' => ∃ (x4_1 : Int) (x5_1 : Int) (x13_1 : Int), v4 = .int .i64 x4_1 ∧ v5 = .int .i64 x5_1 ∧ v13 = .int .i64 x13_1 ∧ Aside0 (impl_RangeMany.l0 kq x4_1 x5_1 l0 (l0.length : Int) x13_1 = some (r1, r2)) ∧ Aside0 (kq ≤ k) ∧ Aside0 (Below w.heap.size w w'))
 case atStart => exact ⟨(0), (0), (0), xR, xR, xR, H', ⟨Nat.le_refl _⟩, ⟨bl HB⟩⟩
 case round =>
  clear H'
  try clear p2
  try clear c3
  obtain ⟨x4_1, x5_1, x13_1, rfl, rfl, rfl, HA, HK1, HB⟩ := hrel
  cases gk with
  | zero => exact absurd HA.out (by simp [impl_RangeMany.l0])
  | succ k1 =>
   have H := HA.out
   clear HA
   simp only [impl_RangeMany.l0] at H
   by_cases c5 : x13_1 < (l0.length : Int)
   rotate_left
   ·rw [if_neg c5] at H
    have c5b0 := decide_eq_false c5
    clear c5
    simp only [Option.some.injEq, Prod.mk.injEq] at H
    obtain ⟨rfl, rfl⟩ := H
    go_wp2
    go_ret2
    exact ⟨xE, bl HB⟩
   rw [if_pos c5] at H
   have c5b0 := decide_eq_true c5
   clear c5
   replace H := ipd H
   obtain ⟨c6b0, H⟩ := H
   replace H := ipd H
   obtain ⟨c7b0, H⟩ := H
   have H' := Aside0.mk H
   clear H
   have p733 : 0 ≤ (x13_1 : Int) := of_decide_eq_true xA
   have q733 : x13_1 < (l0.length : Int) := of_decide_eq_true xA
   obtain ⟨ad733, e733, hx733_0, hx733_1, hx733_2⟩ := at_T93 HR0.out x13_1 p733 q733
   cases e733
   replace hx733_0 := hc HB hx733_0
   replace hx733_1 := hc HB hx733_1
   replace hx733_2 := hc HB hx733_2
   replace p733 := eq_true p733
   replace q733 := eq_true q733
   go_wp2_with ((with_reducible refine gg ?_); refine bE 7 #[.string (⟨#[]⟩ : ByteArray), .int .i64 0, .int .i64 0] 93 ?_; intro gb734 hg w8 hbox hb; have BK734 := am (hbox); have GW734 := zB hg HB; have GE734 := zB hg HB; replace HB := kH HB hb; clear hb hbox hg; have hz9 := bc3 BK734)
   go_roundg k1
   case measure => have := HK1.out; omega
   case rel => exact ⟨(wrap64 (x4_1 + ((rd_T93 l0 x13_1).f2))), (wrap64 (x5_1 + ((rd_T93 l0 x13_1).f1))), (wrap64 (x13_1 + 1)), xR, xR, xR, H', ⟨xL HK1⟩, ⟨xB HB⟩⟩
def impl_PaidDeep.f (k : Nat) (a0_0 : Int) (a0_1 : ByteArray) (a0_2 : ByteArray) (a0_3 : Int) (a0_4 : Int) (a0_5 : Int) (l0_6 : List (S93)) (l0_7 : List (S93)) (l0_8 : List (S48)) : Option (Int) := (impl_RangeMany.f k l0_6).bind fun bt736 => ((impl_in.f a0_0 0 (wrap64 (bt736.1 - 1))).bind fun t738 => (if t738 = true then (some (wrap64 ((wrap64 (bt736.1 - 1)) - a0_0))) else (some (-1))))
theorem impl_PaidDeep.mono : ∀ a0 a1 a2 a3 a4 a5 a6 a7 a8 k, LeO (impl_PaidDeep.f k a0 a1 a2 a3 a4 a5 a6 a7 a8) (impl_PaidDeep.f (k + 1) a0 a1 a2 a3 a4 a5 a6 a7 a8) := by
 intro a0 a1 a2 a3 a4 a5 a6 a7 a8 k
 unfold impl_PaidDeep.f
 exact mo1 impl_RangeMany.mono
theorem impl_PaidDeep.calls (k : Nat) (a0_0 : Int) (a0_1 : ByteArray) (a0_2 : ByteArray) (a0_3 : Int) (a0_4 : Int) (a0_5 : Int) (A0_6 : Option Addr) (c0_6 : Nat) (l0_6 : List (S93)) (A0_7 : Option Addr) (c0_7 : Nat) (l0_7 : List (S93)) (A0_8 : Option Addr) (c0_8 : Nat) (l0_8 : List (S48)) (r : Int) (w : World) (hr0_6 : Kd.C k93 w A0_6 l0_6.length l0_6) (hc0_6 : l0_6.length ≤ c0_6) (hr0_7 : Kd.C k93 w A0_7 l0_7.length l0_7) (hc0_7 : l0_7.length ≤ c0_7) (hr0_8 : Kd.C k48 w A0_8 l0_8.length l0_8) (hc0_8 : l0_8.length ≤ c0_8) (h : impl_PaidDeep.f k a0_0 a0_1 a0_2 a0_3 a0_4 a0_5 l0_6 l0_7 l0_8 = some r) :
  Calls Tryz.prog 10 #[.agg #[.int .i64 a0_0, .string a0_1, .string a0_2, .int .i64 a0_3, .int .i64 a0_4, .int .i64 a0_5, .slice A0_6 l0_6.length c0_6, .slice A0_7 l0_7.length c0_7, .slice A0_8 l0_8.length c0_8]] w fun e w' => e = .returned (.int .i64 r) ∧ Below w.heap.size w w' := by
 have hu30 := Tryz.underlying30
 have HR0_6 := Aside0.mk hr0_6
 have HC0_6 := Aside0.mk hc0_6
 clear hr0_6 hc0_6
 have HR0_7 := Aside0.mk hr0_7
 have HC0_7 := Aside0.mk hc0_7
 clear hr0_7 hc0_7
 have HR0_8 := Aside0.mk hr0_8
 have HC0_8 := Aside0.mk hc0_8
 clear hr0_8 hc0_8
 have HB := Aside0.mk (Below.refl w.heap.size w)
 have H : ((impl_RangeMany.f k l0_6).bind fun bt736 => ((impl_in.f a0_0 0 (wrap64 (bt736.1 - 1))).bind fun t738 => (if t738 = true then (some (wrap64 ((wrap64 (bt736.1 - 1)) - a0_0))) else (some (-1))))) = some r := h
 clear h
 replace H := Option.bind_eq_some_iff.mp H
 obtain ⟨⟨t736, t737⟩, A20, H⟩ := H
 have A2 := Aside0.mk A20
 clear A20
 replace H := oa H
 obtain ⟨t738, A3, H⟩ := H
 go_enter Tryz.func10, Tryz.ntmps10
 go_upto_if 17 with ((with_reducible refine gg ?_); first | (refine bE 1 #[.int .i64 a0_0, .string a0_1, .string a0_2, .int .i64 a0_3, .int .i64 a0_4, .int .i64 a0_5, .slice A0_6 l0_6.length c0_6, .slice A0_7 l0_7.length c0_7, .slice A0_8 l0_8.length c0_8] 30 ?_; intro gb735 hg w5 hbox hb; have BK735 := am (hbox); have GW735 := zB hg HB; have GE735 := zB hg HB; replace HB := kH HB hb; clear hb hbox hg; have hz6 := bc9 BK735) | (refine gL 9 Tryz.func32 #[.slice A0_6 l0_6.length c0_6] ?_; (with_reducible refine (impl_RangeMany.calls k _ _ l0_6 t736 t737 _ ?side1 ?side2 A2.out).mono ?_); (case side1 => exact cb HR0_6 HB); (case side2 => exact HC0_6.out); rintro e w7 ⟨rfl, hb⟩; refine ⟨_, rfl, ?_⟩; replace BK735 := kP _ BK735 hb; replace HB := kH HB hb; (try clear hb); have hz8 := bc9 BK735) | (refine gL 16 Tryz.func33 #[.int .i64 a0_0, .int .i64 0, .int .i64 (wrap64 (t736 - 1))] ?_; (with_reducible refine (impl_in.calls a0_0 0 (wrap64 (t736 - 1)) t738 _ A3.out).mono ?_); rintro e w' ⟨rfl, ⟨nd, rfl⟩⟩; refine ⟨_, rfl, ?_⟩))
 by_cases c4 : t738 = true
 ·subst c4
  try simp only [Bool.not_true, Bool.not_false]
  rw [if_pos rfl] at H
  obtain rfl := Option.some.inj H
  go_wp2
  go_ret
  exact ⟨xE, xB HB⟩
 replace c4 := Bool.eq_false_iff.mpr c4
 subst c4
 try simp only [Bool.not_true, Bool.not_false]
 rw [if_neg (show ¬ (false = true) by decide)] at H
 obtain rfl := Option.some.inj H
 go_wp2
 go_ret
 exact ⟨xE, xB HB⟩

end Go.Proofs.YtgjljbaadglpnaaGreatDoor.PFnPaidPut
