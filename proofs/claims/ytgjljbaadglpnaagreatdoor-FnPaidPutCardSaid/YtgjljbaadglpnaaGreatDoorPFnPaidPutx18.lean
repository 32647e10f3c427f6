/- Functions of the program and what each answers: the kit's print, shortened (wip/press2.py). -/
import Derived.Test.YtgjljbaadglpnaaGreatDoorPFnPaidPutx0
import Derived.Test.YtgjljbaadglpnaaGreatDoorPFnPaidPutx4
import Derived.Test.YtgjljbaadglpnaaGreatDoorPFnPaidPutx8
import Derived.Test.YtgjljbaadglpnaaGreatDoorPFnPaidPutx15
import Derived.Test.YtgjljbaadglpnaaGreatDoorPFnPaidPutx17
namespace Go.Proofs.YtgjljbaadglpnaaGreatDoor.PFnPaidPut
open Go.Proofs.YtgjljbaadglpnaaGreatDoor.Sq Go.RowKit Go.Proofs.YtgjljbaadglpnaaGreatDoorW.PrintWords Go.Proofs.YtgjljbaadglpnaaGreatDoorW.PrintLast Go.Proofs.YtgjljbaadglpnaaGreatDoorW.PrintMore
attribute [local go_sem] max2_int min2_int max_two min_two max_three min_three max_four min_four   -- for this text's walks alone
set_option linter.unusedVariables false
set_option linter.unusedSimpArgs false
set_option maxHeartbeats 64000000
set_option maxRecDepth 100000
mutual
def spec_l20Paid.j1 : Nat → List (S82) → Int → List Int → Int → Option (Int × ByteArray × ByteArray × Int × Int × Int × (List (S93)) × (List (S93)) × (List (S48)) × ByteArray × ByteArray × Int)
 | 0, _, _, _, _ => none
 | k + 1, x5, x6, x1000, x1001 => (spec_l4Heads.f k x5).bind fun t463 => ((spec_l5Of.f k t463).bind fun t466 => ((spec_l5Root.f k t466).bind fun t469 => (if 0 ≤ x6 then (if x6 < (x5.length : Int) then (if (((rd_T82 x5 x6).f1).length : Int) = 0 then (some (0, (⟨#[]⟩ : ByteArray), (⟨#[]⟩ : ByteArray), 0, 0, 0, ([] : List (S93)), ([] : List (S93)), ([] : List (S48)), (⟨#[97]⟩ : ByteArray), t469, x1001)) else ((spec_l20Rd_pick.f k x1000 x1001 (((rd_T82 x5 x6).f1).length : Int)).bind fun bt472 => ((spec_l9Of.f k x5 x6 bt472.1).bind fun bt474 => (if 0 ≤ bt472.1 then (if bt472.1 < (((rd_T82 x5 x6).f1).length : Int) then (some (bt474.1, bt474.2.1, bt474.2.2.1, bt474.2.2.2.1, bt474.2.2.2.2.1, bt474.2.2.2.2.2.1, bt474.2.2.2.2.2.2.1, bt474.2.2.2.2.2.2.2.1, bt474.2.2.2.2.2.2.2.2, rdOf ByteArray.empty ((rd_T82 x5 x6).f1) bt472.1, t469, bt472.2)) else (none)) else (none))))) else (none)) else (none))))
def spec_l20Paid.l0 : Nat → List (S82) → Int → Int → List Int → Int → Option (Int × ByteArray × ByteArray × Int × Int × Int × (List (S93)) × (List (S93)) × (List (S48)) × ByteArray × ByteArray × Int)
 | 0, _, _, _, _, _ => none
 | k + 1, x5, x6, x7, x1000, x1001 => if x7 < (x5.length : Int) then (if 0 ≤ x6 then (if x6 < (x5.length : Int) then (if (((rd_T82 x5 x6).f1).length : Int) = 0 then (if (x5.length : Int) = 0 then (none) else (spec_l20Paid.l0 k x5 (Int.tmod (wrap64 (x6 + 1)) (x5.length : Int)) (wrap64 (x7 + 1)) x1000 x1001)) else (spec_l20Paid.j1 k x5 x6 x1000 x1001)) else (none)) else (none)) else (spec_l20Paid.j1 k x5 x6 x1000 x1001)
end
def spec_l20Paid.f (k : Nat) (s0_0 : List Int) (s0_1 : Int) : Option (Int × ByteArray × ByteArray × Int × Int × Int × (List (S93)) × (List (S93)) × (List (S48)) × ByteArray × ByteArray × Int) := (spec_l20Rd_pick.f k s0_0 s0_1 8).bind fun bt454 => ((spec_l20Chain.f k s0_0 bt454.2 (([] : List (S82))) (wrap64 (1 + bt454.1))).bind fun bt456 => ((spec_l20Rd_pick.f k s0_0 bt456.2 (bt456.1.length : Int)).bind fun bt460 => (spec_l20Paid.l0 k bt456.1 bt460.1 0 s0_0 bt460.2)))
theorem spec_l20Paid.mono_l : ∀ k, (∀ y0 y1 y2 y3, LeO (spec_l20Paid.j1 k y0 y1 y2 y3) (spec_l20Paid.j1 (k + 1) y0 y1 y2 y3)) ∧ (∀ y0 y1 y2 y3 y4, LeO (spec_l20Paid.l0 k y0 y1 y2 y3 y4) (spec_l20Paid.l0 (k + 1) y0 y1 y2 y3 y4))
 | 0 => ⟨fun _ _ _ _ r h => by simp [spec_l20Paid.j1] at h, fun _ _ _ _ _ r h => by simp [spec_l20Paid.l0] at h⟩
 | k + 1 => by
  obtain ⟨ih0, ih1⟩ := spec_l20Paid.mono_l k
  refine ⟨?_, ?_⟩
  ·intro y0 y1 y2 y3
   unfold spec_l20Paid.j1
   exact mo8 ih0 ih1 spec_l20Chain.mono spec_l20Rd_pick.mono spec_l4Heads.mono spec_l5Of.mono spec_l5Root.mono spec_l9Of.mono
  ·intro y0 y1 y2 y3 y4
   unfold spec_l20Paid.l0
   exact mo8 ih0 ih1 spec_l20Chain.mono spec_l20Rd_pick.mono spec_l4Heads.mono spec_l5Of.mono spec_l5Root.mono spec_l9Of.mono
theorem spec_l20Paid.mono : ∀ a0 a1 k, LeO (spec_l20Paid.f k a0 a1) (spec_l20Paid.f (k + 1) a0 a1) := by
 intro a0 a1 k
 obtain ⟨ih0, ih1⟩ := spec_l20Paid.mono_l k
 unfold spec_l20Paid.f
 exact mo8 ih0 ih1 spec_l20Chain.mono spec_l20Rd_pick.mono spec_l4Heads.mono spec_l5Of.mono spec_l5Root.mono spec_l9Of.mono
def spec_l20Paid.T11 : Bool × List (List Nat × List Nat) := (true, [([], []), ([], []), ([], []), ([0, 1, 2], [0, 1, 2]), ([], []), ([], []), ([4, 5], [4, 5]), ([6], [6]), ([7], [7]), ([], []), ([8, 9], [8, 9]), ([10], [10]), ([], []), ([3, 3, 0, 1, 2, 3], [3]), ([11, 13, 0, 1, 2, 3, 4, 5, 6, 7, 8, 9, 10, 11, 13], [11]), ([12, 14, 0, 1, 2, 3, 4, 5, 6, 7, 8, 9, 10, 11, 12, 13, 14], [12])])
def spec_l20Paid.B11 : List Nat := [0, 0, 0, 7, 0, 0, 48, 112, 240, 0, 1008, 2032, 0, 15, 12287, 32767]
theorem spec_l20Paid.tab11 : rtab .any (opsOf Tryz.f14 11) = spec_l20Paid.T11 := by kernel_rfl
theorem spec_l20Paid.bits11 : waitsOk spec_l20Paid.T11.2 spec_l20Paid.B11 = true := by kernel_rfl
theorem spec_l20Paid.calls (k : Nat) (g : Nat) (s0_0 : List Int) (s0_1 : Int) (r1 : Int) (r2 : ByteArray) (r3 : ByteArray) (r4 : Int) (r5 : Int) (r6 : Int) (r7 : List (S93)) (r8 : List (S93)) (r9 : List (S48)) (r10 : ByteArray) (r11 : ByteArray) (r12 : Int) (w0 w : World) (hI : IsS78 w0 w g s0_0 s0_1) (hB : Below w0.heap.size w0 w) (h : spec_l20Paid.f k s0_0 s0_1 = some (r1, r2, r3, r4, r5, r6, r7, r8, r9, r10, r11, r12)) :
  Calls Tryz.prog 14 #[.pointer (some ⟨g, 0, none⟩)] w fun e w' => ∃ v6_ v7_ v8_ : Value, e = .returned (.tuple #[.agg #[.int .i64 r1, .string r2, .string r3, .int .i64 r4, .int .i64 r5, .int .i64 r6, v6_, v7_, v8_], .string r10, .string r11]) ∧ Kd.R k93 93 w' w.heap.size (fun k_ => some k_ ≠ (v7_ : Value).ownBlock) v6_ r7 ∧ Kd.R k93 93 w' w.heap.size (fun k_ => some k_ ≠ (v6_ : Value).ownBlock) v7_ r8 ∧ Kd.R k48 48 w' w.heap.size (fun _ => True) v8_ r9 ∧ IsS78 w0 w' g s0_0 r12 ∧ Below w0.heap.size w0 w' ∧ KeepBut w w' g none := by
 have hu30 := Tryz.underlying30
 have HI0 := Aside0.mk hI
 have HK := Aside0.mk (KeepBut.refl w g none)
 have HL := Aside0.mk hB.size
 clear hI
 have HW0 := Aside0.mk hB.size
 have HB := Aside0.mk hB
 clear hB
 have H : ((spec_l20Rd_pick.f k s0_0 s0_1 8).bind fun bt454 => ((spec_l20Chain.f k s0_0 bt454.2 (([] : List (S82))) (wrap64 (1 + bt454.1))).bind fun bt456 => ((spec_l20Rd_pick.f k s0_0 bt456.2 (bt456.1.length : Int)).bind fun bt460 => (spec_l20Paid.l0 k bt456.1 bt460.1 0 s0_0 bt460.2)))) = some (r1, r2, r3, r4, r5, r6, r7, r8, r9, r10, r11, r12) := h
 clear h
 obtain ⟨y451, Ny451⟩ := yA (([] : List (S82)) : List (S82))
 rw [← Ny451.out] at H
 replace H := Option.bind_eq_some_iff.mp H
 obtain ⟨⟨t454, t455⟩, A20, H⟩ := H
 have A2 := Aside0.mk A20
 clear A20
 replace H := Option.bind_eq_some_iff.mp H
 obtain ⟨⟨t456, t459⟩, A30, H⟩ := H
 have A3 := Aside0.mk A30
 clear A30
 replace H := Option.bind_eq_some_iff.mp H
 obtain ⟨⟨t460, t461⟩, A40, H⟩ := H
 have A4 := Aside0.mk A40
 clear A40
 have HC5 := Aside0.mk H
 clear H
 go_enter Tryz.func14, Tryz.ntmps14
 go_upto_block 0 with (first | ((with_reducible refine gate_dst (N := 2) rfl ?_); (try (refine gate_guard (by rfl) ?_; dsimp only)); refine box_event ?hg (N := 2) ?hd (cs := #[.int .i64 0, .string (⟨#[]⟩ : ByteArray), .string (⟨#[]⟩ : ByteArray), .int .i64 0, .int .i64 0, .int .i64 0, .slice none 0 0, .slice none 0 0, .slice none 0 0]) (t := 30) ?hr ?_; (case hd => rfl); (case hg => rfl); (case hr => first | (go_simp; done) | (go_simp; rfl)); intro gb450 hg w6 hbox hb; replace HB := kHi HB hb; have BK450 := am (hbox); have GW450 := gW hg HK; have GE450 := gE HW0 hg HK; replace HK := kK HK hb; have NB0_450 := iN hg HI0; have NB450_0 := iM hg HI0; replace HI0 := iK HI0 hb; clear hb hbox hg) | ((with_reducible refine gate_dst (N := 11) rfl ?_); (try (refine gate_guard (by rfl) ?_; dsimp only)); refine Kd.S_lit k82 _ 82 ?hg (N := 11) ?hd (xs := ([] : List (S82))) (inner := []) (ok := fun _ => True) (okp := fun _ => True) ?hr ?hp (fun _ hk => hk) trivial (Below.refl _ _) (Nat.le_refl _) (by simp) ?_; (case hd => rfl); (case hg => rfl); (case hr => first | (go_simp; done) | (go_simp; rfl)); (case hp => exact xP); intro v452 w7 ho8 hb hg_ hnew_; clear hg_ hnew_; (first | rw [← Ny451.out] at ho8 | (simp only [Int.reduceToNat] at ho8; rw [← Ny451.out] at ho8)); have HO453 := am (Kd.S_lower ho8 (xZ HK)); replace BK450 := kP _ BK450 hb; replace HK := kK HK hb; replace HB := kHi HB hb; replace HI0 := iK HI0 hb; clear hb ho8) | ((with_reducible refine gg ?_); first | (refine gL 13 Tryz.func15 #[.pointer (some ⟨g, 0, none⟩), .int .i64 8] ?_; (with_reducible refine (spec_l20Rd_pick.calls k g s0_0 s0_1 8 t454 t455 w0 _ ?side1 ?side2 A2.out).mono ?_); (case side1 => exact iX HI0); (case side2 => exact xBi HB); rintro e w9 ⟨rfl, hi, hb, hk⟩; refine ⟨_, rfl, ?_⟩; replace BK450 := am (KeepBut.blk hk (g' := gb450) (o := .cells #[.int .i64 0, .string (⟨#[]⟩ : ByteArray), .string (⟨#[]⟩ : ByteArray), .int .i64 0, .int .i64 0, .int .i64 0, .slice none 0 0, .slice none 0 0, .slice none 0 0] 30 (0, 0)) (kb BK450) NB450_0.out (by simp)); replace HO453 := am (Kd.S_mono (Kd.S_keep (IsS78.apartS (show IsS78 w0 _ g s0_0 s0_1 from iX HI0) (sx HO453) (by decide)) hk (fun _ h => h.2)) (fun _ h => h.1)); replace HK := kT HK hk; replace HB := am (hb); replace HI0 := am (hi); (try clear hb); obtain ⟨Ao10, co10, eo10⟩ := Kd.S_slice HO453.out; subst eo10) | (refine gL 15 Tryz.func41 #[.pointer (some ⟨g, 0, none⟩), .slice Ao10 y451.length co10, .int .i64 (wrap64 (1 + t454))] ?_; (with_reducible refine (spec_l20Chain.calls k g s0_0 t455 (fun k_ => ((True ∧ k_ ≠ gb450) ∧ k_ ≠ g)) _ _ y451 (wrap64 (1 + t454)) t456 t459 w0 _ ?side1 ?side2 ?side3 A3.out).mono ?_); (case side1 => exact iX HI0); (case side2 => exact xBi HB); (case side3 => exact Kd.V_mono (Kd.S_V (IsS78.apartS HI0.out (Kd.S_types (HO453.out) BK450.out (by decide)) (by decide))) (fun k_ hk_ => ⟨hk_, hk_.2⟩)); rintro e w11 ⟨v457, rfl, ho0, hi, hb, hk⟩; refine ⟨_, rfl, ?_⟩; replace HO453 := am (Kd.S_mono (Kd.S_keep (IsS78.apartS (show IsS78 w0 _ g s0_0 t455 from iX HI0) (sx HO453) (by decide)) hk (fun _ h => h.2)) (fun _ h => h.1)); have HO458 := am (Kd.V_lower (Kd.V_mono (ok' := fun k_ => k_ ≠ gb450 ∧ k_ ≠ g) ho0 (fun k_ hk_ => ⟨Or.elim hk_ (fun hs_ => hs_.1.2) (fun hn_ => (Kd.freshB (g := gb450) (o := .cells #[.int .i64 0, .string (⟨#[]⟩ : ByteArray), .string (⟨#[]⟩ : ByteArray), .int .i64 0, .int .i64 0, .int .i64 0, .slice none 0 0, .slice none 0 0, .slice none 0 0] 30 (0, 0)) (kb BK450) k_ hn_)), Or.elim hk_ (fun hs_ => hs_.2) (fun hn_ => (IsS78.fresh (iX HI0) k_ hn_))⟩)) (xZ HK)); replace BK450 := am (KeepBut.blk hk (g' := gb450) (o := .cells #[.int .i64 0, .string (⟨#[]⟩ : ByteArray), .string (⟨#[]⟩ : ByteArray), .int .i64 0, .int .i64 0, .int .i64 0, .slice none 0 0, .slice none 0 0, .slice none 0 0] 30 (0, 0)) (kb BK450) NB450_0.out (by simp)); replace HK := kT HK hk; replace HB := am (hb); replace HI0 := am (hi); (try clear hb); (try clear ho0); obtain ⟨Ao12, co12, eo12⟩ := Kd.V_slice HO458.out; subst eo12) | (refine gL 19 Tryz.func15 #[.pointer (some ⟨g, 0, none⟩), .int .i64 (t456.length : Int)] ?_; (with_reducible refine (spec_l20Rd_pick.calls k g s0_0 t459 (t456.length : Int) t460 t461 w0 _ ?side1 ?side2 A4.out).mono ?_); (case side1 => exact iX HI0); (case side2 => exact xBi HB); rintro e w13 ⟨rfl, hi, hb, hk⟩; refine ⟨_, rfl, ?_⟩; replace BK450 := am (KeepBut.blk hk (g' := gb450) (o := .cells #[.int .i64 0, .string (⟨#[]⟩ : ByteArray), .string (⟨#[]⟩ : ByteArray), .int .i64 0, .int .i64 0, .int .i64 0, .slice none 0 0, .slice none 0 0, .slice none 0 0] 30 (0, 0)) (kb BK450) NB450_0.out (by simp)); replace HO453 := am (Kd.S_mono (Kd.S_keep (IsS78.apartS (show IsS78 w0 _ g s0_0 t459 from iX HI0) (sx HO453) (by decide)) hk (fun _ h => h.2)) (fun _ h => h.1)); replace HO458 := am (Kd.V_mono (Kd.V_keep (Kd.V_mono (ok := fun k_ => (k_ ≠ gb450 ∧ k_ ≠ g)) (va HO458) (fun k_ hk_ => (⟨hk_, hk_.2⟩ : _ ∧ k_ ≠ g))) hk (fun _ h => h.2)) (fun _ h => h.1)); replace HK := kT HK hk; replace HB := am (hb); replace HI0 := am (hi); (try clear hb))))
 (try simp only [Act.put, sa, s0, s1])
 go_cut [6] (fun v6 wc => ∃ (kq : Nat) (x6_4 : Int), v6 = .int .i64 x6_4 ∧ Aside0 (spec_l20Paid.j1 kq t456 x6_4 s0_0 t461 = some (r1, r2, r3, r4, r5, r6, r7, r8, r9, r10, r11, r12)) ∧ Aside0 (kq ≤ k) ∧ Aside0 (Kd.V k82 82 wc w.heap.size (fun k_ => k_ ≠ gb450 ∧ k_ ≠ g) (.slice Ao12 t456.length co12) t456) ∧ Aside0 (wc.heap[gb450]? = some (.cells #[.int .i64 0, .string (⟨#[]⟩ : ByteArray), .string (⟨#[]⟩ : ByteArray), .int .i64 0, .int .i64 0, .int .i64 0, (.slice none 0 0), (.slice none 0 0), (.slice none 0 0)] 30 (0, 0))) ∧ Aside0 (IsS78 w0 wc g s0_0 t461) ∧ Aside0 (KeepBut w wc g none) ∧ Aside0 (Below w0.heap.size w0 wc))
 case first =>
  have H := HC5.out
  clear HC5
  have H' := Aside0.mk H
  clear H
  go_wp2
  go_loopg [6, 7] k (fun kq v6 v7 w' => ∃ (x6_1 : Int) (x7_1 : Int), v6 = .int .i64 x6_1 ∧ v7 = .int .i64 x7_1 ∧ Aside0 (spec_l20Paid.l0 kq t456 x6_1 x7_1 s0_0 t461 = some (r1, r2, r3, r4, r5, r6, r7, r8, r9, r10, r11, r12)) ∧ Aside0 (kq ≤ k) ∧ Aside0 (Kd.V k82 82 w' w.heap.size (fun k_ => k_ ≠ gb450 ∧ k_ ≠ g) (.slice Ao12 t456.length co12) t456) ∧ Aside0 (w'.heap[gb450]? = some (.cells #[.int .i64 0, .string (⟨#[]⟩ : ByteArray), .string (⟨#[]⟩ : ByteArray), .int .i64 0, .int .i64 0, .int .i64 0, (.slice none 0 0), (.slice none 0 0), (.slice none 0 0)] 30 (0, 0))) ∧ Aside0 (IsS78 w0 w' g s0_0 t461) ∧ Aside0 (KeepBut w w' g none) ∧ Aside0 (Below w0.heap.size w0 w'))
  case atStart => exact ⟨(t460), (0), xR, xR, H', ⟨Nat.le_refl _⟩, ⟨va HO458⟩, ⟨kb BK450⟩, ⟨iX HI0⟩, ⟨xK HK⟩, ⟨xBi HB⟩⟩
  case round =>
   clear H'
   try clear c1
   try clear p2
   try clear c4
   try clear p6
   obtain ⟨x6_1, x7_1, rfl, rfl, HA, HK1, HO_5, BK450, HI0, HK, HB⟩ := hrel
   cases gk with
   | zero => exact absurd HA.out (by simp [spec_l20Paid.l0])
   | succ k1 =>
    have H := HA.out
    clear HA
    simp only [spec_l20Paid.l0] at H
    by_cases c14 : x7_1 < (t456.length : Int)
    rotate_left
    ·rw [if_neg c14] at H
     have c14b0 := decide_eq_false c14
     clear c14
     (first | rw [c14b0] | rw [c14b1] | (simp only [i64_w, i32_w]; rw [c14b0]) | skip)
     have H' := Aside0.mk H
     clear H
     go_wp2
     go_meet
     case rel => exact ⟨_, (x6_1), xR, H', ⟨xL HK1⟩, ⟨va HO_5⟩, ⟨kb BK450⟩, ⟨iX HI0⟩, ⟨xK HK⟩, ⟨xBi HB⟩⟩
    rw [if_pos c14] at H
    have c14b0 := decide_eq_true c14
    clear c14
    (first | rw [c14b0] | rw [c14b1] | (simp only [i64_w, i32_w]; rw [c14b0]) | skip)
    replace H := ipd H
    obtain ⟨c15b0, H⟩ := H
    replace H := ipd H
    obtain ⟨c16b0, H⟩ := H
    have p462 : 0 ≤ (x6_1 : Int) := of_decide_eq_true xA
    have q462 : x6_1 < (t456.length : Int) := of_decide_eq_true xA
    obtain ⟨ad462, A462_5, c462_5, e462, hx462_0, hx462_1, hx462_2, hx462_3, hx462_4, hx462_5, hl462_5, hi462_5⟩ := at_T82 (Kd.V_reads' HO_5.out).2.2 x6_1 p462 q462
    cases e462
    obtain ⟨ce462, hce462, hMe462, hcc462⟩ := Kd.V_get HO_5.out z82 x6_1 p462 (by first | exact q462 | exact of_decide_eq_true xA | (have e_ := (Kd.V_reads' HO_5.out).1; omega))
    obtain ⟨ua462_5, uc462_5, rfl, ul462_5, ge462_5⟩ := k82_openF hMe462
    have hv462_5 := hcc462 5 _ rfl
    rw [add_field _ _ 5 (by omega)] at hv462_5
    replace hv462_5 := Option.some.inj (hv462_5.symm.trans hx462_5)
    injection hv462_5 with hva_ hvn_ hvc_
    rw [hva_] at ge462_5
    rw [hvc_] at ul462_5
    have HL462_5 := Aside0.mk (show Kd.V Kd.string 9 _ w.heap.size _ _ ((rd_T82 t456 x6_1).f1) from Kd.V_mk ul462_5 ge462_5)
    clear hva_ hvn_ hvc_ ge462_5 ul462_5
    clear hcc462 hce462
    have HR462_5 := Aside0.mk hi462_5
    have HC462_5 := Aside0.mk hl462_5
    clear hi462_5 hl462_5
    replace p462 := eq_true p462
    replace q462 := eq_true q462
    by_cases c17 : (((rd_T82 t456 x6_1).f1).length : Int) = 0
    rotate_left
    ·rw [if_neg c17] at H
     have c17b0 := beq_eq_false_iff_ne.mpr c17
     have c17b1 := bne_iff_ne.mpr c17
     have c17b2 : ¬ (((rd_T82 t456 x6_1).f1) = []) := fun h_ => c17 (by rw [h_]; rfl)
     have H' := Aside0.mk H
     clear H
     go_wp2
     go_meet
     case rel => exact ⟨_, (x6_1), xR, H', ⟨xL HK1⟩, ⟨va HO_5⟩, ⟨kb BK450⟩, ⟨iX HI0⟩, ⟨xK HK⟩, ⟨xBi HB⟩⟩
    rw [if_pos c17] at H
    have c17b0 := beq_iff_eq.mpr c17
    have c17b1 := bne_eq_false_iff_eq.mpr c17
    clear c17
    replace H := iq H
    obtain ⟨c18, H⟩ := H
    have c18b0 := beq_eq_false_iff_ne.mpr c18
    have c18b1 := bne_iff_ne.mpr c18
    have c18b2 : ¬ (t456 = []) := fun h_ => c18 (by rw [h_]; rfl)
    have H' := Aside0.mk H
    clear H
    go_wp2
    go_roundg k1
    case measure => have := HK1.out; omega
    case rel => exact ⟨(Int.tmod (wrap64 (x6_1 + 1)) (t456.length : Int)), (wrap64 (x7_1 + 1)), xR, xR, H', ⟨xL HK1⟩, ⟨va HO_5⟩, ⟨kb BK450⟩, ⟨iX HI0⟩, ⟨xK HK⟩, ⟨xBi HB⟩⟩
 case rest =>
  clear HC5
  try clear c1
  try clear p2
  try clear c4
  try clear p4
  try clear q4
  try clear hx4
  try clear p6
  try clear c14
  try clear c14b0
  try clear c15
  try clear c15b0
  try clear c16
  try clear c16b0
  try clear c17
  try clear c17b0
  try clear c17b1
  try clear c17b2
  try clear c18
  try clear c18b0
  try clear c18b1
  try clear c18b2
  try clear hx462_0
  try clear hx462_1
  try clear hx462_2
  try clear hx462_3
  try clear hx462_4
  try clear hx462_5
  try clear p2
  try clear p462
  try clear p6
  try clear q462
  obtain ⟨kq, x6_4, rfl, HA, HJ4, HO_5, BK450, HI0, HK, HB⟩ := hcut
  cases kq with
  | zero => exact absurd HA.out (by simp [spec_l20Paid.j1])
  | succ kj4 =>
   have H := HA.out
   clear HA
   simp only [spec_l20Paid.j1] at H
   replace H := oa H
   obtain ⟨t463, A19, H⟩ := H
   replace H := oa H
   obtain ⟨t466, A20, H⟩ := H
   replace H := oa H
   obtain ⟨t469, A21, H⟩ := H
   replace H := ipd H
   obtain ⟨c22b0, H⟩ := H
   replace H := ipd H
   obtain ⟨c23b0, H⟩ := H
   by_cases c24 : (((rd_T82 t456 x6_4).f1).length : Int) = 0
   ·rw [if_pos c24] at H
    have c24b0 := beq_iff_eq.mpr c24
    have c24b1 := bne_eq_false_iff_eq.mpr c24
    clear c24
    simp only [Option.some.injEq, Prod.mk.injEq] at H
    obtain ⟨rfl, rfl, rfl, rfl, rfl, rfl, rfl, rfl, rfl, rfl, rfl, rfl⟩ := H
    go_wp2_with ((with_reducible refine gg ?_); first | (refine gL 41 Tryz.func44 #[.slice Ao12 t456.length co12] ?_; (with_reducible refine (spec_l4Heads.calls kj4 _ _ t456 t463 _ ?side1 ?side2 A19.out).mono ?_); (case side1 => exact cr (Kd.V_reads' HO_5.out).2.2); (case side2 => exact (Kd.V_reads' HO_5.out).2.1); rintro e w25 ⟨v464, rfl, ho0, hb⟩; refine ⟨_, rfl, ?_⟩; replace HO_5 := am (Kd.V_elder' (va HO_5) (Kd.R_base ho0) hb); have HO465 := am (Kd.R_lower ho0 (xZ HK)); replace BK450 := kP _ BK450 hb; replace HK := kK HK hb; replace HB := kHi HB hb; replace HI0 := iK HI0 hb; (try clear hb); (try clear ho0); obtain ⟨Ao26, co26, eo26⟩ := Kd.R_slice HO465.out; subst eo26) | (refine gL 42 Tryz.func43 #[.slice Ao26 t463.length co26] ?_; (with_reducible refine (spec_l5Of.calls kj4 _ _ t463 t466 _ ?side1 ?side2 A20.out).mono ?_); (case side1 => exact cr (Kd.R_reads' HO465.out).2.2); (case side2 => exact sl HO465); rintro e w27 ⟨v467, rfl, ho0, hb⟩; refine ⟨_, rfl, ?_⟩; replace HO_5 := am (Kd.V_elder' (va HO_5) (Kd.R_base ho0) hb); replace HO465 := rk HO465 hb; have HO468 := am (Kd.R_lower ho0 (xZ HK)); replace BK450 := kP _ BK450 hb; replace HK := kK HK hb; replace HB := kHi HB hb; replace HI0 := iK HI0 hb; (try clear hb); (try clear ho0); obtain ⟨Ao28, co28, eo28⟩ := Kd.R_slice HO468.out; subst eo28) | (refine gL 43 Tryz.func42 #[.slice Ao28 t466.length co28] ?_; (with_reducible refine (spec_l5Root.calls kj4 _ _ t466 t469 _ ?side1 ?side2 A21.out).mono ?_); (case side1 => exact cr (Kd.R_reads' HO468.out).2.2); (case side2 => exact sl HO468); rintro e w29 ⟨rfl, hb⟩; refine ⟨_, rfl, ?_⟩; replace HO_5 := am (Kd.V_below (va HO_5) hb); replace HO465 := rk HO465 hb; replace HO468 := rk HO468 hb; replace BK450 := kP _ BK450 hb; replace HK := kK HK hb; replace HB := kHi HB hb; replace HI0 := iK HI0 hb; (try clear hb); have p470 : 0 ≤ (x6_4 : Int) := of_decide_eq_true xA; have q470 : x6_4 < (t456.length : Int) := of_decide_eq_true xA; obtain ⟨ad470, A470_5, c470_5, e470, hx470_0, hx470_1, hx470_2, hx470_3, hx470_4, hx470_5, hl470_5, hi470_5⟩ := at_T82 (Kd.V_reads' HO_5.out).2.2 x6_4 p470 q470; cases e470; obtain ⟨ce470, hce470, hMe470, hcc470⟩ := Kd.V_get HO_5.out z82 x6_4 p470 (by first | exact q470 | exact of_decide_eq_true xA | (have e_ := (Kd.V_reads' HO_5.out).1; omega)); obtain ⟨ua470_5, uc470_5, rfl, ul470_5, ge470_5⟩ := k82_openF hMe470; have hv470_5 := hcc470 5 _ rfl; rw [add_field _ _ 5 (by omega)] at hv470_5; replace hv470_5 := Option.some.inj (hv470_5.symm.trans hx470_5); injection hv470_5 with hva_ hvn_ hvc_; rw [hva_] at ge470_5; rw [hvc_] at ul470_5; have HL470_5 := Aside0.mk (show Kd.V Kd.string 9 _ w.heap.size _ _ ((rd_T82 t456 x6_4).f1) from Kd.V_mk ul470_5 ge470_5); clear hva_ hvn_ hvc_ ge470_5 ul470_5; clear hcc470 hce470; have HR470_5 := Aside0.mk hi470_5; have HC470_5 := Aside0.mk hl470_5; clear hi470_5 hl470_5; replace p470 := eq_true p470; replace q470 := eq_true q470; have hnb30 := NB450_0.out; have hnc30 := NB0_450.out; have hz31 := bc9 BK450))
    refine bodyPost_ret (results_ctt rfl _ _ gb450 30 #[.int .i64 0, .string (⟨#[]⟩ : ByteArray), .string (⟨#[]⟩ : ByteArray), .int .i64 0, .int .i64 0, .int .i64 0, .slice none 0 0, .slice none 0 0, .slice none 0 0] (0, 0) _ rfl (fb BK450) Tryz.underlying30 rfl (by kernel_rfl)) rfl ?_
    exact ⟨_, _, _, xE, xN, xN, xN, iX HI0, xBi HB, xK HK⟩
   rw [if_neg c24] at H
   have c24b0 := beq_eq_false_iff_ne.mpr c24
   have c24b1 := bne_iff_ne.mpr c24
   have c24b2 : ¬ (((rd_T82 t456 x6_4).f1) = []) := fun h_ => c24 (by rw [h_]; rfl)
   replace H := Option.bind_eq_some_iff.mp H
   obtain ⟨⟨t472, t473⟩, A320, H⟩ := H
   have A32 := Aside0.mk A320
   clear A320
   replace H := Option.bind_eq_some_iff.mp H
   obtain ⟨⟨t474, t475, t476, t477, t478, t479, t480, t483, t486⟩, A330, H⟩ := H
   have A33 := Aside0.mk A330
   clear A330
   replace H := ipd H
   obtain ⟨c34b0, H⟩ := H
   replace H := ipd H
   obtain ⟨c35b0, H⟩ := H
   simp only [Option.some.injEq, Prod.mk.injEq] at H
   obtain ⟨rfl, rfl, rfl, rfl, rfl, rfl, rfl, rfl, rfl, rfl, rfl, rfl⟩ := H
   try go_wp2_with ((with_reducible refine gg ?_); first | (refine gL 41 Tryz.func44 #[.slice Ao12 t456.length co12] ?_; (with_reducible refine (spec_l4Heads.calls kj4 _ _ t456 t463 _ ?side1 ?side2 A19.out).mono ?_); (case side1 => exact cr (Kd.V_reads' HO_5.out).2.2); (case side2 => exact (Kd.V_reads' HO_5.out).2.1); rintro e w36 ⟨v464, rfl, ho0, hb⟩; refine ⟨_, rfl, ?_⟩; replace HO_5 := am (Kd.V_elder' (va HO_5) (Kd.R_base ho0) hb); have HO465 := am (Kd.R_lower ho0 (xZ HK)); replace BK450 := kP _ BK450 hb; replace HK := kK HK hb; replace HB := kHi HB hb; replace HI0 := iK HI0 hb; (try clear hb); (try clear ho0); obtain ⟨Ao37, co37, eo37⟩ := Kd.R_slice HO465.out; subst eo37) | (refine gL 42 Tryz.func43 #[.slice Ao37 t463.length co37] ?_; (with_reducible refine (spec_l5Of.calls kj4 _ _ t463 t466 _ ?side1 ?side2 A20.out).mono ?_); (case side1 => exact cr (Kd.R_reads' HO465.out).2.2); (case side2 => exact sl HO465); rintro e w38 ⟨v467, rfl, ho0, hb⟩; refine ⟨_, rfl, ?_⟩; replace HO_5 := am (Kd.V_elder' (va HO_5) (Kd.R_base ho0) hb); replace HO465 := rk HO465 hb; have HO468 := am (Kd.R_lower ho0 (xZ HK)); replace BK450 := kP _ BK450 hb; replace HK := kK HK hb; replace HB := kHi HB hb; replace HI0 := iK HI0 hb; (try clear hb); (try clear ho0); obtain ⟨Ao39, co39, eo39⟩ := Kd.R_slice HO468.out; subst eo39) | (refine gL 43 Tryz.func42 #[.slice Ao39 t466.length co39] ?_; (with_reducible refine (spec_l5Root.calls kj4 _ _ t466 t469 _ ?side1 ?side2 A21.out).mono ?_); (case side1 => exact cr (Kd.R_reads' HO468.out).2.2); (case side2 => exact sl HO468); rintro e w40 ⟨rfl, hb⟩; refine ⟨_, rfl, ?_⟩; replace HO_5 := am (Kd.V_below (va HO_5) hb); replace HO465 := rk HO465 hb; replace HO468 := rk HO468 hb; replace BK450 := kP _ BK450 hb; replace HK := kK HK hb; replace HB := kHi HB hb; replace HI0 := iK HI0 hb; (try clear hb); have p470 : 0 ≤ (x6_4 : Int) := of_decide_eq_true xA; have q470 : x6_4 < (t456.length : Int) := of_decide_eq_true xA; obtain ⟨ad470, A470_5, c470_5, e470, hx470_0, hx470_1, hx470_2, hx470_3, hx470_4, hx470_5, hl470_5, hi470_5⟩ := at_T82 (Kd.V_reads' HO_5.out).2.2 x6_4 p470 q470; cases e470; obtain ⟨ce470, hce470, hMe470, hcc470⟩ := Kd.V_get HO_5.out z82 x6_4 p470 (by first | exact q470 | exact of_decide_eq_true xA | (have e_ := (Kd.V_reads' HO_5.out).1; omega)); obtain ⟨ua470_5, uc470_5, rfl, ul470_5, ge470_5⟩ := k82_openF hMe470; have hv470_5 := hcc470 5 _ rfl; rw [add_field _ _ 5 (by omega)] at hv470_5; replace hv470_5 := Option.some.inj (hv470_5.symm.trans hx470_5); injection hv470_5 with hva_ hvn_ hvc_; rw [hva_] at ge470_5; rw [hvc_] at ul470_5; have HL470_5 := Aside0.mk (show Kd.V Kd.string 9 _ w.heap.size _ _ ((rd_T82 t456 x6_4).f1) from Kd.V_mk ul470_5 ge470_5); clear hva_ hvn_ hvc_ ge470_5 ul470_5; clear hcc470 hce470; have HR470_5 := Aside0.mk hi470_5; have HC470_5 := Aside0.mk hl470_5; clear hi470_5 hl470_5; replace p470 := eq_true p470; replace q470 := eq_true q470; have p471 : 0 ≤ (x6_4 : Int) := of_decide_eq_true xA; have q471 : x6_4 < (t456.length : Int) := of_decide_eq_true xA; obtain ⟨ad471, A471_5, c471_5, e471, hx471_0, hx471_1, hx471_2, hx471_3, hx471_4, hx471_5, hl471_5, hi471_5⟩ := at_T82 (Kd.V_reads' HO_5.out).2.2 x6_4 p471 q471; obtain rfl : ad470 = ad471 := (by injection e471); obtain ⟨ce471, hce471, hMe471, hcc471⟩ := Kd.V_get HO_5.out z82 x6_4 p471 (by first | exact q471 | exact of_decide_eq_true xA | (have e_ := (Kd.V_reads' HO_5.out).1; omega)); obtain ⟨ua471_5, uc471_5, rfl, ul471_5, ge471_5⟩ := k82_openF hMe471; have hv471_5 := hcc471 5 _ rfl; rw [add_field _ _ 5 (by omega)] at hv471_5; replace hv471_5 := Option.some.inj (hv471_5.symm.trans hx471_5); injection hv471_5 with hva_ hvn_ hvc_; rw [hva_] at ge471_5; rw [hvc_] at ul471_5; have HL471_5 := Aside0.mk (show Kd.V Kd.string 9 _ w.heap.size _ _ ((rd_T82 t456 x6_4).f1) from Kd.V_mk ul471_5 ge471_5); clear hva_ hvn_ hvc_ ge471_5 ul471_5; clear hcc471 hce471; have HR471_5 := Aside0.mk hi471_5; have HC471_5 := Aside0.mk hl471_5; clear hi471_5 hl471_5; replace p471 := eq_true p471; replace q471 := eq_true q471; have ea_ := Option.some.inj (hx470_5.symm.trans hx471_5); injection ea_ with ea_ en_ ec_; subst ea_; subst ec_; clear en_) | (refine gL 60 Tryz.func15 #[.pointer (some ⟨g, 0, none⟩), .int .i64 (((rd_T82 t456 x6_4).f1).length : Int)] ?_; (with_reducible refine (spec_l20Rd_pick.calls kj4 g s0_0 t461 (((rd_T82 t456 x6_4).f1).length : Int) t472 t473 w0 _ ?side1 ?side2 A32.out).mono ?_); (case side1 => exact iX HI0); (case side2 => exact xBi HB); rintro e w41 ⟨rfl, hi, hb, hk⟩; refine ⟨_, rfl, ?_⟩; replace HO_5 := am (Kd.V_mono (Kd.V_keep (Kd.V_mono (ok := fun k_ => (((k_ ≠ gb450 ∧ k_ ≠ g) ∧ some k_ ≠ (.slice Ao37 t463.length co37 : Value).ownBlock) ∧ some k_ ≠ (.slice Ao39 t466.length co39 : Value).ownBlock)) (va HO_5) (fun k_ hk_ => (⟨hk_, hk_.1.1.2⟩ : _ ∧ k_ ≠ g))) hk (fun _ h => h.2)) (fun _ h => h.1)); replace BK450 := am (KeepBut.blk hk (g' := gb450) (o := .cells #[.int .i64 0, .string (⟨#[]⟩ : ByteArray), .string (⟨#[]⟩ : ByteArray), .int .i64 0, .int .i64 0, .int .i64 0, .slice none 0 0, .slice none 0 0, .slice none 0 0] 30 (0, 0)) (kb BK450) NB450_0.out (by simp)); replace HO465 := iR HI0 HO465 hk; replace HO468 := iR HI0 HO468 hk; replace HL470_5 := am (Kd.V_mono (Kd.V_keep (Kd.V_mono (ok := fun k_ => (((k_ ≠ gb450 ∧ k_ ≠ g) ∧ some k_ ≠ (.slice Ao37 t463.length co37 : Value).ownBlock) ∧ some k_ ≠ (.slice Ao39 t466.length co39 : Value).ownBlock)) (by (with_reducible repeat (first | apply Kd.V_alloc | apply Kd.V_drewN | apply Kd.V_drew)); exact HL470_5.out) (fun k_ hk_ => (⟨hk_, hk_.1.1.2⟩ : _ ∧ k_ ≠ g))) hk (fun _ h => h.2)) (fun _ h => h.1)); replace HL471_5 := am (Kd.V_mono (Kd.V_keep (Kd.V_mono (ok := fun k_ => (((k_ ≠ gb450 ∧ k_ ≠ g) ∧ some k_ ≠ (.slice Ao37 t463.length co37 : Value).ownBlock) ∧ some k_ ≠ (.slice Ao39 t466.length co39 : Value).ownBlock)) (by (with_reducible repeat (first | apply Kd.V_alloc | apply Kd.V_drewN | apply Kd.V_drew)); exact HL471_5.out) (fun k_ hk_ => (⟨hk_, hk_.1.1.2⟩ : _ ∧ k_ ≠ g))) hk (fun _ h => h.2)) (fun _ h => h.1)); replace HK := kT HK hk; replace HB := am (hb); replace HI0 := am (hi); (try clear hb)))
   replace HO_5 := am (Kd.V_drew HO_5.out)
   replace HO465 := am (Kd.R_drew HO465.out)
   replace HO468 := am (Kd.R_drew HO468.out)
   replace HL470_5 := am (Kd.V_drew HL470_5.out)
   replace HL471_5 := am (Kd.V_drew HL471_5.out)
   replace BK450 := am (blk_drew BK450.out)
   replace HI0 := am (IsS78.drew HI0.out)
   replace HK := am (keep_drew HK.out)
   replace HB := am (below_drew1 HB.out)
   have p489 : 0 ≤ (x6_4 : Int) := of_decide_eq_true xA
   have q489 : x6_4 < (t456.length : Int) := of_decide_eq_true xA
   obtain ⟨ad489, A489_5, c489_5, e489, hx489_0, hx489_1, hx489_2, hx489_3, hx489_4, hx489_5, hl489_5, hi489_5⟩ := at_T82 (Kd.V_reads' HO_5.out).2.2 x6_4 p489 q489
   obtain rfl : ad470 = ad489 := (by injection e489)
   obtain ⟨ce489, hce489, hMe489, hcc489⟩ := Kd.V_get HO_5.out z82 x6_4 p489 (by first | exact q489 | exact of_decide_eq_true xA | (have e_ := (Kd.V_reads' HO_5.out).1; omega))
   obtain ⟨ua489_5, uc489_5, rfl, ul489_5, ge489_5⟩ := k82_openF hMe489
   have hv489_5 := hcc489 5 _ rfl
   rw [add_field _ _ 5 (by omega)] at hv489_5
   replace hv489_5 := Option.some.inj (hv489_5.symm.trans hx489_5)
   injection hv489_5 with hva_ hvn_ hvc_
   rw [hva_] at ge489_5
   rw [hvc_] at ul489_5
   have HL489_5 := Aside0.mk (show Kd.V Kd.string 9 _ w.heap.size _ _ ((rd_T82 t456 x6_4).f1) from Kd.V_mk ul489_5 ge489_5)
   clear hva_ hvn_ hvc_ ge489_5 ul489_5
   clear hcc489 hce489
   have HR489_5 := Aside0.mk hi489_5
   have HC489_5 := Aside0.mk hl489_5
   clear hi489_5 hl489_5
   replace p489 := eq_true p489
   replace q489 := eq_true q489
   have p490 : 0 ≤ (t472 : Int) := of_decide_eq_true xA
   have q490 : t472 < (((rd_T82 t456 x6_4).f1).length : Int) := of_decide_eq_true xA
   obtain ⟨ad490, e490, hx490_0⟩ := Kd.at_string (by repeat (first | (with_reducible exact HR489_5.out) | (with_reducible refine Kd.C_alloc ?_ _) | (with_reducible refine Kd.C_drewN ?_ _) | (with_reducible refine Kd.C_drew ?_) | exact HR489_5.out)) t472 p490 q490
   cases e490
   replace p490 := eq_true p490
   replace q490 := eq_true q490
   refine start_ (n := 16) (S := fun w' => w'.cell? (ad470.add ((x6_4).toNat * 6)) = some (.string ((rd_T82 t456 x6_4).f0.f0)) ∧ w'.cell? ⟨(ad470.add ((x6_4).toNat * 6)).block, (ad470.add ((x6_4).toNat * 6)).off + 1, none⟩ = some (.string ((rd_T82 t456 x6_4).f0.f1)) ∧ w'.cell? ⟨(ad470.add ((x6_4).toNat * 6)).block, (ad470.add ((x6_4).toNat * 6)).off + 2, none⟩ = some (.int .i64 ((rd_T82 t456 x6_4).f0.f2)) ∧ w'.cell? ⟨(ad470.add ((x6_4).toNat * 6)).block, (ad470.add ((x6_4).toNat * 6)).off + 3, none⟩ = some (.int .i64 ((rd_T82 t456 x6_4).f0.f3)) ∧ w'.cell? ⟨(ad470.add ((x6_4).toNat * 6)).block, (ad470.add ((x6_4).toNat * 6)).off + 4, none⟩ = some (.int .i64 ((rd_T82 t456 x6_4).f0.f4)) ∧ w'.cell? ⟨(ad470.add ((x6_4).toNat * 6)).block, (ad470.add ((x6_4).toNat * 6)).off + 5, none⟩ = some (.slice (some ad490) ((rd_T82 t456 x6_4).f1).length c489_5) ∧ w'.cell? (ad490.add (t472).toNat) = some (.string (rdOf ByteArray.empty ((rd_T82 t456 x6_4).f1) t472))) (ds := []) (bm 16 0) (by kernel_rfl) rfl rfl ⟨hx489_0, hx489_1, hx489_2, hx489_3, hx489_4, hx489_5, hx490_0⟩ (fun hHeld => ?_); refine with_tabW spec_l20Paid.tab11 spec_l20Paid.bits11 (fun HT_ HW_ => ?_)
   generalize w41.drew = w42 at HO_5 HO465 HO468 HL470_5 HL471_5 BK450 HI0 HK HB HL489_5 HR489_5 hx489_0 hx489_1 hx489_2 hx489_3 hx489_4 hx489_5 hx490_0 hHeld ⊢
   refine pA 0 61 (bm 16 1) HT_ ?_
   refine pA 1 62 (bm 16 3) HT_ ?_
   refine pA 2 63 (bm 16 7) HT_ ?_
   refine pA 4 65 (bm 16 23) HT_ ?_
   refine pA 5 66 (bm 16 55) HT_ ?_
   refine pA 6 67 (bm 16 119) HT_ ?_
   refine pA 7 68 (bm 16 247) HT_ ?_
   refine pA 9 70 (bm 16 759) HT_ ?_
   refine pA 12 73 (bm 16 4855) HT_ ?_
   refine tA 8 69 (bm 16 5111) HT_ HW_ hHeld ?_
   refine pA 10 71 (bm 16 6135) HT_ ?_
   refine tA 11 72 (bm 16 8183) HT_ HW_ hHeld ?_
   refine oA 3 (some 64) (bm 16 8191) HT_ fun K hK => ?_
   refine gA Tryz.func45 #[.slice (some ad470) t456.length co12, .int .i64 x6_4, .int .i64 t472] ?_
   with_reducible refine (spec_l9Of.calls kj4 _ _ t456 x6_4 t472 t474 t475 t476 t477 t478 t479 t480 t483 t486 _ ?side1 ?side2 A33.out).mono ?_
   (case side1 => exact cr (Kd.V_reads' HO_5.out).2.2)
   (case side2 => exact (Kd.V_reads' HO_5.out).2.1)
   rintro e w43 ⟨v481, v484, v487, rfl, ho0, ho1, ho2, hb⟩
   have HS0_ := cB hb hHeld.1
   have HS1_ := cB hb hHeld.2.1
   have HS2_ := cB hb hHeld.2.2.1
   have HS3_ := cB hb hHeld.2.2.2.1
   have HS4_ := cB hb hHeld.2.2.2.2.1
   have HS5_ := cB hb hHeld.2.2.2.2.2.1
   have HS6_ := cB hb hHeld.2.2.2.2.2.2
   refine ⟨_, rfl, ?_⟩
   replace HO_5 := am (Kd.V_mono (Kd.V_told (Kd.V_told (Kd.V_told (Kd.V_old (va HO_5) hb) (Kd.R_base ho0)) (Kd.R_base ho1)) (Kd.R_base ho2)) (fun _ h_ => h_.1))
   replace HO465 := rk HO465 hb
   replace HL470_5 := am (Kd.V_mono (Kd.V_told (Kd.V_told (Kd.V_told (Kd.V_old (by (with_reducible repeat (first | apply Kd.V_alloc | apply Kd.V_drewN | apply Kd.V_drew)); exact HL470_5.out) hb) (Kd.R_base ho0)) (Kd.R_base ho1)) (Kd.R_base ho2)) (fun _ h_ => h_.1))
   replace HL471_5 := am (Kd.V_mono (Kd.V_told (Kd.V_told (Kd.V_told (Kd.V_old (by (with_reducible repeat (first | apply Kd.V_alloc | apply Kd.V_drewN | apply Kd.V_drew)); exact HL471_5.out) hb) (Kd.R_base ho0)) (Kd.R_base ho1)) (Kd.R_base ho2)) (fun _ h_ => h_.1))
   replace HL489_5 := am (Kd.V_mono (Kd.V_told (Kd.V_told (Kd.V_told (Kd.V_old (by (with_reducible repeat (first | apply Kd.V_alloc | apply Kd.V_drewN | apply Kd.V_drew)); exact HL489_5.out) hb) (Kd.R_base ho0)) (Kd.R_base ho1)) (Kd.R_base ho2)) (fun _ h_ => h_.1))
   have HO482 := am (Kd.R_lower (Kd.R_new' ho0 (Kd.R_lt (ra HO468))) (xZ HK))
   have HO485 := am (Kd.R_lower (Kd.R_new' ho1 (Kd.R_lt (ra HO468))) (xZ HK))
   replace HO468 := am (Kd.R_mono (Kd.R_told (Kd.R_told (Kd.R_old (ra HO468) hb) (Kd.R_base ho0)) (Kd.R_base ho1)) (fun _ h_ => h_.1))
   have HO488 := am (Kd.R_lower ho2 (xZ HK))
   replace BK450 := kP _ BK450 hb
   replace HR489_5 := am (Kd.C_below (by repeat (first | (with_reducible exact HR489_5.out) | (with_reducible refine Kd.C_alloc ?_ _) | (with_reducible refine Kd.C_drewN ?_ _) | (with_reducible refine Kd.C_drew ?_) | exact HR489_5.out)) hb)
   replace HK := kK HK hb
   replace HB := kHi HB hb
   replace HI0 := iK HI0 hb
   (try clear hb)
   (try clear hb2)
   (try clear hk)
   (try clear hi)
   (try clear ho0)
   (try clear ho1)
   (try clear ho2)
   obtain ⟨Ao50, co50, eo50⟩ := Kd.R_slice HO482.out
   (first | subst eo50 | (injection eo50 with f1_ f2_ f3_; have f4_ := f1_.symm; have f5_ := f3_.symm; clear f1_ f2_ f3_; subst f4_; subst f5_))
   obtain ⟨Ao52, co52, eo52⟩ := Kd.R_slice HO485.out
   (first | subst eo52 | (injection eo52 with f1_ f2_ f3_; have f4_ := f1_.symm; have f5_ := f3_.symm; clear f1_ f2_ f3_; subst f4_; subst f5_))
   obtain ⟨Ao54, co54, eo54⟩ := Kd.R_slice HO488.out
   (first | subst eo54 | (injection eo54 with f1_ f2_ f3_; have f4_ := f1_.symm; have f5_ := f3_.symm; clear f1_ f2_ f3_; subst f4_; subst f5_))
   refine hK.out _ _ ⟨HS0_, HS1_, HS2_, HS3_, HS4_, HS5_, HS6_⟩ (fun hHeld => ?_)
   clear hK K
   refine nA (some 64) ?_
   refine oA 13 none (bm 16 16383) HT_ fun K hK => ?_
   have hs44 : w43.cell? ⟨gb450, 0, none⟩ = some (.int .i64 0) := (blk_cell BK450.out 0).trans rfl
   have hfs44 := blk_frozen BK450.out 0
   have hs45 : w43.cell? ⟨gb450, 1, none⟩ = some (.string (⟨#[]⟩ : ByteArray)) := (blk_cell BK450.out 1).trans rfl
   have hfs45 := blk_frozen BK450.out 1
   have hs46 : w43.cell? ⟨gb450, 2, none⟩ = some (.string (⟨#[]⟩ : ByteArray)) := (blk_cell BK450.out 2).trans rfl
   have hfs46 := blk_frozen BK450.out 2
   have hs47 : w43.cell? ⟨gb450, 3, none⟩ = some (.int .i64 0) := (blk_cell BK450.out 3).trans rfl
   have hfs47 := blk_frozen BK450.out 3
   have hs48 : w43.cell? ⟨gb450, 4, none⟩ = some (.int .i64 0) := (blk_cell BK450.out 4).trans rfl
   have hfs48 := blk_frozen BK450.out 4
   have hs49 : w43.cell? ⟨gb450, 5, none⟩ = some (.int .i64 0) := (blk_cell BK450.out 5).trans rfl
   have hfs49 := blk_frozen BK450.out 5
   have hs51 : w43.cell? ⟨gb450, 6, none⟩ = some (.slice none 0 0) := (blk_cell BK450.out 6).trans rfl
   have hfs51 := blk_frozen BK450.out 6
   have hs53 : w43.cell? ⟨gb450, 7, none⟩ = some (.slice none 0 0) := (blk_cell BK450.out 7).trans rfl
   have hfs53 := blk_frozen BK450.out 7
   have hs55 : w43.cell? ⟨gb450, 8, none⟩ = some (.slice none 0 0) := (blk_cell BK450.out 8).trans rfl
   have hfs55 := blk_frozen BK450.out 8
   refine skip_ (w1 := ?_) (by rfl) rfl ?_ ?_
   rotate_left
   ·go_simp
    rfl
   have hne_ := Kd.foot_ne (Kd.C_foot_ownV HO_5.out (fun _ hk => hk.1.1.1.1.1.1)) (by have h1_ := of_eq_true p489; have h2_ := of_eq_true q489; omega) (by decide)
   refine hK.out _ _ ⟨(cf hne_ hHeld.1), (cf hne_ hHeld.2.1), (cf hne_ hHeld.2.2.1), (cf hne_ hHeld.2.2.2.1), (cf hne_ hHeld.2.2.2.2.1), (cf hne_ hHeld.2.2.2.2.2.1), (cg gb450 (by first | exact Kd.foot_ne (Kd.C_foot_ownV HL489_5.out (fun _ hk => hk.1.1.1.1.1.1)) (by have h1_ := of_eq_true p490; have h2_ := of_eq_true q490; omega) (by decide) | (rw [add_block]; exact Kd.foot_ne (Kd.C_foot_ownV HL489_5.out (fun _ hk => hk.1.1.1.1.1.1)) (by have h1_ := of_eq_true p490; have h2_ := of_eq_true q490; omega) (by decide))) hHeld.2.2.2.2.2.2)⟩ (fun hHeld => ?_)
   clear hK K
   refine pA 14 3 (bm 16 32767) HT_ ?_
   refine pA 15 4 (bm 16 65535) HT_ ?_
   refine done_ (done_of HT_.out (by kernel_rfl)) ?_
   try go_wp2
   refine bodyPost_ret (results_ctt rfl _ _ gb450 30 #[.int .i64 t474, .string t475, .string t476, .int .i64 t477, .int .i64 t478, .int .i64 t479, .slice Ao50 t480.length co50, .slice Ao52 t483.length co52, .slice Ao54 t486.length co54] (0, 0) _ rfl (fb BK450) Tryz.underlying30 rfl (by kernel_rfl)) rfl ?_
   exact ⟨_, _, _, xE, rF HO482 BK450 (fun _ hk => hk.1), rF HO485 BK450 (fun _ hk => hk.1), rF HO488 BK450 (fun _ hk => trivial), iX HI0, xBi HB, xK HK⟩
def spec_l20Sum.f (k : Nat) (s0_0 : List Int) (s0_1 : Int) : Option (ByteArray × Int) := (spec_l20Rd_pick.f k s0_0 s0_1 10).bind fun bt491 => (if bt491.1 = 0 then ((spec_l20Rd_of.f k s0_0 bt491.2 (([(⟨#[]⟩ : ByteArray), (⟨#[48, 48]⟩ : ByteArray), (⟨#[103, 48, 48, 48, 48, 48, 48, 48, 48, 48, 48, 48, 48, 48, 48, 48]⟩ : ByteArray), (⟨#[65, 66, 67, 68, 69, 70, 48, 49, 50, 51, 52, 53, 54, 55, 56, 57]⟩ : ByteArray)] : List ByteArray))).bind fun bt496 => (some (bt496.1, bt496.2))) else ((spec_l20Item.f k s0_0 bt491.2).bind fun bt498 => ((spec_l1Sum.f k bt498.1).bind fun t500 => (some (t500, bt498.2)))))
theorem spec_l20Sum.mono : ∀ a0 a1 k, LeO (spec_l20Sum.f k a0 a1) (spec_l20Sum.f (k + 1) a0 a1) := by
 intro a0 a1 k
 unfold spec_l20Sum.f
 exact mo4 spec_l1Sum.mono spec_l20Item.mono spec_l20Rd_of.mono spec_l20Rd_pick.mono
theorem spec_l20Sum.calls (k : Nat) (g : Nat) (s0_0 : List Int) (s0_1 : Int) (r1 : ByteArray) (r2 : Int) (w0 w : World) (hI : IsS78 w0 w g s0_0 s0_1) (hB : Below w0.heap.size w0 w) (h : spec_l20Sum.f k s0_0 s0_1 = some (r1, r2)) :
  Calls Tryz.prog 17 #[.pointer (some ⟨g, 0, none⟩)] w fun e w' => e = .returned (.string r1) ∧ IsS78 w0 w' g s0_0 r2 ∧ Below w0.heap.size w0 w' ∧ KeepBut w w' g none := by
 have HI0 := Aside0.mk hI
 have HK := Aside0.mk (KeepBut.refl w g none)
 have HL := Aside0.mk hB.size
 clear hI
 have HW0 := Aside0.mk hB.size
 have HB := Aside0.mk hB
 clear hB
 have H : ((spec_l20Rd_pick.f k s0_0 s0_1 10).bind fun bt491 => (if bt491.1 = 0 then ((spec_l20Rd_of.f k s0_0 bt491.2 (([(⟨#[]⟩ : ByteArray), (⟨#[48, 48]⟩ : ByteArray), (⟨#[103, 48, 48, 48, 48, 48, 48, 48, 48, 48, 48, 48, 48, 48, 48, 48]⟩ : ByteArray), (⟨#[65, 66, 67, 68, 69, 70, 48, 49, 50, 51, 52, 53, 54, 55, 56, 57]⟩ : ByteArray)] : List ByteArray))).bind fun bt496 => (some (bt496.1, bt496.2))) else ((spec_l20Item.f k s0_0 bt491.2).bind fun bt498 => ((spec_l1Sum.f k bt498.1).bind fun t500 => (some (t500, bt498.2)))))) = some (r1, r2) := h
 clear h
 replace H := Option.bind_eq_some_iff.mp H
 obtain ⟨⟨t491, t492⟩, A20, H⟩ := H
 have A2 := Aside0.mk A20
 clear A20
 go_enter Tryz.func17, Tryz.ntmps17
 go_upto_if 5 with ((with_reducible refine gg ?_); refine gL 4 Tryz.func15 #[.pointer (some ⟨g, 0, none⟩), .int .i64 10] ?_; (with_reducible refine (spec_l20Rd_pick.calls k g s0_0 s0_1 10 t491 t492 w0 _ ?side1 ?side2 A2.out).mono ?_); (case side1 => exact iX HI0); (case side2 => exact xBi HB); rintro e w5 ⟨rfl, hi, hb, hk⟩; refine ⟨_, rfl, ?_⟩; replace HK := kT HK hk; replace HB := am (hb); replace HI0 := am (hi); (try clear hb))
 by_cases c3 : t491 = 0
 rotate_left
 ·rw [if_neg c3] at H
  have c3b0 := beq_eq_false_iff_ne.mpr c3
  have c3b1 := bne_iff_ne.mpr c3
  try simp only [c3b0, c3b1, Bool.not_true, Bool.not_false]
  replace H := Option.bind_eq_some_iff.mp H
  obtain ⟨⟨t498, t499⟩, A100, H⟩ := H
  have A10 := Aside0.mk A100
  clear A100
  replace H := oa H
  obtain ⟨t500, A11, H⟩ := H
  simp only [Option.some.injEq, Prod.mk.injEq] at H
  obtain ⟨rfl, rfl⟩ := H
  go_wp2_with ((with_reducible refine gg ?_); first | (refine gL 10 Tryz.func48 #[.pointer (some ⟨g, 0, none⟩)] ?_; (with_reducible refine (spec_l20Item.calls k g s0_0 t492 t498 t499 w0 _ ?side1 ?side2 A10.out).mono ?_); (case side1 => exact iX HI0); (case side2 => exact xBi HB); rintro e w13 ⟨rfl, hi, hb, hk⟩; refine ⟨_, rfl, ?_⟩; replace HK := kT HK hk; replace HB := am (hb); replace HI0 := am (hi); (try clear hb)) | (refine gL 11 Tryz.func47 #[.string t498] ?_; (with_reducible refine (spec_l1Sum.calls k t498 t500 _ A11.out).mono ?_); rintro e w14 ⟨rfl, hb⟩; refine ⟨_, rfl, ?_⟩; replace HK := kK HK hb; replace HB := kHi HB hb; replace HI0 := iK HI0 hb; (try clear hb)))
  go_ret
  exact ⟨xE, iX HI0, xBi HB, xK HK⟩
 rw [if_pos c3] at H
 have c3b0 := beq_iff_eq.mpr c3
 have c3b1 := bne_eq_false_iff_eq.mpr c3
 try simp only [c3b0, c3b1, Bool.not_true, Bool.not_false]
 clear c3
 obtain ⟨y493, Ny493⟩ := yA (([(⟨#[]⟩ : ByteArray), (⟨#[48, 48]⟩ : ByteArray), (⟨#[103, 48, 48, 48, 48, 48, 48, 48, 48, 48, 48, 48, 48, 48, 48, 48]⟩ : ByteArray), (⟨#[65, 66, 67, 68, 69, 70, 48, 49, 50, 51, 52, 53, 54, 55, 56, 57]⟩ : ByteArray)] : List ByteArray) : List ByteArray)
 rw [← Ny493.out] at H
 replace H := Option.bind_eq_some_iff.mp H
 obtain ⟨⟨t496, t497⟩, A40, H⟩ := H
 have A4 := Aside0.mk A40
 clear A40
 simp only [Option.some.injEq, Prod.mk.injEq] at H
 obtain ⟨rfl, rfl⟩ := H
 go_wp2_with (first | ((with_reducible refine gate_dst (N := 7) rfl ?_); refine Kd.R_lit Kd.string _ 9 ?hg (N := 7) ?hd (xs := ([(⟨#[]⟩ : ByteArray), (⟨#[48, 48]⟩ : ByteArray), (⟨#[103, 48, 48, 48, 48, 48, 48, 48, 48, 48, 48, 48, 48, 48, 48, 48]⟩ : ByteArray), (⟨#[65, 66, 67, 68, 69, 70, 48, 49, 50, 51, 52, 53, 54, 55, 56, 57]⟩ : ByteArray)] : List ByteArray)) (inner := [.string (⟨#[]⟩ : ByteArray), .string (⟨#[48, 48]⟩ : ByteArray), .string (⟨#[103, 48, 48, 48, 48, 48, 48, 48, 48, 48, 48, 48, 48, 48, 48, 48]⟩ : ByteArray), .string (⟨#[65, 66, 67, 68, 69, 70, 48, 49, 50, 51, 52, 53, 54, 55, 56, 57]⟩ : ByteArray)]) (ok := fun _ => True) (okp := fun _ => True) ?hr ?hp (fun _ hk => hk) trivial (Below.refl _ _) (Nat.le_refl _) (by simp) ?_; (case hd => rfl); (case hg => rfl); (case hr => first | (go_simp; done) | (go_simp; rfl)); (case hp => exact xP); intro v494 w6 ho7 hb hg_ hnew_; clear hg_ hnew_; (first | rw [← Ny493.out] at ho7 | (simp only [Int.reduceToNat] at ho7; rw [← Ny493.out] at ho7)); have HO495 := am (Kd.R_lower ho7 (xZ HK)); replace HK := kK HK hb; replace HB := kHi HB hb; replace HI0 := iK HI0 hb; clear hb ho7; obtain ⟨Ao8, co8, eo8⟩ := Kd.R_slice HO495.out; subst eo8) | ((with_reducible refine gg ?_); refine gL 8 Tryz.func46 #[.pointer (some ⟨g, 0, none⟩), .slice Ao8 y493.length co8] ?_; (with_reducible refine (spec_l20Rd_of.calls k g s0_0 t492 _ _ y493 t496 t497 w0 _ ?side1 ?side2 ?side3 ?side4 ?side5 A4.out).mono ?_); (case side1 => exact iX HI0); (case side2 => exact xBi HB); (case side3 => exact cr (Kd.R_reads' HO495.out).2.2); (case side4 => exact sl HO495); (case side5 => exact far_slice (IsS78.own_ne HI0.out HO495.out (by decide))); rintro e w9 ⟨rfl, hi, hb, hk⟩; refine ⟨_, rfl, ?_⟩; replace HO495 := iR HI0 HO495 hk; replace HK := kT HK hk; replace HB := am (hb); replace HI0 := am (hi); (try clear hb)))
 go_ret
 exact ⟨xE, iX HI0, xBi HB, xK HK⟩

end Go.Proofs.YtgjljbaadglpnaaGreatDoor.PFnPaidPut
