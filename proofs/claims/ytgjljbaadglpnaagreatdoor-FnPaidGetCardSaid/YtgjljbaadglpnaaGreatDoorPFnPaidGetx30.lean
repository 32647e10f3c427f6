/- Functions of the program and what each answers: the kit's print, shortened (wip/press2.py). -/
import Derived.Test.YtgjljbaadglpnaaGreatDoorPFnPaidGetx0
import Derived.Test.YtgjljbaadglpnaaGreatDoorPFnPaidGetx18
import Derived.Test.YtgjljbaadglpnaaGreatDoorPFnPaidGetx25
import Derived.Test.YtgjljbaadglpnaaGreatDoorPFnPaidGetx29
namespace Go.Proofs.YtgjljbaadglpnaaGreatDoor.PFnPaidGet
open Go.Proofs.YtgjljbaadglpnaaGreatDoor.Sq Go.RowKit Go.Proofs.YtgjljbaadglpnaaGreatDoorW.PrintWords Go.Proofs.YtgjljbaadglpnaaGreatDoorW.PrintLast Go.Proofs.YtgjljbaadglpnaaGreatDoorW.PrintMore
open Kd
set_option linter.unusedVariables false
set_option linter.unusedSimpArgs false
set_option maxHeartbeats 64000000
set_option maxRecDepth 100000
mutual
def spec_l20Paid.j1 : Nat → List S82 → Int → List Int → Int → Option (Int × ByteArray × ByteArray × Int × Int × Int × (List S93) × (List S93) × (List S48) × ByteArray × ByteArray × Int)
 | 0, _, _, _, _ => none
 | k + 1, x5, x6, x1000, x1001 => (spec_l4Heads.f k x5).bind fun t659 => ((spec_l5Of.f k t659).bind fun t662 => ((spec_l5Root.f k t662).bind fun t665 => (if 0 ≤ x6 then (if x6 < (x5.length : Int) then (if (((rd_T82 x5 x6).f1).length : Int) = 0 then (some (0, (⟨#[]⟩ : ByteArray), (⟨#[]⟩ : ByteArray), 0, 0, 0, ([] : List S93), ([] : List S93), ([] : List S48), (⟨#[97]⟩ : ByteArray), t665, x1001)) else ((spec_l20Rd_pick.f k x1000 x1001 (((rd_T82 x5 x6).f1).length : Int)).bind fun bt668 => ((spec_l9Of.f k x5 x6 bt668.1).bind fun bt670 => (if 0 ≤ bt668.1 then (if bt668.1 < (((rd_T82 x5 x6).f1).length : Int) then (some (bt670.1, bt670.2.1, bt670.2.2.1, bt670.2.2.2.1, bt670.2.2.2.2.1, bt670.2.2.2.2.2.1, bt670.2.2.2.2.2.2.1, bt670.2.2.2.2.2.2.2.1, bt670.2.2.2.2.2.2.2.2, rdOf ByteArray.empty ((rd_T82 x5 x6).f1) bt668.1, t665, bt668.2)) else (none)) else (none))))) else (none)) else (none))))
def spec_l20Paid.l0 : Nat → List S82 → Int → Int → List Int → Int → Option (Int × ByteArray × ByteArray × Int × Int × Int × (List S93) × (List S93) × (List S48) × ByteArray × ByteArray × Int)
 | 0, _, _, _, _, _ => none
 | k + 1, x5, x6, x7, x1000, x1001 => if x7 < (x5.length : Int) then (if 0 ≤ x6 then (if x6 < (x5.length : Int) then (if (((rd_T82 x5 x6).f1).length : Int) = 0 then (if (x5.length : Int) = 0 then (none) else (spec_l20Paid.l0 k x5 (Int.tmod (wrap64 (x6 + 1)) (x5.length : Int)) (wrap64 (x7 + 1)) x1000 x1001)) else (spec_l20Paid.j1 k x5 x6 x1000 x1001)) else (none)) else (none)) else (spec_l20Paid.j1 k x5 x6 x1000 x1001)
end
def spec_l20Paid.f (k : Nat) (s0_0 : List Int) (s0_1 : Int) : Option (Int × ByteArray × ByteArray × Int × Int × Int × (List S93) × (List S93) × (List S48) × ByteArray × ByteArray × Int) := (spec_l20Rd_pick.f k s0_0 s0_1 8).bind fun bt650 => ((spec_l20Chain.f k s0_0 bt650.2 (([] : List S82)) (wrap64 (1 + bt650.1))).bind fun bt652 => ((spec_l20Rd_pick.f k s0_0 bt652.2 (bt652.1.length : Int)).bind fun bt656 => (spec_l20Paid.l0 k bt652.1 bt656.1 0 s0_0 bt656.2)))
def spec_l20Paid.T11 : Bool × List (List Nat × List Nat) := (true, [([], []), ([], []), ([], []), ([0, 1, 2], [0, 1, 2]), ([], []), ([], []), ([4, 5], [4, 5]), ([6], [6]), ([7], [7]), ([], []), ([8, 9], [8, 9]), ([10], [10]), ([], []), ([3, 3, 0, 1, 2, 3], [3]), ([11, 13, 0, 1, 2, 3, 4, 5, 6, 7, 8, 9, 10, 11, 13], [11]), ([12, 14, 0, 1, 2, 3, 4, 5, 6, 7, 8, 9, 10, 11, 12, 13, 14], [12])])
def spec_l20Paid.B11 : List Nat := [0, 0, 0, 7, 0, 0, 48, 112, 240, 0, 1008, 2032, 0, 15, 12287, 32767]
theorem spec_l20Paid.tab11 : rtab .any (opsOf Tryz.f14 11) = spec_l20Paid.T11 := by kernel_rfl
theorem spec_l20Paid.bits11 : waitsOk spec_l20Paid.T11.2 spec_l20Paid.B11 = true := by kernel_rfl
theorem spec_l20Paid.calls (k : Nat) (g : Nat) (s0_0 : List Int) (s0_1 : Int) (r1 : Int) (r2 : ByteArray) (r3 : ByteArray) (r4 : Int) (r5 : Int) (r6 : Int) (r7 : List S93) (r8 : List S93) (r9 : List S48) (r10 : ByteArray) (r11 : ByteArray) (r12 : Int) (w0 w : World) (hI : IsS78 w0 w g s0_0 s0_1) (hB : Below w0.heap.size w0 w) (h : spec_l20Paid.f k s0_0 s0_1 = some (r1, r2, r3, r4, r5, r6, r7, r8, r9, r10, r11, r12)) :
  Calls Tryz.prog 14 #[.pointer (some ⟨g, 0, none⟩)] w fun e w' => ∃ v6_ v7_ v8_ : Value, e = .returned (.tuple #[.agg #[.int .i64 r1, .string r2, .string r3, .int .i64 r4, .int .i64 r5, .int .i64 r6, v6_, v7_, v8_], .string r10, .string r11]) ∧ Kd.R k93 93 w' w.heap.size (fun k_ => some k_ ≠ (v7_ : Value).ownBlock) v6_ r7 ∧ Kd.R k93 93 w' w.heap.size (fun k_ => some k_ ≠ (v6_ : Value).ownBlock) v7_ r8 ∧ Kd.R k48 48 w' w.heap.size (fun _ => True) v8_ r9 ∧ IsS78 w0 w' g s0_0 r12 ∧ Below w0.heap.size w0 w' ∧ KeepBut w w' g none := by
 have hu30 := Tryz.underlying30
 have HI0 := am hI
 have HK := am (KeepBut.refl w g none)
 have HL := am hB.size
 clear hI
 have HW0 := am hB.size
 have HB := am hB
 clear hB
 have H : ((spec_l20Rd_pick.f k s0_0 s0_1 8).bind fun bt650 => ((spec_l20Chain.f k s0_0 bt650.2 (([] : List S82)) (wrap64 (1 + bt650.1))).bind fun bt652 => ((spec_l20Rd_pick.f k s0_0 bt652.2 (bt652.1.length : Int)).bind fun bt656 => (spec_l20Paid.l0 k bt652.1 bt656.1 0 s0_0 bt656.2)))) = some (r1, r2, r3, r4, r5, r6, r7, r8, r9, r10, r11, r12) := h
 clear h
 obtain ⟨y647, Ny647⟩ := yA (([] : List S82) : List S82)
 rw [← Ny647.out] at H
 replace H := Option.bind_eq_some_iff.mp H
 obtain ⟨⟨t650, t651⟩, A20, H⟩ := H
 have A2 := am A20
 clear A20
 replace H := Option.bind_eq_some_iff.mp H
 obtain ⟨⟨t652, t655⟩, A30, H⟩ := H
 have A3 := am A30
 clear A30
 replace H := Option.bind_eq_some_iff.mp H
 obtain ⟨⟨t656, t657⟩, A40, H⟩ := H
 have A4 := am A40
 clear A40
 have HC5 := am H
 clear H
 go_enter Tryz.func14, Tryz.ntmps14
 go_upto_block 0 with (first | ((with_reducible refine gate_dst (N := 2) rfl ?_); (try (refine gate_guard (by rfl) ?_; dsimp only)); refine box_event ?hg (N := 2) ?hd (cs := #[.int .i64 0, .string (⟨#[]⟩ : ByteArray), .string (⟨#[]⟩ : ByteArray), .int .i64 0, .int .i64 0, .int .i64 0, .slice none 0 0, .slice none 0 0, .slice none 0 0]) (t := 30) ?hr ?_; (case hd => rfl); (case hg => rfl); (case hr => first | (go_simp; done) | (go_simp; rfl)); intro gb646 hg w6 hbox hb; replace HB := kHi HB hb; have BK646 := am (hbox); have GW646 := gW hg HK; have GE646 := gE HW0 hg HK; replace HK := kK HK hb; have NB0_646 := iN hg HI0; have NB646_0 := iM hg HI0; replace HI0 := iK HI0 hb; clear hb hbox hg) | ((with_reducible refine gate_dst (N := 11) rfl ?_); (try (refine gate_guard (by rfl) ?_; dsimp only)); refine S_lit k82 _ 82 ?hg (N := 11) ?hd (xs := ([] : List S82)) (inner := []) (ok := fun _ => True) (okp := fun _ => True) ?hr ?hp (fun _ hk => hk) trivial (Below.refl _ _) (Nat.le_refl _) (by simp) ?_; (case hd => rfl); (case hg => rfl); (case hr => first | (go_simp; done) | (go_simp; rfl)); (case hp => exact xP); intro v648 w7 ho8 hb hg_ hnew_; clear hg_ hnew_; (first | rw [← Ny647.out] at ho8 | (simp only [Int.reduceToNat] at ho8; rw [← Ny647.out] at ho8)); have HO649 := am (S_lower ho8 (xZ HK)); replace BK646 := kP _ BK646 hb; replace HK := kK HK hb; replace HB := kHi HB hb; replace HI0 := iK HI0 hb; clear hb ho8) | ((with_reducible refine gg ?_); first | (refine gL 13 Tryz.func15 #[.pointer (some ⟨g, 0, none⟩), .int .i64 8] ?_; (with_reducible refine (spec_l20Rd_pick.calls k g s0_0 s0_1 8 t650 t651 w0 _ ?side1 ?side2 A2.out).mono ?_); (case side1 => exact iX HI0); (case side2 => exact xBi HB); rintro e w9 ⟨rfl, hi, hb, hk⟩; refine ⟨_, rfl, ?_⟩; replace BK646 := am (KeepBut.blk hk (g' := gb646) (o := .cells #[.int .i64 0, .string (⟨#[]⟩ : ByteArray), .string (⟨#[]⟩ : ByteArray), .int .i64 0, .int .i64 0, .int .i64 0, .slice none 0 0, .slice none 0 0, .slice none 0 0] 30 (0, 0)) (kb BK646) NB646_0.out (by simp)); replace HO649 := am (S_mono (S_keep (IsS78.apartS (show IsS78 w0 _ g s0_0 s0_1 from iX HI0) (sx HO649) (by decide)) hk (fun _ h => h.2)) (fun _ h => h.1)); replace HK := kT HK hk; replace HB := am (hb); replace HI0 := am (hi); (try clear hb); obtain ⟨Ao10, co10, rfl⟩ := S_slice HO649.out) | (refine gL 15 Tryz.func41 #[.pointer (some ⟨g, 0, none⟩), .slice Ao10 y647.length co10, .int .i64 (wrap64 (1 + t650))] ?_; (with_reducible refine (spec_l20Chain.calls k g s0_0 t651 (fun k_ => ((True ∧ k_ ≠ gb646) ∧ k_ ≠ g)) _ _ y647 (wrap64 (1 + t650)) t652 t655 w0 _ ?side1 ?side2 ?side3 A3.out).mono ?_); (case side1 => exact iX HI0); (case side2 => exact xBi HB); (case side3 => exact V_mono (S_V (IsS78.apartS HI0.out (S_types (HO649.out) BK646.out (by decide)) (by decide))) (fun k_ hk_ => ⟨hk_, hk_.2⟩)); rintro e w11 ⟨v653, rfl, ho0, hi, hb, hk⟩; refine ⟨_, rfl, ?_⟩; replace HO649 := am (S_mono (S_keep (IsS78.apartS (show IsS78 w0 _ g s0_0 t651 from iX HI0) (sx HO649) (by decide)) hk (fun _ h => h.2)) (fun _ h => h.1)); have HO654 := am (V_lower (V_mono (ok' := fun k_ => k_ ≠ gb646 ∧ k_ ≠ g) ho0 (fun k_ hk_ => ⟨Or.elim hk_ (fun hs_ => hs_.1.2) (fun hn_ => (Kd.freshB (g := gb646) (o := .cells #[.int .i64 0, .string (⟨#[]⟩ : ByteArray), .string (⟨#[]⟩ : ByteArray), .int .i64 0, .int .i64 0, .int .i64 0, .slice none 0 0, .slice none 0 0, .slice none 0 0] 30 (0, 0)) (kb BK646) k_ hn_)), Or.elim hk_ (fun hs_ => hs_.2) (fun hn_ => (IsS78.fresh (iX HI0) k_ hn_))⟩)) (xZ HK)); replace BK646 := am (KeepBut.blk hk (g' := gb646) (o := .cells #[.int .i64 0, .string (⟨#[]⟩ : ByteArray), .string (⟨#[]⟩ : ByteArray), .int .i64 0, .int .i64 0, .int .i64 0, .slice none 0 0, .slice none 0 0, .slice none 0 0] 30 (0, 0)) (kb BK646) NB646_0.out (by simp)); replace HK := kT HK hk; replace HB := am (hb); replace HI0 := am (hi); (try clear hb); (try clear ho0); obtain ⟨Ao12, co12, rfl⟩ := V_slice HO654.out) | (refine gL 19 Tryz.func15 #[.pointer (some ⟨g, 0, none⟩), .int .i64 (t652.length : Int)] ?_; (with_reducible refine (spec_l20Rd_pick.calls k g s0_0 t655 (t652.length : Int) t656 t657 w0 _ ?side1 ?side2 A4.out).mono ?_); (case side1 => exact iX HI0); (case side2 => exact xBi HB); rintro e w13 ⟨rfl, hi, hb, hk⟩; refine ⟨_, rfl, ?_⟩; replace BK646 := am (KeepBut.blk hk (g' := gb646) (o := .cells #[.int .i64 0, .string (⟨#[]⟩ : ByteArray), .string (⟨#[]⟩ : ByteArray), .int .i64 0, .int .i64 0, .int .i64 0, .slice none 0 0, .slice none 0 0, .slice none 0 0] 30 (0, 0)) (kb BK646) NB646_0.out (by simp)); replace HO649 := am (S_mono (S_keep (IsS78.apartS (show IsS78 w0 _ g s0_0 t655 from iX HI0) (sx HO649) (by decide)) hk (fun _ h => h.2)) (fun _ h => h.1)); replace HO654 := am (V_mono (V_keep (V_mono (ok := fun k_ => (k_ ≠ gb646 ∧ k_ ≠ g)) (va HO654) (fun k_ hk_ => (⟨hk_, hk_.2⟩ : _ ∧ k_ ≠ g))) hk (fun _ h => h.2)) (fun _ h => h.1)); replace HK := kT HK hk; replace HB := am (hb); replace HI0 := am (hi); (try clear hb))))
 (try simp only [Act.put, sa, s0, s1])
 go_cut [6] (fun v6 wc => ∃ (kq : Nat) (x6_4 : Int), v6 = .int .i64 x6_4 ∧ Aside0 (spec_l20Paid.j1 kq t652 x6_4 s0_0 t657 = some (r1, r2, r3, r4, r5, r6, r7, r8, r9, r10, r11, r12)) ∧ Aside0 (kq ≤ k) ∧ Aside0 (Kd.V k82 82 wc w.heap.size (fun k_ => k_ ≠ gb646 ∧ k_ ≠ g) (.slice Ao12 t652.length co12) t652) ∧ Aside0 (wc.heap[gb646]? = some (.cells #[.int .i64 0, .string (⟨#[]⟩ : ByteArray), .string (⟨#[]⟩ : ByteArray), .int .i64 0, .int .i64 0, .int .i64 0, (.slice none 0 0), (.slice none 0 0), (.slice none 0 0)] 30 (0, 0))) ∧ Aside0 (IsS78 w0 wc g s0_0 t657) ∧ Aside0 (KeepBut w wc g none) ∧ Aside0 (Below w0.heap.size w0 wc))
 case first =>
  have H := HC5.out
  clear HC5
  have H' := am H
  clear H
  go_wp2
  go_loopg [6, 7] k (fun kq v6 v7 w' => ∃ (x6_1 : Int) (x7_1 : Int), v6 = .int .i64 x6_1 ∧ v7 = .int .i64 x7_1 ∧ Aside0 (spec_l20Paid.l0 kq t652 x6_1 x7_1 s0_0 t657 = some (r1, r2, r3, r4, r5, r6, r7, r8, r9, r10, r11, r12)) ∧ Aside0 (kq ≤ k) ∧ Aside0 (Kd.V k82 82 w' w.heap.size (fun k_ => k_ ≠ gb646 ∧ k_ ≠ g) (.slice Ao12 t652.length co12) t652) ∧ Aside0 (w'.heap[gb646]? = some (.cells #[.int .i64 0, .string (⟨#[]⟩ : ByteArray), .string (⟨#[]⟩ : ByteArray), .int .i64 0, .int .i64 0, .int .i64 0, (.slice none 0 0), (.slice none 0 0), (.slice none 0 0)] 30 (0, 0))) ∧ Aside0 (IsS78 w0 w' g s0_0 t657) ∧ Aside0 (KeepBut w w' g none) ∧ Aside0 (Below w0.heap.size w0 w'))
  case atStart => exact ⟨(t656), (0), xR, xR, H', ⟨Nat.le_refl _⟩, ⟨va HO654⟩, ⟨kb BK646⟩, ⟨iX HI0⟩, ⟨xK HK⟩, ⟨xBi HB⟩⟩
  case round =>
   clear H'
   obtain ⟨x6_1, x7_1, rfl, rfl, HA, HK1, HO_5, BK646, HI0, HK, HB⟩ := hrel
   cases gk with
   | zero => exact absurd HA.out (by simp [spec_l20Paid.l0])
   | succ k1 =>
    have H := HA.out
    clear HA
    simp only [spec_l20Paid.l0] at H
    by_cases c14 : x7_1 < (t652.length : Int)
    rotate_left
    ·rw [if_neg c14] at H
     have c14b0 := df c14
     clear c14
     (first | rw [c14b0] | rw [c14b1] | (simp only [i64_w, i32_w]; rw [c14b0]) | skip)
     have H' := am H
     clear H
     go_wp2
     go_meet
     case rel => exact ⟨_, (x6_1), xR, H', ⟨xL HK1⟩, ⟨va HO_5⟩, ⟨kb BK646⟩, ⟨iX HI0⟩, ⟨xK HK⟩, ⟨xBi HB⟩⟩
    rw [if_pos c14] at H
    have c14b0 := dt c14
    clear c14
    (first | rw [c14b0] | rw [c14b1] | (simp only [i64_w, i32_w]; rw [c14b0]) | skip)
    replace ⟨c15b0, H⟩ := ipd H
    replace ⟨c16b0, H⟩ := ipd H
    have p658 : 0 ≤ (x6_1 : Int) := oX
    have q658 : x6_1 < (t652.length : Int) := oX
    obtain ⟨ad658, A658_5, c658_5, e658, hx658_0, hx658_1, hx658_2, hx658_3, hx658_4, hx658_5, hl658_5, hi658_5⟩ := at_T82 (V_reads' HO_5.out).2.2 x6_1 p658 q658
    cases e658
    obtain ⟨ce658, hce658, hMe658, hcc658⟩ := V_get HO_5.out z82 x6_1 p658 (by first | exact q658 | exact oX | (have e_ := (V_reads' HO_5.out).1; omega))
    obtain ⟨ua658_5, uc658_5, rfl, ul658_5, ge658_5⟩ := k82_openF hMe658
    have hv658_5 := hcc658 5 _ rfl
    rw [add_field _ _ 5 (by omega)] at hv658_5
    replace hv658_5 := Option.some.inj (hv658_5.symm.trans hx658_5)
    injection hv658_5 with hva_ hvn_ hvc_
    rw [hva_] at ge658_5
    rw [hvc_] at ul658_5
    have HL658_5 := am (show Kd.V Kd.string 9 _ w.heap.size _ _ ((rd_T82 t652 x6_1).f1) from V_mk ul658_5 ge658_5)
    clear hva_ hvn_ hvc_ ge658_5 ul658_5
    clear hcc658 hce658
    have HR658_5 := am hi658_5
    have HC658_5 := am hl658_5
    clear hi658_5 hl658_5
    replace ⟨p658, q658⟩ := eT p658 q658
    by_cases c17 : (((rd_T82 t652 x6_1).f1).length : Int) = 0
    rotate_left
    ·rw [if_neg c17] at H
     have c17b0 := beq_eq_false_iff_ne.mpr c17
     have c17b1 := bne_iff_ne.mpr c17
     have c17b2 : ¬ (((rd_T82 t652 x6_1).f1) = []) := fun h_ => c17 (by rw [h_]; rfl)
     have H' := am H
     clear H
     go_wp2
     go_meet
     case rel => exact ⟨_, (x6_1), xR, H', ⟨xL HK1⟩, ⟨va HO_5⟩, ⟨kb BK646⟩, ⟨iX HI0⟩, ⟨xK HK⟩, ⟨xBi HB⟩⟩
    rw [if_pos c17] at H
    have c17b0 := beq_iff_eq.mpr c17
    have c17b1 := bne_eq_false_iff_eq.mpr c17
    clear c17
    replace H := iq H
    obtain ⟨c18, H⟩ := H
    have c18b0 := beq_eq_false_iff_ne.mpr c18
    have c18b1 := bne_iff_ne.mpr c18
    have c18b2 : ¬ (t652 = []) := fun h_ => c18 (by rw [h_]; rfl)
    have H' := am H
    clear H
    go_wp2
    go_roundg k1
    case measure => have := HK1.out; omega
    case rel => exact ⟨(Int.tmod (wrap64 (x6_1 + 1)) (t652.length : Int)), (wrap64 (x7_1 + 1)), xR, xR, H', ⟨xL HK1⟩, ⟨va HO_5⟩, ⟨kb BK646⟩, ⟨iX HI0⟩, ⟨xK HK⟩, ⟨xBi HB⟩⟩
 case rest =>
  clear HC5
  obtain ⟨kq, x6_4, rfl, HA, HJ4, HO_5, BK646, HI0, HK, HB⟩ := hcut
  cases kq with
  | zero => exact absurd HA.out (by simp [spec_l20Paid.j1])
  | succ kj4 =>
   have H := HA.out
   clear HA
   simp only [spec_l20Paid.j1] at H
   replace ⟨t659, A19, H⟩ := oa H
   replace ⟨t662, A20, H⟩ := oa H
   replace ⟨t665, A21, H⟩ := oa H
   replace ⟨c22b0, H⟩ := ipd H
   replace ⟨c23b0, H⟩ := ipd H
   by_cases c24 : (((rd_T82 t652 x6_4).f1).length : Int) = 0
   ·rw [if_pos c24] at H
    have c24b0 := beq_iff_eq.mpr c24
    have c24b1 := bne_eq_false_iff_eq.mpr c24
    clear c24
    simp only [Option.some.injEq, Prod.mk.injEq] at H
    obtain ⟨rfl, rfl, rfl, rfl, rfl, rfl, rfl, rfl, rfl, rfl, rfl, rfl⟩ := H
    go_wp2_with ((with_reducible refine gg ?_); first | (refine gL 41 Tryz.func44 #[.slice Ao12 t652.length co12] ?_; (with_reducible refine (spec_l4Heads.calls kj4 _ _ t652 t659 _ ?side1 ?side2 A19.out).mono ?_); (case side1 => exact cr (V_reads' HO_5.out).2.2); (case side2 => exact (V_reads' HO_5.out).2.1); rintro e w25 ⟨v660, rfl, ho0, hb⟩; refine ⟨_, rfl, ?_⟩; replace HO_5 := am (V_elder' (va HO_5) (R_base ho0) hb); have HO661 := am (R_lower ho0 (xZ HK)); replace BK646 := kP _ BK646 hb; replace HK := kK HK hb; replace HB := kHi HB hb; replace HI0 := iK HI0 hb; (try clear hb); (try clear ho0); obtain ⟨Ao26, co26, rfl⟩ := R_slice HO661.out) | (refine gL 42 Tryz.func43 #[.slice Ao26 t659.length co26] ?_; (with_reducible refine (spec_l5Of.calls kj4 _ _ t659 t662 _ ?side1 ?side2 A20.out).mono ?_); (case side1 => exact cr (R_reads' HO661.out).2.2); (case side2 => exact sl HO661); rintro e w27 ⟨v663, rfl, ho0, hb⟩; refine ⟨_, rfl, ?_⟩; replace HO_5 := am (V_elder' (va HO_5) (R_base ho0) hb); replace HO661 := rk HO661 hb; have HO664 := am (R_lower ho0 (xZ HK)); replace BK646 := kP _ BK646 hb; replace HK := kK HK hb; replace HB := kHi HB hb; replace HI0 := iK HI0 hb; (try clear hb); (try clear ho0); obtain ⟨Ao28, co28, rfl⟩ := R_slice HO664.out) | (refine gL 43 Tryz.func42 #[.slice Ao28 t662.length co28] ?_; (with_reducible refine (spec_l5Root.calls kj4 _ _ t662 t665 _ ?side1 ?side2 A21.out).mono ?_); (case side1 => exact cr (R_reads' HO664.out).2.2); (case side2 => exact sl HO664); rintro e w29 ⟨rfl, hb⟩; refine ⟨_, rfl, ?_⟩; replace HO_5 := am (V_below (va HO_5) hb); replace HO661 := rk HO661 hb; replace HO664 := rk HO664 hb; replace BK646 := kP _ BK646 hb; replace HK := kK HK hb; replace HB := kHi HB hb; replace HI0 := iK HI0 hb; (try clear hb); have p666 : 0 ≤ (x6_4 : Int) := oX; have q666 : x6_4 < (t652.length : Int) := oX; obtain ⟨ad666, A666_5, c666_5, e666, hx666_0, hx666_1, hx666_2, hx666_3, hx666_4, hx666_5, hl666_5, hi666_5⟩ := at_T82 (V_reads' HO_5.out).2.2 x6_4 p666 q666; cases e666; obtain ⟨ce666, hce666, hMe666, hcc666⟩ := V_get HO_5.out z82 x6_4 p666 (by first | exact q666 | exact oX | (have e_ := (V_reads' HO_5.out).1; omega)); obtain ⟨ua666_5, uc666_5, rfl, ul666_5, ge666_5⟩ := k82_openF hMe666; have hv666_5 := hcc666 5 _ rfl; rw [add_field _ _ 5 (by omega)] at hv666_5; replace hv666_5 := Option.some.inj (hv666_5.symm.trans hx666_5); injection hv666_5 with hva_ hvn_ hvc_; rw [hva_] at ge666_5; rw [hvc_] at ul666_5; have HL666_5 := am (show Kd.V Kd.string 9 _ w.heap.size _ _ ((rd_T82 t652 x6_4).f1) from V_mk ul666_5 ge666_5); clear hva_ hvn_ hvc_ ge666_5 ul666_5; clear hcc666 hce666; have HR666_5 := am hi666_5; have HC666_5 := am hl666_5; clear hi666_5 hl666_5; replace ⟨p666, q666⟩ := eT p666 q666; have hnb30 := NB646_0.out; have hnc30 := NB0_646.out; have hz31 := bc9 BK646))
    refine bodyPost_ret (results_ctt rfl _ _ gb646 30 #[.int .i64 0, .string (⟨#[]⟩ : ByteArray), .string (⟨#[]⟩ : ByteArray), .int .i64 0, .int .i64 0, .int .i64 0, .slice none 0 0, .slice none 0 0, .slice none 0 0] (0, 0) _ rfl (fb BK646) Tryz.underlying30 rfl (by kernel_rfl)) rfl ?_
    exact ⟨_, _, _, xE, xN, xN, xN, iX HI0, xBi HB, xK HK⟩
   rw [if_neg c24] at H
   have c24b0 := beq_eq_false_iff_ne.mpr c24
   have c24b1 := bne_iff_ne.mpr c24
   have c24b2 : ¬ (((rd_T82 t652 x6_4).f1) = []) := fun h_ => c24 (by rw [h_]; rfl)
   replace H := Option.bind_eq_some_iff.mp H
   obtain ⟨⟨t668, t669⟩, A320, H⟩ := H
   have A32 := am A320
   clear A320
   replace H := Option.bind_eq_some_iff.mp H
   obtain ⟨⟨t670, t671, t672, t673, t674, t675, t676, t679, t682⟩, A330, H⟩ := H
   have A33 := am A330
   clear A330
   replace ⟨c34b0, H⟩ := ipd H
   replace ⟨c35b0, H⟩ := ipd H
   simp only [Option.some.injEq, Prod.mk.injEq] at H
   obtain ⟨rfl, rfl, rfl, rfl, rfl, rfl, rfl, rfl, rfl, rfl, rfl, rfl⟩ := H
   try go_wp2_with ((with_reducible refine gg ?_); first | (refine gL 41 Tryz.func44 #[.slice Ao12 t652.length co12] ?_; (with_reducible refine (spec_l4Heads.calls kj4 _ _ t652 t659 _ ?side1 ?side2 A19.out).mono ?_); (case side1 => exact cr (V_reads' HO_5.out).2.2); (case side2 => exact (V_reads' HO_5.out).2.1); rintro e w36 ⟨v660, rfl, ho0, hb⟩; refine ⟨_, rfl, ?_⟩; replace HO_5 := am (V_elder' (va HO_5) (R_base ho0) hb); have HO661 := am (R_lower ho0 (xZ HK)); replace BK646 := kP _ BK646 hb; replace HK := kK HK hb; replace HB := kHi HB hb; replace HI0 := iK HI0 hb; (try clear hb); (try clear ho0); obtain ⟨Ao37, co37, rfl⟩ := R_slice HO661.out) | (refine gL 42 Tryz.func43 #[.slice Ao37 t659.length co37] ?_; (with_reducible refine (spec_l5Of.calls kj4 _ _ t659 t662 _ ?side1 ?side2 A20.out).mono ?_); (case side1 => exact cr (R_reads' HO661.out).2.2); (case side2 => exact sl HO661); rintro e w38 ⟨v663, rfl, ho0, hb⟩; refine ⟨_, rfl, ?_⟩; replace HO_5 := am (V_elder' (va HO_5) (R_base ho0) hb); replace HO661 := rk HO661 hb; have HO664 := am (R_lower ho0 (xZ HK)); replace BK646 := kP _ BK646 hb; replace HK := kK HK hb; replace HB := kHi HB hb; replace HI0 := iK HI0 hb; (try clear hb); (try clear ho0); obtain ⟨Ao39, co39, rfl⟩ := R_slice HO664.out) | (refine gL 43 Tryz.func42 #[.slice Ao39 t662.length co39] ?_; (with_reducible refine (spec_l5Root.calls kj4 _ _ t662 t665 _ ?side1 ?side2 A21.out).mono ?_); (case side1 => exact cr (R_reads' HO664.out).2.2); (case side2 => exact sl HO664); rintro e w40 ⟨rfl, hb⟩; refine ⟨_, rfl, ?_⟩; replace HO_5 := am (V_below (va HO_5) hb); replace HO661 := rk HO661 hb; replace HO664 := rk HO664 hb; replace BK646 := kP _ BK646 hb; replace HK := kK HK hb; replace HB := kHi HB hb; replace HI0 := iK HI0 hb; (try clear hb); have p666 : 0 ≤ (x6_4 : Int) := oX; have q666 : x6_4 < (t652.length : Int) := oX; obtain ⟨ad666, A666_5, c666_5, e666, hx666_0, hx666_1, hx666_2, hx666_3, hx666_4, hx666_5, hl666_5, hi666_5⟩ := at_T82 (V_reads' HO_5.out).2.2 x6_4 p666 q666; cases e666; obtain ⟨ce666, hce666, hMe666, hcc666⟩ := V_get HO_5.out z82 x6_4 p666 (by first | exact q666 | exact oX | (have e_ := (V_reads' HO_5.out).1; omega)); obtain ⟨ua666_5, uc666_5, rfl, ul666_5, ge666_5⟩ := k82_openF hMe666; have hv666_5 := hcc666 5 _ rfl; rw [add_field _ _ 5 (by omega)] at hv666_5; replace hv666_5 := Option.some.inj (hv666_5.symm.trans hx666_5); injection hv666_5 with hva_ hvn_ hvc_; rw [hva_] at ge666_5; rw [hvc_] at ul666_5; have HL666_5 := am (show Kd.V Kd.string 9 _ w.heap.size _ _ ((rd_T82 t652 x6_4).f1) from V_mk ul666_5 ge666_5); clear hva_ hvn_ hvc_ ge666_5 ul666_5; clear hcc666 hce666; have HR666_5 := am hi666_5; have HC666_5 := am hl666_5; clear hi666_5 hl666_5; replace ⟨p666, q666⟩ := eT p666 q666; have p667 : 0 ≤ (x6_4 : Int) := oX; have q667 : x6_4 < (t652.length : Int) := oX; obtain ⟨ad667, A667_5, c667_5, e667, hx667_0, hx667_1, hx667_2, hx667_3, hx667_4, hx667_5, hl667_5, hi667_5⟩ := at_T82 (V_reads' HO_5.out).2.2 x6_4 p667 q667; obtain rfl : ad666 = ad667 := (by injection e667); obtain ⟨ce667, hce667, hMe667, hcc667⟩ := V_get HO_5.out z82 x6_4 p667 (by first | exact q667 | exact oX | (have e_ := (V_reads' HO_5.out).1; omega)); obtain ⟨ua667_5, uc667_5, rfl, ul667_5, ge667_5⟩ := k82_openF hMe667; have hv667_5 := hcc667 5 _ rfl; rw [add_field _ _ 5 (by omega)] at hv667_5; replace hv667_5 := Option.some.inj (hv667_5.symm.trans hx667_5); injection hv667_5 with hva_ hvn_ hvc_; rw [hva_] at ge667_5; rw [hvc_] at ul667_5; have HL667_5 := am (show Kd.V Kd.string 9 _ w.heap.size _ _ ((rd_T82 t652 x6_4).f1) from V_mk ul667_5 ge667_5); clear hva_ hvn_ hvc_ ge667_5 ul667_5; clear hcc667 hce667; have HR667_5 := am hi667_5; have HC667_5 := am hl667_5; clear hi667_5 hl667_5; replace ⟨p667, q667⟩ := eT p667 q667; have ea_ := Option.some.inj (hx666_5.symm.trans hx667_5); injection ea_ with ea_ en_ ec_; subst ea_; subst ec_; clear en_) | (refine gL 60 Tryz.func15 #[.pointer (some ⟨g, 0, none⟩), .int .i64 (((rd_T82 t652 x6_4).f1).length : Int)] ?_; (with_reducible refine (spec_l20Rd_pick.calls kj4 g s0_0 t657 (((rd_T82 t652 x6_4).f1).length : Int) t668 t669 w0 _ ?side1 ?side2 A32.out).mono ?_); (case side1 => exact iX HI0); (case side2 => exact xBi HB); rintro e w41 ⟨rfl, hi, hb, hk⟩; refine ⟨_, rfl, ?_⟩; replace HO_5 := am (V_mono (V_keep (V_mono (ok := fun k_ => (((k_ ≠ gb646 ∧ k_ ≠ g) ∧ some k_ ≠ (.slice Ao37 t659.length co37 : Value).ownBlock) ∧ some k_ ≠ (.slice Ao39 t662.length co39 : Value).ownBlock)) (va HO_5) (fun k_ hk_ => (⟨hk_, hk_.1.1.2⟩ : _ ∧ k_ ≠ g))) hk (fun _ h => h.2)) (fun _ h => h.1)); replace BK646 := am (KeepBut.blk hk (g' := gb646) (o := .cells #[.int .i64 0, .string (⟨#[]⟩ : ByteArray), .string (⟨#[]⟩ : ByteArray), .int .i64 0, .int .i64 0, .int .i64 0, .slice none 0 0, .slice none 0 0, .slice none 0 0] 30 (0, 0)) (kb BK646) NB646_0.out (by simp)); replace HO661 := iR HI0 HO661 hk; replace HO664 := iR HI0 HO664 hk; replace HL666_5 := am (V_mono (V_keep (V_mono (ok := fun k_ => (((k_ ≠ gb646 ∧ k_ ≠ g) ∧ some k_ ≠ (.slice Ao37 t659.length co37 : Value).ownBlock) ∧ some k_ ≠ (.slice Ao39 t662.length co39 : Value).ownBlock)) (by (with_reducible repeat (first | apply V_alloc | apply V_drewN | apply V_drew)); exact HL666_5.out) (fun k_ hk_ => (⟨hk_, hk_.1.1.2⟩ : _ ∧ k_ ≠ g))) hk (fun _ h => h.2)) (fun _ h => h.1)); replace HL667_5 := am (V_mono (V_keep (V_mono (ok := fun k_ => (((k_ ≠ gb646 ∧ k_ ≠ g) ∧ some k_ ≠ (.slice Ao37 t659.length co37 : Value).ownBlock) ∧ some k_ ≠ (.slice Ao39 t662.length co39 : Value).ownBlock)) (by (with_reducible repeat (first | apply V_alloc | apply V_drewN | apply V_drew)); exact HL667_5.out) (fun k_ hk_ => (⟨hk_, hk_.1.1.2⟩ : _ ∧ k_ ≠ g))) hk (fun _ h => h.2)) (fun _ h => h.1)); replace HK := kT HK hk; replace HB := am (hb); replace HI0 := am (hi); (try clear hb)))
   replace HO_5 := am (V_drew HO_5.out)
   replace HO661 := am (R_drew HO661.out)
   replace HO664 := am (R_drew HO664.out)
   replace HL666_5 := am (V_drew HL666_5.out)
   replace HL667_5 := am (V_drew HL667_5.out)
   replace BK646 := am (blk_drew BK646.out)
   replace HI0 := am (IsS78.drew HI0.out)
   replace HK := am (keep_drew HK.out)
   replace HB := am (below_drew1 HB.out)
   have p685 : 0 ≤ (x6_4 : Int) := oX
   have q685 : x6_4 < (t652.length : Int) := oX
   obtain ⟨ad685, A685_5, c685_5, e685, hx685_0, hx685_1, hx685_2, hx685_3, hx685_4, hx685_5, hl685_5, hi685_5⟩ := at_T82 (V_reads' HO_5.out).2.2 x6_4 p685 q685
   obtain rfl : ad666 = ad685 := (by injection e685)
   obtain ⟨ce685, hce685, hMe685, hcc685⟩ := V_get HO_5.out z82 x6_4 p685 (by first | exact q685 | exact oX | (have e_ := (V_reads' HO_5.out).1; omega))
   obtain ⟨ua685_5, uc685_5, rfl, ul685_5, ge685_5⟩ := k82_openF hMe685
   have hv685_5 := hcc685 5 _ rfl
   rw [add_field _ _ 5 (by omega)] at hv685_5
   replace hv685_5 := Option.some.inj (hv685_5.symm.trans hx685_5)
   injection hv685_5 with hva_ hvn_ hvc_
   rw [hva_] at ge685_5
   rw [hvc_] at ul685_5
   have HL685_5 := am (show Kd.V Kd.string 9 _ w.heap.size _ _ ((rd_T82 t652 x6_4).f1) from V_mk ul685_5 ge685_5)
   clear hva_ hvn_ hvc_ ge685_5 ul685_5
   clear hcc685 hce685
   have HR685_5 := am hi685_5
   have HC685_5 := am hl685_5
   clear hi685_5 hl685_5
   replace ⟨p685, q685⟩ := eT p685 q685
   have p686 : 0 ≤ (t668 : Int) := oX
   have q686 : t668 < (((rd_T82 t652 x6_4).f1).length : Int) := oX
   obtain ⟨ad686, e686, hx686_0⟩ := at_string (by repeat (first | (with_reducible exact HR685_5.out) | (with_reducible refine C_alloc ?_ _) | (with_reducible refine C_drewN ?_ _) | (with_reducible refine C_drew ?_) | exact HR685_5.out)) t668 p686 q686
   cases e686
   replace ⟨p686, q686⟩ := eT p686 q686
   refine start_ (n := 16) (S := fun w' => w'.cell? (ad666.add ((x6_4).toNat * 6)) = some (.string ((rd_T82 t652 x6_4).f0.f0)) ∧ w'.cell? ⟨(ad666.add ((x6_4).toNat * 6)).block, (ad666.add ((x6_4).toNat * 6)).off + 1, none⟩ = some (.string ((rd_T82 t652 x6_4).f0.f1)) ∧ w'.cell? ⟨(ad666.add ((x6_4).toNat * 6)).block, (ad666.add ((x6_4).toNat * 6)).off + 2, none⟩ = some (.int .i64 ((rd_T82 t652 x6_4).f0.f2)) ∧ w'.cell? ⟨(ad666.add ((x6_4).toNat * 6)).block, (ad666.add ((x6_4).toNat * 6)).off + 3, none⟩ = some (.int .i64 ((rd_T82 t652 x6_4).f0.f3)) ∧ w'.cell? ⟨(ad666.add ((x6_4).toNat * 6)).block, (ad666.add ((x6_4).toNat * 6)).off + 4, none⟩ = some (.int .i64 ((rd_T82 t652 x6_4).f0.f4)) ∧ w'.cell? ⟨(ad666.add ((x6_4).toNat * 6)).block, (ad666.add ((x6_4).toNat * 6)).off + 5, none⟩ = some (.slice (some ad686) ((rd_T82 t652 x6_4).f1).length c685_5) ∧ w'.cell? (ad686.add (t668).toNat) = some (.string (rdOf ByteArray.empty ((rd_T82 t652 x6_4).f1) t668))) (ds := []) (bm 16 0) (by kernel_rfl) rfl rfl ⟨hx685_0, hx685_1, hx685_2, hx685_3, hx685_4, hx685_5, hx686_0⟩ (fun hHeld => ?_); refine with_tabW spec_l20Paid.tab11 spec_l20Paid.bits11 (fun HT_ HW_ => ?_)
   generalize w41.drew = w42 at HO_5 HO661 HO664 HL666_5 HL667_5 BK646 HI0 HK HB HL685_5 HR685_5 hx685_0 hx685_1 hx685_2 hx685_3 hx685_4 hx685_5 hx686_0 hHeld ⊢
   refine pA 0 61 (bm 16 1) HT_ ?_
   refine pA 1 62 (bm 16 3) HT_ ?_
   refine pA 2 63 (bm 16 7) HT_ ?_
   refine pA 4 65 (bm 16 23) HT_ ?_
   refine pA 5 66 (bm 16 55) HT_ ?_
   refine pA 6 67 (bm 16 119) HT_ ?_
   refine pA 7 68 (bm 16 247) HT_ ?_
   refine pA 9 70 (bm 16 759) HT_ ?_
   refine pA 12 73 (bm 16 4855) HT_ ?_
   refine tA 8 69 (bm 16 5111) HT_ HW_ hHeld ?_
   refine pA 10 71 (bm 16 6135) HT_ ?_
   refine tA 11 72 (bm 16 8183) HT_ HW_ hHeld ?_
   refine oA 3 (some 64) (bm 16 8191) HT_ fun K hK => ?_
   refine gA Tryz.func45 #[.slice (some ad666) t652.length co12, .int .i64 x6_4, .int .i64 t668] ?_
   with_reducible refine (spec_l9Of.calls kj4 _ _ t652 x6_4 t668 t670 t671 t672 t673 t674 t675 t676 t679 t682 _ ?side1 ?side2 A33.out).mono ?_
   (case side1 => exact cr (V_reads' HO_5.out).2.2)
   (case side2 => exact (V_reads' HO_5.out).2.1)
   rintro e w43 ⟨v677, v680, v683, rfl, ho0, ho1, ho2, hb⟩
   have HS0_ := cB hb hHeld.1
   have HS1_ := cB hb hHeld.2.1
   have HS2_ := cB hb hHeld.2.2.1
   have HS3_ := cB hb hHeld.2.2.2.1
   have HS4_ := cB hb hHeld.2.2.2.2.1
   have HS5_ := cB hb hHeld.2.2.2.2.2.1
   have HS6_ := cB hb hHeld.2.2.2.2.2.2
   refine ⟨_, rfl, ?_⟩
   replace HO_5 := am (V_mono (V_told (V_told (V_told (V_old (va HO_5) hb) (R_base ho0)) (R_base ho1)) (R_base ho2)) (fun _ h_ => h_.1))
   replace HO661 := rk HO661 hb
   replace HL666_5 := am (V_mono (V_told (V_told (V_told (V_old (by (with_reducible repeat (first | apply V_alloc | apply V_drewN | apply V_drew)); exact HL666_5.out) hb) (R_base ho0)) (R_base ho1)) (R_base ho2)) (fun _ h_ => h_.1))
   replace HL667_5 := am (V_mono (V_told (V_told (V_told (V_old (by (with_reducible repeat (first | apply V_alloc | apply V_drewN | apply V_drew)); exact HL667_5.out) hb) (R_base ho0)) (R_base ho1)) (R_base ho2)) (fun _ h_ => h_.1))
   replace HL685_5 := am (V_mono (V_told (V_told (V_told (V_old (by (with_reducible repeat (first | apply V_alloc | apply V_drewN | apply V_drew)); exact HL685_5.out) hb) (R_base ho0)) (R_base ho1)) (R_base ho2)) (fun _ h_ => h_.1))
   have HO678 := am (R_lower (R_new' ho0 (R_lt (ra HO664))) (xZ HK))
   have HO681 := am (R_lower (R_new' ho1 (R_lt (ra HO664))) (xZ HK))
   replace HO664 := am (R_mono (R_told (R_told (R_old (ra HO664) hb) (R_base ho0)) (R_base ho1)) (fun _ h_ => h_.1))
   have HO684 := am (R_lower ho2 (xZ HK))
   replace BK646 := kP _ BK646 hb
   replace HR685_5 := am (C_below (by repeat (first | (with_reducible exact HR685_5.out) | (with_reducible refine C_alloc ?_ _) | (with_reducible refine C_drewN ?_ _) | (with_reducible refine C_drew ?_) | exact HR685_5.out)) hb)
   replace HK := kK HK hb
   replace HB := kHi HB hb
   replace HI0 := iK HI0 hb
   (try clear hb)
   (try clear hb2)
   (try clear hk)
   (try clear hi)
   (try clear ho0)
   (try clear ho1)
   (try clear ho2)
   obtain ⟨Ao50, co50, eo50⟩ := R_slice HO678.out
   (first | subst eo50 | (obtain ⟨f4_, f5_⟩ := eS eo50; subst f4_ f5_))
   obtain ⟨Ao52, co52, eo52⟩ := R_slice HO681.out
   (first | subst eo52 | (obtain ⟨f4_, f5_⟩ := eS eo52; subst f4_ f5_))
   obtain ⟨Ao54, co54, eo54⟩ := R_slice HO684.out
   (first | subst eo54 | (obtain ⟨f4_, f5_⟩ := eS eo54; subst f4_ f5_))
   refine hK.out _ _ ⟨HS0_, HS1_, HS2_, HS3_, HS4_, HS5_, HS6_⟩ (fun hHeld => ?_)
   clear hK K
   refine nA (some 64) ?_
   refine oA 13 none (bm 16 16383) HT_ fun K hK => ?_
   have hs44 : w43.cell? ⟨gb646, 0, none⟩ = some (.int .i64 0) := (blk_cell BK646.out 0).trans rfl
   have hfs44 := blk_frozen BK646.out 0
   have hs45 : w43.cell? ⟨gb646, 1, none⟩ = some (.string (⟨#[]⟩ : ByteArray)) := (blk_cell BK646.out 1).trans rfl
   have hfs45 := blk_frozen BK646.out 1
   have hs46 : w43.cell? ⟨gb646, 2, none⟩ = some (.string (⟨#[]⟩ : ByteArray)) := (blk_cell BK646.out 2).trans rfl
   have hfs46 := blk_frozen BK646.out 2
   have hs47 : w43.cell? ⟨gb646, 3, none⟩ = some (.int .i64 0) := (blk_cell BK646.out 3).trans rfl
   have hfs47 := blk_frozen BK646.out 3
   have hs48 : w43.cell? ⟨gb646, 4, none⟩ = some (.int .i64 0) := (blk_cell BK646.out 4).trans rfl
   have hfs48 := blk_frozen BK646.out 4
   have hs49 : w43.cell? ⟨gb646, 5, none⟩ = some (.int .i64 0) := (blk_cell BK646.out 5).trans rfl
   have hfs49 := blk_frozen BK646.out 5
   have hs51 : w43.cell? ⟨gb646, 6, none⟩ = some (.slice none 0 0) := (blk_cell BK646.out 6).trans rfl
   have hfs51 := blk_frozen BK646.out 6
   have hs53 : w43.cell? ⟨gb646, 7, none⟩ = some (.slice none 0 0) := (blk_cell BK646.out 7).trans rfl
   have hfs53 := blk_frozen BK646.out 7
   have hs55 : w43.cell? ⟨gb646, 8, none⟩ = some (.slice none 0 0) := (blk_cell BK646.out 8).trans rfl
   have hfs55 := blk_frozen BK646.out 8
   refine skip_ (w1 := ?_) (by rfl) rfl ?_ ?_
   rotate_left
   ·go_simp
    rfl
   have hne_ := foot_ne (C_foot_ownV HO_5.out (fun _ hk => hk.1.1.1.1.1.1)) (by have h1_ := of_eq_true p685; have h2_ := of_eq_true q685; omega) (by decide)
   refine hK.out _ _ ⟨(cf hne_ hHeld.1), (cf hne_ hHeld.2.1), (cf hne_ hHeld.2.2.1), (cf hne_ hHeld.2.2.2.1), (cf hne_ hHeld.2.2.2.2.1), (cf hne_ hHeld.2.2.2.2.2.1), (cg gb646 (by first | exact foot_ne (C_foot_ownV HL685_5.out (fun _ hk => hk.1.1.1.1.1.1)) (by have h1_ := of_eq_true p686; have h2_ := of_eq_true q686; omega) (by decide) | (rw [add_block]; exact foot_ne (C_foot_ownV HL685_5.out (fun _ hk => hk.1.1.1.1.1.1)) (by have h1_ := of_eq_true p686; have h2_ := of_eq_true q686; omega) (by decide))) hHeld.2.2.2.2.2.2)⟩ (fun hHeld => ?_)
   clear hK K
   refine pA 14 3 (bm 16 32767) HT_ ?_
   refine pA 15 4 (bm 16 65535) HT_ ?_
   refine done_ (done_of HT_.out (by kernel_rfl)) ?_
   try go_wp2
   refine bodyPost_ret (results_ctt rfl _ _ gb646 30 #[.int .i64 t670, .string t671, .string t672, .int .i64 t673, .int .i64 t674, .int .i64 t675, .slice Ao50 t676.length co50, .slice Ao52 t679.length co52, .slice Ao54 t682.length co54] (0, 0) _ rfl (fb BK646) Tryz.underlying30 rfl (by kernel_rfl)) rfl ?_
   exact ⟨_, _, _, xE, rF HO678 BK646 (fun _ hk => hk.1), rF HO681 BK646 (fun _ hk => hk.1), rF HO684 BK646 (fun _ hk => trivial), iX HI0, xBi HB, xK HK⟩

end Go.Proofs.YtgjljbaadglpnaaGreatDoor.PFnPaidGet
