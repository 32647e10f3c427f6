/- Functions of the program and what each answers: the kit's print, shortened (wip/press2.py). -/
import Derived.Test.YtgjljbaadglpnaaGreatDoorPFnPaidGetx0
import Derived.Test.YtgjljbaadglpnaaGreatDoorPFnPaidGetx14
import Derived.Test.YtgjljbaadglpnaaGreatDoorPFnPaidGetx18
import Derived.Test.YtgjljbaadglpnaaGreatDoorPFnPaidGetx33
namespace Go.Proofs.YtgjljbaadglpnaaGreatDoor.PFnPaidGet
open Go.Proofs.YtgjljbaadglpnaaGreatDoor.Sq Go.RowKit Go.Proofs.YtgjljbaadglpnaaGreatDoorW.PrintWords Go.Proofs.YtgjljbaadglpnaaGreatDoorW.PrintLast Go.Proofs.YtgjljbaadglpnaaGreatDoorW.PrintMore
open Kd
set_option linter.unusedVariables false
set_option linter.unusedSimpArgs false
set_option maxHeartbeats 64000000
set_option maxRecDepth 100000
def spec_PaidGet.j0 : Nat → ByteArray → List ByteArray → List ByteArray → List ByteArray → List ByteArray → Bool → Option (Int × ByteArray × ByteArray × Int × Int × Int × (List S93) × (List S93) × (List S48) × Bool)
 | 0, _, _, _, _, _, _ => none
 | k + 1, x0, x5, x6, x8, x10, x60 => if x60 = true then (some (0, (⟨#[]⟩ : ByteArray), (⟨#[]⟩ : ByteArray), 0, 0, 0, ([] : List S93), ([] : List S93), ([] : List S48), false)) else (if 1 < (x5.length : Int) then ((spec_HeadGet.f k (rdOf ByteArray.empty x5 1)).bind fun bt801 => (if 0 < (x5.length : Int) then ((spec_l1Num.f k (rdOf ByteArray.empty x5 0)).bind fun t809 => ((spec_l9GetPeaks.f k x6).bind fun t810 => ((spec_l9GetPeaks.f k x8).bind fun t813 => ((spec_l9GetSides.f k x10).bind fun t816 => (if bt801.2.2.2.2.2 = true then ((spec_l9Ok.f k t809 bt801.1 bt801.2.1 bt801.2.2.1 bt801.2.2.2.1 bt801.2.2.2.2.1 t810 t813 t816).bind fun t820 => (if t820 = true then ((spec_l9Put.f k t809 bt801.1 bt801.2.1 bt801.2.2.1 bt801.2.2.2.1 bt801.2.2.2.2.1 t810 t813 t816).bind fun t821 => (if t821.toList = x0.toList then (some (t809, bt801.1, bt801.2.1, bt801.2.2.1, bt801.2.2.2.1, bt801.2.2.2.2.1, t810, t813, t816, true)) else (some (0, (⟨#[]⟩ : ByteArray), (⟨#[]⟩ : ByteArray), 0, 0, 0, ([] : List S93), ([] : List S93), ([] : List S48), false)))) else (some (0, (⟨#[]⟩ : ByteArray), (⟨#[]⟩ : ByteArray), 0, 0, 0, ([] : List S93), ([] : List S93), ([] : List S48), false)))) else (some (0, (⟨#[]⟩ : ByteArray), (⟨#[]⟩ : ByteArray), 0, 0, 0, ([] : List S93), ([] : List S93), ([] : List S48), false))))))) else (none))) else (none))
def spec_PaidGet.f (k : Nat) (a0 : ByteArray) : Option (Int × ByteArray × ByteArray × Int × Int × Int × (List S93) × (List S93) × (List S48) × Bool) := (spec_l1Cut.f k a0 10 5).bind fun t778 => (if (t778.length : Int) = 5 then (if 0 < (t778.length : Int) then ((spec_l1Cut.f k (rdOf ByteArray.empty t778 0) 32 1).bind fun t782 => (if 1 < (t778.length : Int) then ((spec_l9Words.f k (rdOf ByteArray.empty t778 1) (⟨#[112, 101, 97, 107, 115]⟩ : ByteArray)).bind fun bt786 => (if 2 < (t778.length : Int) then ((spec_l9Words.f k (rdOf ByteArray.empty t778 2) (⟨#[115, 116, 101, 112, 115]⟩ : ByteArray)).bind fun bt791 => (if 3 < (t778.length : Int) then ((spec_l9Words.f k (rdOf ByteArray.empty t778 3) (⟨#[115, 105, 100, 101, 115]⟩ : ByteArray)).bind fun bt796 => (if (t782.length : Int) = 2 then (if bt786.2 = true then (if bt791.2 = true then (spec_PaidGet.j0 k a0 t782 bt786.1 bt791.1 bt796.1 (!bt796.2)) else (spec_PaidGet.j0 k a0 t782 bt786.1 bt791.1 bt796.1 true)) else (spec_PaidGet.j0 k a0 t782 bt786.1 bt791.1 bt796.1 true)) else (spec_PaidGet.j0 k a0 t782 bt786.1 bt791.1 bt796.1 true))) else (none))) else (none))) else (none))) else (none)) else (some (0, (⟨#[]⟩ : ByteArray), (⟨#[]⟩ : ByteArray), 0, 0, 0, ([] : List S93), ([] : List S93), ([] : List S48), false)))
def spec_PaidGet.T11 : Bool × List (List Nat × List Nat) := (true, [([], []), ([0], [0]), ([1], [1]), ([2], [2]), ([], []), ([], []), ([5, 3], [5]), ([], []), ([7, 6], [7]), ([6, 8], [6, 8]), ([], []), ([10, 8], [10]), ([3, 4, 9, 11], [3, 4, 9, 11]), ([], []), ([13, 12, 11, 0, 1, 2, 3, 4, 5, 6, 7, 8, 9, 10, 11, 12, 13], [12, 13])])
def spec_PaidGet.B11 : List Nat := [0, 1, 3, 7, 0, 0, 47, 0, 239, 495, 0, 1519, 4095, 0, 16383]
theorem spec_PaidGet.tab11 : rtab .any (opsOf Tryz.f12 11) = spec_PaidGet.T11 := by kernel_rfl
theorem spec_PaidGet.bits11 : waitsOk spec_PaidGet.T11.2 spec_PaidGet.B11 = true := by kernel_rfl
theorem spec_PaidGet.calls (k : Nat) (a0 : ByteArray) (r1 : Int) (r2 : ByteArray) (r3 : ByteArray) (r4 : Int) (r5 : Int) (r6 : Int) (r7 : List S93) (r8 : List S93) (r9 : List S48) (r10 : Bool) (w : World) (h : spec_PaidGet.f k a0 = some (r1, r2, r3, r4, r5, r6, r7, r8, r9, r10)) :
  Calls Tryz.prog 12 #[.string a0] w fun e w' => ∃ v6_ v7_ v8_ : Value, e = .returned (.tuple #[.agg #[.int .i64 r1, .string r2, .string r3, .int .i64 r4, .int .i64 r5, .int .i64 r6, v6_, v7_, v8_], .bool r10]) ∧ Kd.R k93 93 w' w.heap.size (fun k_ => some k_ ≠ (v7_ : Value).ownBlock) v6_ r7 ∧ Kd.R k93 93 w' w.heap.size (fun k_ => some k_ ≠ (v6_ : Value).ownBlock) v7_ r8 ∧ Kd.R k48 48 w' w.heap.size (fun _ => True) v8_ r9 ∧ Below w.heap.size w w' := by
 have hu30 := Tryz.underlying30
 have hu24 := Tryz.underlying24
 have hu27 := Tryz.underlying27
 have HB := am (Below.refl w.heap.size w)
 have H : ((spec_l1Cut.f k a0 10 5).bind fun t778 => (if (t778.length : Int) = 5 then (if 0 < (t778.length : Int) then ((spec_l1Cut.f k (rdOf ByteArray.empty t778 0) 32 1).bind fun t782 => (if 1 < (t778.length : Int) then ((spec_l9Words.f k (rdOf ByteArray.empty t778 1) (⟨#[112, 101, 97, 107, 115]⟩ : ByteArray)).bind fun bt786 => (if 2 < (t778.length : Int) then ((spec_l9Words.f k (rdOf ByteArray.empty t778 2) (⟨#[115, 116, 101, 112, 115]⟩ : ByteArray)).bind fun bt791 => (if 3 < (t778.length : Int) then ((spec_l9Words.f k (rdOf ByteArray.empty t778 3) (⟨#[115, 105, 100, 101, 115]⟩ : ByteArray)).bind fun bt796 => (if (t782.length : Int) = 2 then (if bt786.2 = true then (if bt791.2 = true then (spec_PaidGet.j0 k a0 t782 bt786.1 bt791.1 bt796.1 (!bt796.2)) else (spec_PaidGet.j0 k a0 t782 bt786.1 bt791.1 bt796.1 true)) else (spec_PaidGet.j0 k a0 t782 bt786.1 bt791.1 bt796.1 true)) else (spec_PaidGet.j0 k a0 t782 bt786.1 bt791.1 bt796.1 true))) else (none))) else (none))) else (none))) else (none)) else (some (0, (⟨#[]⟩ : ByteArray), (⟨#[]⟩ : ByteArray), 0, 0, 0, ([] : List S93), ([] : List S93), ([] : List S48), false)))) = some (r1, r2, r3, r4, r5, r6, r7, r8, r9, r10) := h
 clear h
 replace ⟨t778, A2, H⟩ := oa H
 by_cases c3 : (t778.length : Int) = 5
 rotate_left
 ·rw [if_neg c3] at H
  have c3b0 := beq_eq_false_iff_ne.mpr c3
  have c3b1 := bne_iff_ne.mpr c3
  simp only [Option.some.injEq, Prod.mk.injEq] at H
  obtain ⟨rfl, rfl, rfl, rfl, rfl, rfl, rfl, rfl, rfl, rfl⟩ := H
  go_enter Tryz.func12, Tryz.ntmps12
  go_wp2_with ((with_reducible refine gg ?_); first | (refine bE 2 #[.int .i64 0, .string (⟨#[]⟩ : ByteArray), .string (⟨#[]⟩ : ByteArray), .int .i64 0, .int .i64 0, .int .i64 0, .slice none 0 0, .slice none 0 0, .slice none 0 0] 30 ?_; intro gb777 hg w183 hbox hb; have BK777 := am (hbox); have GW777 := zB hg HB; have GE777 := zB hg HB; replace HB := kH HB hb; clear hb hbox hg) | (refine store_event (t := 30) (p := 2) (v := ?vo_) (w1 := ?wo_) ?hg ?ho ?hn ?hr ?_; (case ho => rfl); (case hg => rfl); (case hn => rfl); (case hr => go_simp; rfl); intro wq_ hW_; have BQ_ := am hW_; have hzq_ := am hW_; replace hW_ := am hW_) | (refine gL 16 Tryz.func35 #[.string a0, .int .u8 10, .int .i64 5] ?_; (try (clear hzq_ BQ_; obtain ⟨hW_⟩ := hW_; subst hW_)); (with_reducible refine (spec_l1Cut.calls k a0 10 5 t778 _ A2.out).mono ?_); rintro e w184 ⟨v779, rfl, ho0, hb⟩; refine ⟨_, rfl, ?_⟩; have HO780 := am (R_lower ho0 (below_size (xB HB))); replace BK777 := kP _ BK777 hb; replace HB := kH HB hb; (try clear hb); (try clear ho0); obtain ⟨Ao185, co185, rfl⟩ := R_slice HO780.out; have hz186 := bc9 BK777))
  (try (clear hzq_ BQ_; obtain ⟨hW_⟩ := hW_; subst hW_))
  refine bodyPost_ret (results_ct rfl _ _ gb777 30 #[.int .i64 0, .string (⟨#[]⟩ : ByteArray), .string (⟨#[]⟩ : ByteArray), .int .i64 0, .int .i64 0, .int .i64 0, .slice none 0 0, .slice none 0 0, .slice none 0 0] (0, 0) _ rfl (fb BK777) Tryz.underlying30 rfl (by kernel_rfl)) rfl ?_
  exact ⟨_, _, _, xE, xN, xN, xN, xB HB⟩
 rw [if_pos c3] at H
 have c3b0 := beq_iff_eq.mpr c3
 have c3b1 := bne_eq_false_iff_eq.mpr c3
 clear c3
 replace ⟨c4, H⟩ := ip H
 have c4b0 := dt c4
 have c4b1 : decide (0 < t778.length) = true := dt (by omega)
 clear c4
 replace ⟨t782, A5, H⟩ := oa H
 replace ⟨c6, H⟩ := ip H
 have c6b0 := dt c6
 have c6b1 : decide (1 < t778.length) = true := dt (by omega)
 clear c6
 replace H := Option.bind_eq_some_iff.mp H
 obtain ⟨⟨t786, t787⟩, A70, H⟩ := H
 have A7 := am A70
 clear A70
 replace ⟨c8, H⟩ := ip H
 have c8b0 := dt c8
 have c8b1 : decide (2 < t778.length) = true := dt (by omega)
 clear c8
 replace H := Option.bind_eq_some_iff.mp H
 obtain ⟨⟨t791, t792⟩, A90, H⟩ := H
 have A9 := am A90
 clear A90
 replace ⟨c10, H⟩ := ip H
 have c10b0 := dt c10
 have c10b1 : decide (3 < t778.length) = true := dt (by omega)
 clear c10
 replace H := Option.bind_eq_some_iff.mp H
 obtain ⟨⟨t796, t797⟩, A110, H⟩ := H
 have A11 := am A110
 clear A110
 have HC12 := am H
 clear H
 go_enter Tryz.func12, Tryz.ntmps12
 go_upto_region 8 with ((with_reducible refine gg ?_); first | (refine bE 2 #[.int .i64 0, .string (⟨#[]⟩ : ByteArray), .string (⟨#[]⟩ : ByteArray), .int .i64 0, .int .i64 0, .int .i64 0, .slice none 0 0, .slice none 0 0, .slice none 0 0] 30 ?_; (try (clear hzq_ BQ_; obtain ⟨hW_⟩ := hW_; subst hW_)); intro gb777 hg w13 hbox hb; have BK777 := am (hbox); have GW777 := zB hg HB; have GE777 := zB hg HB; replace HB := kH HB hb; clear hb hbox hg) | (refine store_event (t := 30) (p := 2) (v := ?vo_) (w1 := ?wo_) ?hg ?ho ?hn ?hr ?_; (case ho => rfl); (case hg => rfl); (case hn => rfl); (case hr => go_simp; rfl); intro wq_ hW_; have BQ_ := am hW_; have hzq_ := am hW_; replace hW_ := am hW_) | (refine gL 16 Tryz.func35 #[.string a0, .int .u8 10, .int .i64 5] ?_; (try (clear hzq_ BQ_; obtain ⟨hW_⟩ := hW_; subst hW_)); (with_reducible refine (spec_l1Cut.calls k a0 10 5 t778 _ A2.out).mono ?_); rintro e w14 ⟨v779, rfl, ho0, hb⟩; refine ⟨_, rfl, ?_⟩; have HO780 := am (R_lower ho0 (below_size (xB HB))); replace BK777 := kP _ BK777 hb; replace HB := kH HB hb; (try clear hb); (try clear ho0); obtain ⟨Ao15, co15, rfl⟩ := R_slice HO780.out; have p781 : 0 ≤ (0 : Int) := (by omega); have q781 : 0 < (t778.length : Int) := oX; obtain ⟨ad781, e781, hx781_0⟩ := at_string (R_reads' HO780.out).2.2 0 p781 q781; cases e781; have qi781 : (0 < t778.length) = True := eq_true (by omega); (try rw [show ((0 : Int)).toNat = 0 from rfl] at hx781_0); (try rw [Addr.add_zero'] at hx781_0); replace ⟨p781, q781⟩ := eT p781 q781) | (refine gL 24 Tryz.func35 #[.string (rdOf ByteArray.empty t778 0), .int .u8 32, .int .i64 1] ?_; (try (clear hzq_ BQ_; obtain ⟨hW_⟩ := hW_; subst hW_)); (with_reducible refine (spec_l1Cut.calls k (rdOf ByteArray.empty t778 0) 32 1 t782 _ A5.out).mono ?_); rintro e w16 ⟨v783, rfl, ho0, hb⟩; refine ⟨_, rfl, ?_⟩; have HO784 := am (R_lower (R_new' ho0 (R_lt (ra HO780))) (below_size (xB HB))); replace HO780 := am (R_elder' (ra HO780) (R_base ho0) hb); replace BK777 := kP _ BK777 hb; replace HB := kH HB hb; (try clear hb); (try clear ho0); have p785 : 0 ≤ (1 : Int) := (by omega); have q785 : 1 < (t778.length : Int) := oX; obtain ⟨ad785, e785, hx785_0⟩ := at_string (R_reads' HO780.out).2.2 1 p785 q785; obtain rfl : ad781 = ad785 := (by injection e785); (try simp only [show (1 : Int).toNat = 1 from rfl, Nat.reduceMul, Nat.reduceEqDiff, Go.Addr.add, ↓reduceIte] at hx785_0); have qi785 : (1 < t778.length) = True := eq_true (by omega); (try rw [show ((1 : Int)).toNat = 1 from rfl] at hx785_0); replace ⟨p785, q785⟩ := eT p785 q785) | (refine gL 29 Tryz.func36 #[.string (rdOf ByteArray.empty t778 1), .string (⟨#[112, 101, 97, 107, 115]⟩ : ByteArray)] ?_; (try (clear hzq_ BQ_; obtain ⟨hW_⟩ := hW_; subst hW_)); (with_reducible refine (spec_l9Words.calls k (rdOf ByteArray.empty t778 1) (⟨#[112, 101, 97, 107, 115]⟩ : ByteArray) t786 t787 _ A7.out).mono ?_); rintro e w17 ⟨v788, rfl, ho0, hb⟩; refine ⟨_, rfl, ?_⟩; have HO789 := am (Q_lower (Q_new' (Q_new' ho0 (R_lt (ra HO780))) (R_lt (ra HO784))) (below_size (xB HB))); replace HO780 := am (R_elder' (ra HO780) (Q_base ho0) hb); replace HO784 := am (R_elder' (ra HO784) (Q_base ho0) hb); replace BK777 := kP _ BK777 hb; replace HB := kH HB hb; (try clear hb); (try clear ho0); have p790 : 0 ≤ (2 : Int) := (by omega); have q790 : 2 < (t778.length : Int) := oX; obtain ⟨ad790, e790, hx790_0⟩ := at_string (R_reads' HO780.out).2.2 2 p790 q790; obtain rfl : ad781 = ad790 := (by injection e790); (try simp only [show (2 : Int).toNat = 2 from rfl, Nat.reduceMul, Nat.reduceEqDiff, Go.Addr.add, ↓reduceIte] at hx790_0); have qi790 : (2 < t778.length) = True := eq_true (by omega); (try rw [show ((2 : Int)).toNat = 2 from rfl] at hx790_0); replace ⟨p790, q790⟩ := eT p790 q790) | (refine gL 36 Tryz.func36 #[.string (rdOf ByteArray.empty t778 2), .string (⟨#[115, 116, 101, 112, 115]⟩ : ByteArray)] ?_; (try (clear hzq_ BQ_; obtain ⟨hW_⟩ := hW_; subst hW_)); (with_reducible refine (spec_l9Words.calls k (rdOf ByteArray.empty t778 2) (⟨#[115, 116, 101, 112, 115]⟩ : ByteArray) t791 t792 _ A9.out).mono ?_); rintro e w18 ⟨v793, rfl, ho0, hb⟩; refine ⟨_, rfl, ?_⟩; have HO794 := am (Q_lower (Q_new' (Q_new' (Q_new' ho0 (R_lt (ra HO780))) (R_lt (ra HO784))) (Q_lt (qa HO789))) (below_size (xB HB))); replace HO780 := am (R_elder' (ra HO780) (Q_base ho0) hb); replace HO784 := am (R_elder' (ra HO784) (Q_base ho0) hb); replace HO789 := am (Q_elder' (qa HO789) (Q_base ho0) hb); replace BK777 := kP _ BK777 hb; replace HB := kH HB hb; (try clear hb); (try clear ho0); have p795 : 0 ≤ (3 : Int) := (by omega); have q795 : 3 < (t778.length : Int) := oX; obtain ⟨ad795, e795, hx795_0⟩ := at_string (R_reads' HO780.out).2.2 3 p795 q795; obtain rfl : ad781 = ad795 := (by injection e795); (try simp only [show (3 : Int).toNat = 3 from rfl, Nat.reduceMul, Nat.reduceEqDiff, Go.Addr.add, ↓reduceIte] at hx795_0); have qi795 : (3 < t778.length) = True := eq_true (by omega); (try rw [show ((3 : Int)).toNat = 3 from rfl] at hx795_0); replace ⟨p795, q795⟩ := eT p795 q795) | (refine gL 43 Tryz.func36 #[.string (rdOf ByteArray.empty t778 3), .string (⟨#[115, 105, 100, 101, 115]⟩ : ByteArray)] ?_; (try (clear hzq_ BQ_; obtain ⟨hW_⟩ := hW_; subst hW_)); (with_reducible refine (spec_l9Words.calls k (rdOf ByteArray.empty t778 3) (⟨#[115, 105, 100, 101, 115]⟩ : ByteArray) t796 t797 _ A11.out).mono ?_); rintro e w19 ⟨v798, rfl, ho0, hb⟩; refine ⟨_, rfl, ?_⟩; have HO799 := am (Q_lower (Q_new' (Q_new' (Q_new' (Q_new' ho0 (R_lt (ra HO780))) (R_lt (ra HO784))) (Q_lt (qa HO789))) (Q_lt (qa HO794))) (below_size (xB HB))); replace HO780 := am (R_elder' (ra HO780) (Q_base ho0) hb); replace HO784 := am (R_elder' (ra HO784) (Q_base ho0) hb); replace HO789 := am (Q_elder' (qa HO789) (Q_base ho0) hb); replace HO794 := am (Q_elder' (qa HO794) (Q_base ho0) hb); replace BK777 := kP _ BK777 hb; replace HB := kH HB hb; (try clear hb); (try clear ho0)))
 (try simp only [Act.put, sa, s0, s1])
 (try (clear hzq_ BQ_; obtain ⟨hW_⟩ := hW_; subst hW_))
 go_cut [60] (fun v60 wc => ∃ (kq : Nat) (x60_11 : Bool), v60 = .bool x60_11 ∧ Aside0 (spec_PaidGet.j0 kq a0 t782 t786 t791 t796 x60_11 = some (r1, r2, r3, r4, r5, r6, r7, r8, r9, r10)) ∧ Aside0 (kq ≤ k) ∧ Aside0 (Kd.R Kd.string 9 wc w.heap.size (fun k_ => some k_ ≠ (v788 : Value).ownBlock ∧ some k_ ≠ (v793 : Value).ownBlock ∧ some k_ ≠ (v798 : Value).ownBlock) v783 t782) ∧ Aside0 (Kd.Q Kd.string 9 wc w.heap.size (fun k_ => some k_ ≠ (v783 : Value).ownBlock ∧ some k_ ≠ (v793 : Value).ownBlock ∧ some k_ ≠ (v798 : Value).ownBlock) v788 t786) ∧ Aside0 (Kd.Q Kd.string 9 wc w.heap.size (fun k_ => some k_ ≠ (v783 : Value).ownBlock ∧ some k_ ≠ (v788 : Value).ownBlock ∧ some k_ ≠ (v798 : Value).ownBlock) v793 t791) ∧ Aside0 (Kd.Q Kd.string 9 wc w.heap.size (fun k_ => some k_ ≠ (v783 : Value).ownBlock ∧ some k_ ≠ (v788 : Value).ownBlock ∧ some k_ ≠ (v793 : Value).ownBlock) v798 t796) ∧ Aside0 (wc.heap[gb777]? = some (.cells #[.int .i64 0, .string (⟨#[]⟩ : ByteArray), .string (⟨#[]⟩ : ByteArray), .int .i64 0, .int .i64 0, .int .i64 0, (.slice none 0 0), (.slice none 0 0), (.slice none 0 0)] 30 (0, 0))) ∧ Aside0 (Below w.heap.size w wc))
 case first =>
  have H := HC12.out
  clear HC12
  by_cases c20 : (t782.length : Int) = 2
  rotate_left
  ·rw [if_neg c20] at H
   have c20b0 := beq_eq_false_iff_ne.mpr c20
   have c20b1 := bne_iff_ne.mpr c20
   (first | rw [c20b0] | rw [c20b1] | (simp only [i64_w, i32_w]; rw [c20b0]) | skip)
   have H' := am H
   clear H
   obtain ⟨Ao26, co26, rfl⟩ := R_slice HO784.out
   go_wp2
   (try (clear hzq_ BQ_; obtain ⟨hW_⟩ := hW_; subst hW_))
   go_meet
   case rel => exact ⟨_, (true), xR, H', ⟨xO⟩, ⟨rM HO784 (fun _ hk => ⟨hk.1.1.2, ⟨hk.1.2, hk.2⟩⟩)⟩, ⟨qM HO789 (fun _ hk => ⟨hk.1.1.2, ⟨hk.1.2, hk.2⟩⟩)⟩, ⟨qM HO794 (fun _ hk => ⟨hk.1.1.2, ⟨hk.1.2, hk.2⟩⟩)⟩, ⟨qM HO799 (fun _ hk => ⟨hk.1.1.2, ⟨hk.1.2, hk.2⟩⟩)⟩, ⟨kb BK777⟩, ⟨xB HB⟩⟩
  rw [if_pos c20] at H
  have c20b0 := beq_iff_eq.mpr c20
  have c20b1 := bne_eq_false_iff_eq.mpr c20
  clear c20
  (first | rw [c20b0] | rw [c20b1] | (simp only [i64_w, i32_w]; rw [c20b0]) | skip)
  by_cases c21 : t787 = true
  rotate_left
  ·replace c21 := bF c21
   subst c21
   rw [if_neg nF] at H
   have H' := am H
   clear H
   obtain ⟨Ao25, co25, rfl⟩ := R_slice HO784.out
   go_wp2
   (try (clear hzq_ BQ_; obtain ⟨hW_⟩ := hW_; subst hW_))
   go_meet
   case rel => exact ⟨_, (true), xR, H', ⟨xO⟩, ⟨rM HO784 (fun _ hk => ⟨hk.1.1.2, ⟨hk.1.2, hk.2⟩⟩)⟩, ⟨qM HO789 (fun _ hk => ⟨hk.1.1.2, ⟨hk.1.2, hk.2⟩⟩)⟩, ⟨qM HO794 (fun _ hk => ⟨hk.1.1.2, ⟨hk.1.2, hk.2⟩⟩)⟩, ⟨qM HO799 (fun _ hk => ⟨hk.1.1.2, ⟨hk.1.2, hk.2⟩⟩)⟩, ⟨kb BK777⟩, ⟨xB HB⟩⟩
  subst c21
  rw [if_pos rfl] at H
  by_cases c22 : t792 = true
  ·subst c22
   rw [if_pos rfl] at H
   have H' := am H
   clear H
   obtain ⟨Ao23, co23, rfl⟩ := R_slice HO784.out
   go_wp2
   (try (clear hzq_ BQ_; obtain ⟨hW_⟩ := hW_; subst hW_))
   go_meet
   case rel => exact ⟨_, (!t797), xR, H', ⟨xO⟩, ⟨rM HO784 (fun _ hk => ⟨hk.1.1.2, ⟨hk.1.2, hk.2⟩⟩)⟩, ⟨qM HO789 (fun _ hk => ⟨hk.1.1.2, ⟨hk.1.2, hk.2⟩⟩)⟩, ⟨qM HO794 (fun _ hk => ⟨hk.1.1.2, ⟨hk.1.2, hk.2⟩⟩)⟩, ⟨qM HO799 (fun _ hk => ⟨hk.1.1.2, ⟨hk.1.2, hk.2⟩⟩)⟩, ⟨kb BK777⟩, ⟨xB HB⟩⟩
  replace c22 := bF c22
  subst c22
  rw [if_neg nF] at H
  have H' := am H
  clear H
  obtain ⟨Ao24, co24, rfl⟩ := R_slice HO784.out
  go_wp2
  (try (clear hzq_ BQ_; obtain ⟨hW_⟩ := hW_; subst hW_))
  go_meet
  case rel => exact ⟨_, (true), xR, H', ⟨xO⟩, ⟨rM HO784 (fun _ hk => ⟨hk.1.1.2, ⟨hk.1.2, hk.2⟩⟩)⟩, ⟨qM HO789 (fun _ hk => ⟨hk.1.1.2, ⟨hk.1.2, hk.2⟩⟩)⟩, ⟨qM HO794 (fun _ hk => ⟨hk.1.1.2, ⟨hk.1.2, hk.2⟩⟩)⟩, ⟨qM HO799 (fun _ hk => ⟨hk.1.1.2, ⟨hk.1.2, hk.2⟩⟩)⟩, ⟨kb BK777⟩, ⟨xB HB⟩⟩
 case rest =>
  clear HC12
  try clear c3 c3b0 c3b1 c4 c4b0 c4b1 c6 c6b0 c6b1 c8 c8b0 c8b1 c10 c10b0 c10b1 hx781_0 hx785_0 hx790_0 hx795_0 p781 p785 p790 p795 q781 q785 q790 q795
  obtain ⟨kq, x60_11, rfl, HA, HJ11, HO_5, HO_6, HO_8, HO_10, BK777, HB⟩ := hcut
  cases kq with
  | zero => exact absurd HA.out (by simp [spec_PaidGet.j0])
  | succ kj11 =>
   have H := HA.out
   clear HA
   simp only [spec_PaidGet.j0] at H
   by_cases c27 : x60_11 = true
   ·subst c27
    rw [if_pos rfl] at H
    simp only [Option.some.injEq, Prod.mk.injEq] at H
    obtain ⟨rfl, rfl, rfl, rfl, rfl, rfl, rfl, rfl, rfl, rfl⟩ := H
    (first | have hz28 := bc9 (kF _ BK777 hW_.out) | have hz28 := bc9 BK777)
    go_wp2
    (try (clear hzq_ BQ_; obtain ⟨hW_⟩ := hW_; subst hW_))
    refine bodyPost_ret (results_ct rfl _ _ gb777 30 #[.int .i64 0, .string (⟨#[]⟩ : ByteArray), .string (⟨#[]⟩ : ByteArray), .int .i64 0, .int .i64 0, .int .i64 0, .slice none 0 0, .slice none 0 0, .slice none 0 0] (0, 0) _ rfl (fb BK777) Tryz.underlying30 rfl (by kernel_rfl)) rfl ?_
    exact ⟨_, _, _, xE, xN, xN, xN, xB HB⟩
   replace c27 := bF c27
   subst c27
   rw [if_neg nF] at H
   replace ⟨c29, H⟩ := ip H
   have c29b0 := dt c29
   have c29b1 : decide (1 < t782.length) = true := dt (by omega)
   clear c29
   replace H := Option.bind_eq_some_iff.mp H
   obtain ⟨⟨t801, t802, t803, t804, t805, t806⟩, A300, H⟩ := H
   have A30 := am A300
   clear A300
   replace ⟨c31, H⟩ := ip H
   have c31b0 := dt c31
   have c31b1 : decide (0 < t782.length) = true := dt (by omega)
   clear c31
   replace ⟨t809, A32, H⟩ := oa H
   replace ⟨t810, A33, H⟩ := oa H
   replace ⟨t813, A34, H⟩ := oa H
   replace ⟨t816, A35, H⟩ := oa H
   obtain ⟨Ao41, co41, rfl⟩ := R_slice HO_5.out
   have p800 : 0 ≤ (1 : Int) := (by omega)
   have q800 : 1 < (t782.length : Int) := oX
   obtain ⟨ad800, e800, hx800_0⟩ := at_string (R_reads' HO_5.out).2.2 1 p800 q800
   cases e800
   (try simp only [show (1 : Int).toNat = 1 from rfl, Nat.reduceMul, Nat.reduceEqDiff, Go.Addr.add, ↓reduceIte] at hx800_0)
   have qi800 : (1 < t782.length) = True := eq_true (by omega)
   (try rw [show ((1 : Int)).toNat = 1 from rfl] at hx800_0)
   replace ⟨p800, q800⟩ := eT p800 q800
   try go_wp2_with ((with_reducible refine gg ?_); first | (refine gL 66 Tryz.func37 #[.string (rdOf ByteArray.empty t782 1)] ?_; (try (clear hzq_ BQ_; obtain ⟨hW_⟩ := hW_; subst hW_)); (with_reducible refine (spec_HeadGet.calls kj11 (rdOf ByteArray.empty t782 1) t801 t802 t803 t804 t805 t806 _ A30.out).mono ?_); rintro e w42 ⟨rfl, hb⟩; refine ⟨_, rfl, ?_⟩; replace HO_5 := rk HO_5 hb; replace HO_6 := qk HO_6 hb; replace HO_8 := qk HO_8 hb; replace HO_10 := qk HO_10 hb; replace BK777 := kP _ BK777 hb; replace HB := kH HB hb; (try clear hb)) | (refine bE 12 #[.string (⟨#[]⟩ : ByteArray), .string (⟨#[]⟩ : ByteArray), .int .i64 0, .int .i64 0, .int .i64 0] 24 ?_; (try (clear hzq_ BQ_; obtain ⟨hW_⟩ := hW_; subst hW_)); intro gb807 hg w43 hbox hb; replace HO_5 := rk HO_5 hb; replace HO_6 := qk HO_6 hb; replace HO_8 := qk HO_8 hb; replace HO_10 := qk HO_10 hb; have BK807 := am (hbox); have GW807 := zB hg HB; have GE807 := zB hg HB; replace HB := kH HB hb; have NB777_807 := nl hg (kb BK777); have NB807_777 := ng hg (kb BK777); replace BK777 := kP _ BK777 hb; clear hb hbox hg; have hnb44 := NB807_777.out; have hnc44 := NB777_807.out; have hz45 := bc5 BK807; obtain ⟨Ao46, co46, eo46, _⟩ := Q_slice HO_6.out; subst eo46; obtain ⟨Ao47, co47, eo47, _⟩ := Q_slice HO_8.out; subst eo47; obtain ⟨Ao48, co48, eo48, _⟩ := Q_slice HO_10.out; subst eo48) | (refine store_event (t := 24) (p := 12) (v := ?vo_) (w1 := ?wo_) ?hg ?ho ?hn ?hr ?_; (case ho => rfl); (case hg => rfl); (case hn => rfl); (case hr => go_simp; rfl); intro wq_ hW_; have BQ_ := am hW_; have hzq_ := am hW_; replace hW_ := am hW_))
   have n0_ : Aside0 (Kd.R Kd.string 9 (((((w43.setCell ⟨gb807, 0, none⟩ (.string t801)).setCell ⟨gb807, 1, none⟩ (.string t802)).setCell ⟨gb807, 2, none⟩ (.int .i64 t803)).setCell ⟨gb807, 3, none⟩ (.int .i64 t804)).setCell ⟨gb807, 4, none⟩ (.int .i64 t805)) w.heap.size (fun k_ => some k_ ≠ (.slice Ao46 t786.length co46 : Value).ownBlock ∧ some k_ ≠ (.slice Ao47 t791.length co47 : Value).ownBlock ∧ some k_ ≠ (.slice Ao48 t796.length co48 : Value).ownBlock) (.slice (some ad800) t782.length co41) t782) := ⟨rF HO_5 BK807 (fun _ hk => ⟨hk.1, ⟨hk.2.1, hk.2.2⟩⟩)⟩
   have n1_ : Aside0 (Kd.Q Kd.string 9 (((((w43.setCell ⟨gb807, 0, none⟩ (.string t801)).setCell ⟨gb807, 1, none⟩ (.string t802)).setCell ⟨gb807, 2, none⟩ (.int .i64 t803)).setCell ⟨gb807, 3, none⟩ (.int .i64 t804)).setCell ⟨gb807, 4, none⟩ (.int .i64 t805)) w.heap.size (fun k_ => some k_ ≠ (.slice (some ad800) t782.length co41 : Value).ownBlock ∧ some k_ ≠ (.slice Ao47 t791.length co47 : Value).ownBlock ∧ some k_ ≠ (.slice Ao48 t796.length co48 : Value).ownBlock) (.slice Ao46 t786.length co46) t786) := ⟨by (with_reducible repeat (first | apply Q_alloc | apply Q_drewN | apply Q_drew)); exact Q_mono (Q_far (p := ⟨gb807, 4, none⟩) (Q_far (p := ⟨gb807, 3, none⟩) (Q_far (p := ⟨gb807, 2, none⟩) (Q_far (p := ⟨gb807, 1, none⟩) (Q_far (p := ⟨gb807, 0, none⟩) (Q_types HO_6.out BK807.out (by decide)) h2 (.string t801)) h2 (.string t802)) h2 (.int .i64 t803)) h2 (.int .i64 t804)) h2 (.int .i64 t805)) (fun _ hk => ⟨hk.1.1, ⟨hk.1.2.1, hk.1.2.2⟩⟩)⟩
   have n2_ : Aside0 (Kd.Q Kd.string 9 (((((w43.setCell ⟨gb807, 0, none⟩ (.string t801)).setCell ⟨gb807, 1, none⟩ (.string t802)).setCell ⟨gb807, 2, none⟩ (.int .i64 t803)).setCell ⟨gb807, 3, none⟩ (.int .i64 t804)).setCell ⟨gb807, 4, none⟩ (.int .i64 t805)) w.heap.size (fun k_ => some k_ ≠ (.slice (some ad800) t782.length co41 : Value).ownBlock ∧ some k_ ≠ (.slice Ao46 t786.length co46 : Value).ownBlock ∧ some k_ ≠ (.slice Ao48 t796.length co48 : Value).ownBlock) (.slice Ao47 t791.length co47) t791) := ⟨by (with_reducible repeat (first | apply Q_alloc | apply Q_drewN | apply Q_drew)); exact Q_mono (Q_far (p := ⟨gb807, 4, none⟩) (Q_far (p := ⟨gb807, 3, none⟩) (Q_far (p := ⟨gb807, 2, none⟩) (Q_far (p := ⟨gb807, 1, none⟩) (Q_far (p := ⟨gb807, 0, none⟩) (Q_types HO_8.out BK807.out (by decide)) h2 (.string t801)) h2 (.string t802)) h2 (.int .i64 t803)) h2 (.int .i64 t804)) h2 (.int .i64 t805)) (fun _ hk => ⟨hk.1.1, ⟨hk.1.2.1, hk.1.2.2⟩⟩)⟩
   have n3_ : Aside0 (Kd.Q Kd.string 9 (((((w43.setCell ⟨gb807, 0, none⟩ (.string t801)).setCell ⟨gb807, 1, none⟩ (.string t802)).setCell ⟨gb807, 2, none⟩ (.int .i64 t803)).setCell ⟨gb807, 3, none⟩ (.int .i64 t804)).setCell ⟨gb807, 4, none⟩ (.int .i64 t805)) w.heap.size (fun k_ => some k_ ≠ (.slice (some ad800) t782.length co41 : Value).ownBlock ∧ some k_ ≠ (.slice Ao46 t786.length co46 : Value).ownBlock ∧ some k_ ≠ (.slice Ao47 t791.length co47 : Value).ownBlock) (.slice Ao48 t796.length co48) t796) := ⟨by (with_reducible repeat (first | apply Q_alloc | apply Q_drewN | apply Q_drew)); exact Q_mono (Q_far (p := ⟨gb807, 4, none⟩) (Q_far (p := ⟨gb807, 3, none⟩) (Q_far (p := ⟨gb807, 2, none⟩) (Q_far (p := ⟨gb807, 1, none⟩) (Q_far (p := ⟨gb807, 0, none⟩) (Q_types HO_10.out BK807.out (by decide)) h2 (.string t801)) h2 (.string t802)) h2 (.int .i64 t803)) h2 (.int .i64 t804)) h2 (.int .i64 t805)) (fun _ hk => ⟨hk.1.1, ⟨hk.1.2.1, hk.1.2.2⟩⟩)⟩
   have n4_ : Aside0 ((((((w43.setCell ⟨gb807, 0, none⟩ (.string t801)).setCell ⟨gb807, 1, none⟩ (.string t802)).setCell ⟨gb807, 2, none⟩ (.int .i64 t803)).setCell ⟨gb807, 3, none⟩ (.int .i64 t804)).setCell ⟨gb807, 4, none⟩ (.int .i64 t805)).heap[gb777]? = some (.cells #[.int .i64 0, .string (⟨#[]⟩ : ByteArray), .string (⟨#[]⟩ : ByteArray), .int .i64 0, .int .i64 0, .int .i64 0, .slice none 0 0, .slice none 0 0, .slice none 0 0] 30 (0, 0))) := ⟨fb BK777⟩
   have n5_ : Aside0 ((((((w43.setCell ⟨gb807, 0, none⟩ (.string t801)).setCell ⟨gb807, 1, none⟩ (.string t802)).setCell ⟨gb807, 2, none⟩ (.int .i64 t803)).setCell ⟨gb807, 3, none⟩ (.int .i64 t804)).setCell ⟨gb807, 4, none⟩ (.int .i64 t805)).heap[gb807]? = some (.cells #[.string t801, .string t802, .int .i64 t803, .int .i64 t804, .int .i64 t805] 24 (0, 0))) := ⟨fb BK807⟩
   have n6_ : Aside0 (Below w.heap.size w (((((w43.setCell ⟨gb807, 0, none⟩ (.string t801)).setCell ⟨gb807, 1, none⟩ (.string t802)).setCell ⟨gb807, 2, none⟩ (.int .i64 t803)).setCell ⟨gb807, 3, none⟩ (.int .i64 t804)).setCell ⟨gb807, 4, none⟩ (.int .i64 t805))) := ⟨xB HB⟩
   (try clear HO_5)
   (try clear HO_6)
   (try clear HO_8)
   (try clear HO_10)
   (try clear BK777)
   (try clear BK807)
   (try clear HB)
   generalize (((((w43.setCell ⟨gb807, 0, none⟩ (.string t801)).setCell ⟨gb807, 1, none⟩ (.string t802)).setCell ⟨gb807, 2, none⟩ (.int .i64 t803)).setCell ⟨gb807, 3, none⟩ (.int .i64 t804)).setCell ⟨gb807, 4, none⟩ (.int .i64 t805)) = w49 at n0_ n1_ n2_ n3_ n4_ n5_ n6_ ⊢
   have HO_5 := n0_
   have HO_6 := n1_
   have HO_8 := n2_
   have HO_10 := n3_
   have BK777 := n4_
   have BK807 := n5_
   have HB := n6_
   clear n0_ n1_ n2_ n3_ n4_ n5_ n6_
   replace HO_5 := am (R_drew HO_5.out)
   replace HO_6 := am (Q_drew HO_6.out)
   replace HO_8 := am (Q_drew HO_8.out)
   replace HO_10 := am (Q_drew HO_10.out)
   replace BK777 := am (blk_drew BK777.out)
   replace BK807 := am (blk_drew BK807.out)
   replace HB := am (below_drew1 HB.out)
   have p808 : 0 ≤ (0 : Int) := (by omega)
   have q808 : 0 < (t782.length : Int) := oX
   obtain ⟨ad808, e808, hx808_0⟩ := at_string (R_reads' HO_5.out).2.2 0 p808 q808
   obtain rfl : ad800 = ad808 := (by injection e808)
   have qi808 : (0 < t782.length) = True := eq_true (by omega)
   (try rw [show ((0 : Int)).toNat = 0 from rfl] at hx808_0)
   (try rw [Addr.add_zero'] at hx808_0)
   replace ⟨p808, q808⟩ := eT p808 q808
   (try (clear hzq_ BQ_; obtain ⟨hW_⟩ := hW_; subst hW_))
   refine start_ (n := 15) (S := fun w' => w'.cell? ⟨gb807, 0, none⟩ = some (.string t801) ∧ w'.cell? ⟨gb807, 1, none⟩ = some (.string t802) ∧ w'.cell? ⟨gb807, 2, none⟩ = some (.int .i64 t803) ∧ w'.cell? ⟨gb807, 3, none⟩ = some (.int .i64 t804) ∧ w'.cell? ⟨gb807, 4, none⟩ = some (.int .i64 t805) ∧ w'.cell? ad800 = some (.string (rdOf ByteArray.empty t782 0))) (ds := []) (bm 15 0) (by kernel_rfl) rfl rfl ⟨(blk_cell BK807.out 0).trans rfl, (blk_cell BK807.out 1).trans rfl, (blk_cell BK807.out 2).trans rfl, (blk_cell BK807.out 3).trans rfl, (blk_cell BK807.out 4).trans rfl, hx808_0⟩ (fun hHeld => ?_); refine with_tabW spec_PaidGet.tab11 spec_PaidGet.bits11 (fun HT_ HW_ => ?_)
   generalize w49.drew = w50 at HO_5 HO_6 HO_8 HO_10 BK777 BK807 HB hx808_0 hHeld ⊢
   refine pA 0 69 (bm 15 1) HT_ ?_
   refine pA 1 70 (bm 15 3) HT_ ?_
   refine pA 5 74 (bm 15 35) HT_ ?_
   refine pA 7 76 (bm 15 163) HT_ ?_
   refine pA 10 79 (bm 15 1187) HT_ ?_
   refine tA 2 71 (bm 15 1191) HT_ HW_ hHeld ?_
   refine tA 4 73 (bm 15 1207) HT_ HW_ hHeld ?_
   refine join_ (σ := Value × Value × Value × Nat) 1 (bm 15 16383) (fun s_ => [(72, .int .i64 t809), (75, s_.1), (77, s_.2.1), (80, s_.2.2.1), (14, .pointer (some ⟨s_.2.2.2, 0, none⟩)), (78, .agg #[s_.1, s_.2.1]), (81, .agg #[.int .i64 t809, .string t801, .string t802, .int .i64 t803, .int .i64 t804, .int .i64 t805, s_.1, s_.2.1, s_.2.2.1])]) (fun s_ w' => (w'.cell? ⟨gb807, 0, none⟩ = some (.string t801) ∧ w'.cell? ⟨gb807, 1, none⟩ = some (.string t802) ∧ w'.cell? ⟨gb807, 2, none⟩ = some (.int .i64 t803) ∧ w'.cell? ⟨gb807, 3, none⟩ = some (.int .i64 t804) ∧ w'.cell? ⟨gb807, 4, none⟩ = some (.int .i64 t805) ∧ w'.cell? ad800 = some (.string (rdOf ByteArray.empty t782 0))) ∧ (Kd.R k93 93 w' w.heap.size (fun k_ => some k_ ≠ (s_.2.1 : Value).ownBlock) s_.1 t810) ∧ (Kd.R k93 93 w' w.heap.size (fun k_ => some k_ ≠ (s_.1 : Value).ownBlock) s_.2.1 t813) ∧ (Kd.R k48 48 w' w.heap.size (fun _ => True) s_.2.2.1 t816) ∧ (Kd.Q Kd.string 9 w' w.heap.size (fun k_ => some k_ ≠ (.slice (some ad800) t782.length co41 : Value).ownBlock ∧ some k_ ≠ (.slice Ao46 t786.length co46 : Value).ownBlock ∧ some k_ ≠ (.slice Ao47 t791.length co47 : Value).ownBlock) (.slice Ao48 t796.length co48) t796) ∧ (Kd.R Kd.string 9 w' w.heap.size (fun k_ => some k_ ≠ (.slice Ao48 t796.length co48 : Value).ownBlock ∧ some k_ ≠ (.slice Ao46 t786.length co46 : Value).ownBlock ∧ some k_ ≠ (.slice Ao47 t791.length co47 : Value).ownBlock) (.slice (some ad800) t782.length co41) t782) ∧ (Kd.Q Kd.string 9 w' w.heap.size (fun k_ => some k_ ≠ (.slice Ao48 t796.length co48 : Value).ownBlock ∧ some k_ ≠ (.slice (some ad800) t782.length co41 : Value).ownBlock ∧ some k_ ≠ (.slice Ao47 t791.length co47 : Value).ownBlock) (.slice Ao46 t786.length co46) t786) ∧ (Kd.Q Kd.string 9 w' w.heap.size (fun k_ => some k_ ≠ (.slice Ao48 t796.length co48 : Value).ownBlock ∧ some k_ ≠ (.slice (some ad800) t782.length co41 : Value).ownBlock ∧ some k_ ≠ (.slice Ao46 t786.length co46 : Value).ownBlock) (.slice Ao47 t791.length co47) t791) ∧ (w'.heap[gb777]? = some (.cells #[.int .i64 0, .string (⟨#[]⟩ : ByteArray), .string (⟨#[]⟩ : ByteArray), .int .i64 0, .int .i64 0, .int .i64 0, .slice none 0 0, .slice none 0 0, .slice none 0 0] 30 (0, 0))) ∧ (w'.heap[gb807]? = some (.cells #[.string t801, .string t802, .int .i64 t803, .int .i64 t804, .int .i64 t805] 24 (0, 0))) ∧ (w'.heap[s_.2.2.2]? = some (.cells #[.int .i64 0, .string (⟨#[]⟩ : ByteArray), .string (⟨#[]⟩ : ByteArray), .int .i64 0, .int .i64 0, .int .i64 0, .slice none 0 0, .slice none 0 0, .slice none 0 0] 30 (0, 0))) ∧ (w.heap.size ≤ s_.2.2.2) ∧ (w.heap.size ≤ s_.2.2.2) ∧ (gb777 ≠ s_.2.2.2) ∧ (s_.2.2.2 ≠ gb777) ∧ (gb807 ≠ s_.2.2.2) ∧ (s_.2.2.2 ≠ gb807) ∧ (Below w.heap.size w w')) ?_ ?_
   rotate_left
   ·intro hJ3_6_8_11_13
    refine join_ (σ := Value × Value × Value) 2 (bm 15 8191) (fun s_ => [(72, .int .i64 t809), (75, s_.1), (77, s_.2.1), (80, s_.2.2), (78, .agg #[s_.1, s_.2.1]), (81, .agg #[.int .i64 t809, .string t801, .string t802, .int .i64 t803, .int .i64 t804, .int .i64 t805, s_.1, s_.2.1, s_.2.2])]) (fun s_ w' => (w'.cell? ⟨gb807, 0, none⟩ = some (.string t801) ∧ w'.cell? ⟨gb807, 1, none⟩ = some (.string t802) ∧ w'.cell? ⟨gb807, 2, none⟩ = some (.int .i64 t803) ∧ w'.cell? ⟨gb807, 3, none⟩ = some (.int .i64 t804) ∧ w'.cell? ⟨gb807, 4, none⟩ = some (.int .i64 t805) ∧ w'.cell? ad800 = some (.string (rdOf ByteArray.empty t782 0))) ∧ (Kd.R k93 93 w' w.heap.size (fun k_ => some k_ ≠ (s_.2.1 : Value).ownBlock) s_.1 t810) ∧ (Kd.R k93 93 w' w.heap.size (fun k_ => some k_ ≠ (s_.1 : Value).ownBlock) s_.2.1 t813) ∧ (Kd.R k48 48 w' w.heap.size (fun _ => True) s_.2.2 t816) ∧ (Kd.Q Kd.string 9 w' w.heap.size (fun k_ => some k_ ≠ (.slice (some ad800) t782.length co41 : Value).ownBlock ∧ some k_ ≠ (.slice Ao46 t786.length co46 : Value).ownBlock ∧ some k_ ≠ (.slice Ao47 t791.length co47 : Value).ownBlock) (.slice Ao48 t796.length co48) t796) ∧ (Kd.R Kd.string 9 w' w.heap.size (fun k_ => some k_ ≠ (.slice Ao48 t796.length co48 : Value).ownBlock ∧ some k_ ≠ (.slice Ao46 t786.length co46 : Value).ownBlock ∧ some k_ ≠ (.slice Ao47 t791.length co47 : Value).ownBlock) (.slice (some ad800) t782.length co41) t782) ∧ (Kd.Q Kd.string 9 w' w.heap.size (fun k_ => some k_ ≠ (.slice Ao48 t796.length co48 : Value).ownBlock ∧ some k_ ≠ (.slice (some ad800) t782.length co41 : Value).ownBlock ∧ some k_ ≠ (.slice Ao47 t791.length co47 : Value).ownBlock) (.slice Ao46 t786.length co46) t786) ∧ (Kd.Q Kd.string 9 w' w.heap.size (fun k_ => some k_ ≠ (.slice Ao48 t796.length co48 : Value).ownBlock ∧ some k_ ≠ (.slice (some ad800) t782.length co41 : Value).ownBlock ∧ some k_ ≠ (.slice Ao46 t786.length co46 : Value).ownBlock) (.slice Ao47 t791.length co47) t791) ∧ (w'.heap[gb777]? = some (.cells #[.int .i64 0, .string (⟨#[]⟩ : ByteArray), .string (⟨#[]⟩ : ByteArray), .int .i64 0, .int .i64 0, .int .i64 0, .slice none 0 0, .slice none 0 0, .slice none 0 0] 30 (0, 0))) ∧ (w'.heap[gb807]? = some (.cells #[.string t801, .string t802, .int .i64 t803, .int .i64 t804, .int .i64 t805] 24 (0, 0))) ∧ (Below w.heap.size w w')) ?_ ?_
    rotate_left
    ·intro hJ3_6_8_11
     refine join_ (σ := Value × Value × Nat) 3 (bm 15 10239) (fun s_ => [(72, .int .i64 t809), (75, s_.1), (77, s_.2.1), (14, .pointer (some ⟨s_.2.2, 0, none⟩)), (78, .agg #[s_.1, s_.2.1])]) (fun s_ w' => (w'.cell? ⟨gb807, 0, none⟩ = some (.string t801) ∧ w'.cell? ⟨gb807, 1, none⟩ = some (.string t802) ∧ w'.cell? ⟨gb807, 2, none⟩ = some (.int .i64 t803) ∧ w'.cell? ⟨gb807, 3, none⟩ = some (.int .i64 t804) ∧ w'.cell? ⟨gb807, 4, none⟩ = some (.int .i64 t805) ∧ w'.cell? ad800 = some (.string (rdOf ByteArray.empty t782 0))) ∧ (Kd.R k93 93 w' w.heap.size (fun k_ => some k_ ≠ (s_.2.1 : Value).ownBlock) s_.1 t810) ∧ (Kd.R k93 93 w' w.heap.size (fun k_ => some k_ ≠ (s_.1 : Value).ownBlock) s_.2.1 t813) ∧ (Kd.Q Kd.string 9 w' w.heap.size (fun k_ => some k_ ≠ (.slice (some ad800) t782.length co41 : Value).ownBlock ∧ some k_ ≠ (.slice Ao46 t786.length co46 : Value).ownBlock ∧ some k_ ≠ (.slice Ao47 t791.length co47 : Value).ownBlock) (.slice Ao48 t796.length co48) t796) ∧ (Kd.R Kd.string 9 w' w.heap.size (fun k_ => some k_ ≠ (.slice Ao48 t796.length co48 : Value).ownBlock ∧ some k_ ≠ (.slice Ao46 t786.length co46 : Value).ownBlock ∧ some k_ ≠ (.slice Ao47 t791.length co47 : Value).ownBlock) (.slice (some ad800) t782.length co41) t782) ∧ (Kd.Q Kd.string 9 w' w.heap.size (fun k_ => some k_ ≠ (.slice Ao48 t796.length co48 : Value).ownBlock ∧ some k_ ≠ (.slice (some ad800) t782.length co41 : Value).ownBlock ∧ some k_ ≠ (.slice Ao47 t791.length co47 : Value).ownBlock) (.slice Ao46 t786.length co46) t786) ∧ (Kd.Q Kd.string 9 w' w.heap.size (fun k_ => some k_ ≠ (.slice Ao48 t796.length co48 : Value).ownBlock ∧ some k_ ≠ (.slice (some ad800) t782.length co41 : Value).ownBlock ∧ some k_ ≠ (.slice Ao46 t786.length co46 : Value).ownBlock) (.slice Ao47 t791.length co47) t791) ∧ (w'.heap[gb777]? = some (.cells #[.int .i64 0, .string (⟨#[]⟩ : ByteArray), .string (⟨#[]⟩ : ByteArray), .int .i64 0, .int .i64 0, .int .i64 0, .slice none 0 0, .slice none 0 0, .slice none 0 0] 30 (0, 0))) ∧ (w'.heap[gb807]? = some (.cells #[.string t801, .string t802, .int .i64 t803, .int .i64 t804, .int .i64 t805] 24 (0, 0))) ∧ (w'.heap[s_.2.2]? = some (.cells #[.int .i64 0, .string (⟨#[]⟩ : ByteArray), .string (⟨#[]⟩ : ByteArray), .int .i64 0, .int .i64 0, .int .i64 0, .slice none 0 0, .slice none 0 0, .slice none 0 0] 30 (0, 0))) ∧ (w.heap.size ≤ s_.2.2) ∧ (w.heap.size ≤ s_.2.2) ∧ (gb777 ≠ s_.2.2) ∧ (s_.2.2 ≠ gb777) ∧ (gb807 ≠ s_.2.2) ∧ (s_.2.2 ≠ gb807) ∧ (Below w.heap.size w w')) ?_ ?_
     rotate_left
     ·intro hJ3_6_8_13
      refine join_ (σ := Value × Value) 4 (bm 15 2047) (fun s_ => [(72, .int .i64 t809), (75, s_.1), (77, s_.2), (78, .agg #[s_.1, s_.2])]) (fun s_ w' => (w'.cell? ⟨gb807, 0, none⟩ = some (.string t801) ∧ w'.cell? ⟨gb807, 1, none⟩ = some (.string t802) ∧ w'.cell? ⟨gb807, 2, none⟩ = some (.int .i64 t803) ∧ w'.cell? ⟨gb807, 3, none⟩ = some (.int .i64 t804) ∧ w'.cell? ⟨gb807, 4, none⟩ = some (.int .i64 t805) ∧ w'.cell? ad800 = some (.string (rdOf ByteArray.empty t782 0))) ∧ (Kd.R k93 93 w' w.heap.size (fun k_ => some k_ ≠ (s_.2 : Value).ownBlock) s_.1 t810) ∧ (Kd.R k93 93 w' w.heap.size (fun k_ => some k_ ≠ (s_.1 : Value).ownBlock) s_.2 t813) ∧ (Kd.Q Kd.string 9 w' w.heap.size (fun k_ => some k_ ≠ (.slice (some ad800) t782.length co41 : Value).ownBlock ∧ some k_ ≠ (.slice Ao46 t786.length co46 : Value).ownBlock ∧ some k_ ≠ (.slice Ao47 t791.length co47 : Value).ownBlock) (.slice Ao48 t796.length co48) t796) ∧ (Kd.R Kd.string 9 w' w.heap.size (fun k_ => some k_ ≠ (.slice Ao48 t796.length co48 : Value).ownBlock ∧ some k_ ≠ (.slice Ao46 t786.length co46 : Value).ownBlock ∧ some k_ ≠ (.slice Ao47 t791.length co47 : Value).ownBlock) (.slice (some ad800) t782.length co41) t782) ∧ (Kd.Q Kd.string 9 w' w.heap.size (fun k_ => some k_ ≠ (.slice Ao48 t796.length co48 : Value).ownBlock ∧ some k_ ≠ (.slice (some ad800) t782.length co41 : Value).ownBlock ∧ some k_ ≠ (.slice Ao47 t791.length co47 : Value).ownBlock) (.slice Ao46 t786.length co46) t786) ∧ (Kd.Q Kd.string 9 w' w.heap.size (fun k_ => some k_ ≠ (.slice Ao48 t796.length co48 : Value).ownBlock ∧ some k_ ≠ (.slice (some ad800) t782.length co41 : Value).ownBlock ∧ some k_ ≠ (.slice Ao46 t786.length co46 : Value).ownBlock) (.slice Ao47 t791.length co47) t791) ∧ (w'.heap[gb777]? = some (.cells #[.int .i64 0, .string (⟨#[]⟩ : ByteArray), .string (⟨#[]⟩ : ByteArray), .int .i64 0, .int .i64 0, .int .i64 0, .slice none 0 0, .slice none 0 0, .slice none 0 0] 30 (0, 0))) ∧ (w'.heap[gb807]? = some (.cells #[.string t801, .string t802, .int .i64 t803, .int .i64 t804, .int .i64 t805] 24 (0, 0))) ∧ (Below w.heap.size w w')) ?_ ?_
      rotate_left
      ·intro hJ3_6_8
       refine join_ (σ := Value × Nat) 5 (bm 15 9471) (fun s_ => [(72, .int .i64 t809), (75, s_.1), (14, .pointer (some ⟨s_.2, 0, none⟩))]) (fun s_ w' => (w'.cell? ⟨gb807, 0, none⟩ = some (.string t801) ∧ w'.cell? ⟨gb807, 1, none⟩ = some (.string t802) ∧ w'.cell? ⟨gb807, 2, none⟩ = some (.int .i64 t803) ∧ w'.cell? ⟨gb807, 3, none⟩ = some (.int .i64 t804) ∧ w'.cell? ⟨gb807, 4, none⟩ = some (.int .i64 t805) ∧ w'.cell? ad800 = some (.string (rdOf ByteArray.empty t782 0))) ∧ (Kd.R k93 93 w' w.heap.size (fun _ => True) s_.1 t810) ∧ (Kd.Q Kd.string 9 w' w.heap.size (fun k_ => some k_ ≠ (.slice (some ad800) t782.length co41 : Value).ownBlock ∧ some k_ ≠ (.slice Ao46 t786.length co46 : Value).ownBlock ∧ some k_ ≠ (.slice Ao47 t791.length co47 : Value).ownBlock) (.slice Ao48 t796.length co48) t796) ∧ (Kd.R Kd.string 9 w' w.heap.size (fun k_ => some k_ ≠ (.slice Ao48 t796.length co48 : Value).ownBlock ∧ some k_ ≠ (.slice Ao46 t786.length co46 : Value).ownBlock ∧ some k_ ≠ (.slice Ao47 t791.length co47 : Value).ownBlock) (.slice (some ad800) t782.length co41) t782) ∧ (Kd.Q Kd.string 9 w' w.heap.size (fun k_ => some k_ ≠ (.slice Ao48 t796.length co48 : Value).ownBlock ∧ some k_ ≠ (.slice (some ad800) t782.length co41 : Value).ownBlock ∧ some k_ ≠ (.slice Ao47 t791.length co47 : Value).ownBlock) (.slice Ao46 t786.length co46) t786) ∧ (Kd.Q Kd.string 9 w' w.heap.size (fun k_ => some k_ ≠ (.slice Ao48 t796.length co48 : Value).ownBlock ∧ some k_ ≠ (.slice (some ad800) t782.length co41 : Value).ownBlock ∧ some k_ ≠ (.slice Ao46 t786.length co46 : Value).ownBlock) (.slice Ao47 t791.length co47) t791) ∧ (w'.heap[gb777]? = some (.cells #[.int .i64 0, .string (⟨#[]⟩ : ByteArray), .string (⟨#[]⟩ : ByteArray), .int .i64 0, .int .i64 0, .int .i64 0, .slice none 0 0, .slice none 0 0, .slice none 0 0] 30 (0, 0))) ∧ (w'.heap[gb807]? = some (.cells #[.string t801, .string t802, .int .i64 t803, .int .i64 t804, .int .i64 t805] 24 (0, 0))) ∧ (w'.heap[s_.2]? = some (.cells #[.int .i64 0, .string (⟨#[]⟩ : ByteArray), .string (⟨#[]⟩ : ByteArray), .int .i64 0, .int .i64 0, .int .i64 0, .slice none 0 0, .slice none 0 0, .slice none 0 0] 30 (0, 0))) ∧ (w.heap.size ≤ s_.2) ∧ (w.heap.size ≤ s_.2) ∧ (gb777 ≠ s_.2) ∧ (s_.2 ≠ gb777) ∧ (gb807 ≠ s_.2) ∧ (s_.2 ≠ gb807) ∧ (Below w.heap.size w w')) ?_ ?_
       rotate_left
       ·intro hJ3_6_13
        refine join_ (σ := Value) 6 (bm 15 1279) (fun s_ => [(72, .int .i64 t809), (75, s_)]) (fun s_ w' => (w'.cell? ⟨gb807, 0, none⟩ = some (.string t801) ∧ w'.cell? ⟨gb807, 1, none⟩ = some (.string t802) ∧ w'.cell? ⟨gb807, 2, none⟩ = some (.int .i64 t803) ∧ w'.cell? ⟨gb807, 3, none⟩ = some (.int .i64 t804) ∧ w'.cell? ⟨gb807, 4, none⟩ = some (.int .i64 t805) ∧ w'.cell? ad800 = some (.string (rdOf ByteArray.empty t782 0))) ∧ (Kd.R k93 93 w' w.heap.size (fun _ => True) s_ t810) ∧ (Kd.Q Kd.string 9 w' w.heap.size (fun k_ => some k_ ≠ (.slice (some ad800) t782.length co41 : Value).ownBlock ∧ some k_ ≠ (.slice Ao46 t786.length co46 : Value).ownBlock ∧ some k_ ≠ (.slice Ao47 t791.length co47 : Value).ownBlock) (.slice Ao48 t796.length co48) t796) ∧ (Kd.R Kd.string 9 w' w.heap.size (fun k_ => some k_ ≠ (.slice Ao48 t796.length co48 : Value).ownBlock ∧ some k_ ≠ (.slice Ao46 t786.length co46 : Value).ownBlock ∧ some k_ ≠ (.slice Ao47 t791.length co47 : Value).ownBlock) (.slice (some ad800) t782.length co41) t782) ∧ (Kd.Q Kd.string 9 w' w.heap.size (fun k_ => some k_ ≠ (.slice Ao48 t796.length co48 : Value).ownBlock ∧ some k_ ≠ (.slice (some ad800) t782.length co41 : Value).ownBlock ∧ some k_ ≠ (.slice Ao47 t791.length co47 : Value).ownBlock) (.slice Ao46 t786.length co46) t786) ∧ (Kd.Q Kd.string 9 w' w.heap.size (fun k_ => some k_ ≠ (.slice Ao48 t796.length co48 : Value).ownBlock ∧ some k_ ≠ (.slice (some ad800) t782.length co41 : Value).ownBlock ∧ some k_ ≠ (.slice Ao46 t786.length co46 : Value).ownBlock) (.slice Ao47 t791.length co47) t791) ∧ (w'.heap[gb777]? = some (.cells #[.int .i64 0, .string (⟨#[]⟩ : ByteArray), .string (⟨#[]⟩ : ByteArray), .int .i64 0, .int .i64 0, .int .i64 0, .slice none 0 0, .slice none 0 0, .slice none 0 0] 30 (0, 0))) ∧ (w'.heap[gb807]? = some (.cells #[.string t801, .string t802, .int .i64 t803, .int .i64 t804, .int .i64 t805] 24 (0, 0))) ∧ (Below w.heap.size w w')) ?_ ?_
        rotate_left
        ·intro hJ3_6
         refine join_ (σ := Nat) 6 (bm 15 9407) (fun s_ => [(72, .int .i64 t809), (14, .pointer (some ⟨s_, 0, none⟩))]) (fun s_ w' => (w'.cell? ⟨gb807, 0, none⟩ = some (.string t801) ∧ w'.cell? ⟨gb807, 1, none⟩ = some (.string t802) ∧ w'.cell? ⟨gb807, 2, none⟩ = some (.int .i64 t803) ∧ w'.cell? ⟨gb807, 3, none⟩ = some (.int .i64 t804) ∧ w'.cell? ⟨gb807, 4, none⟩ = some (.int .i64 t805) ∧ w'.cell? ad800 = some (.string (rdOf ByteArray.empty t782 0))) ∧ (Kd.Q Kd.string 9 w' w.heap.size (fun k_ => some k_ ≠ (.slice (some ad800) t782.length co41 : Value).ownBlock ∧ some k_ ≠ (.slice Ao46 t786.length co46 : Value).ownBlock ∧ some k_ ≠ (.slice Ao47 t791.length co47 : Value).ownBlock) (.slice Ao48 t796.length co48) t796) ∧ (Kd.R Kd.string 9 w' w.heap.size (fun k_ => some k_ ≠ (.slice Ao48 t796.length co48 : Value).ownBlock ∧ some k_ ≠ (.slice Ao46 t786.length co46 : Value).ownBlock ∧ some k_ ≠ (.slice Ao47 t791.length co47 : Value).ownBlock) (.slice (some ad800) t782.length co41) t782) ∧ (Kd.Q Kd.string 9 w' w.heap.size (fun k_ => some k_ ≠ (.slice Ao48 t796.length co48 : Value).ownBlock ∧ some k_ ≠ (.slice (some ad800) t782.length co41 : Value).ownBlock ∧ some k_ ≠ (.slice Ao47 t791.length co47 : Value).ownBlock) (.slice Ao46 t786.length co46) t786) ∧ (Kd.Q Kd.string 9 w' w.heap.size (fun k_ => some k_ ≠ (.slice Ao48 t796.length co48 : Value).ownBlock ∧ some k_ ≠ (.slice (some ad800) t782.length co41 : Value).ownBlock ∧ some k_ ≠ (.slice Ao46 t786.length co46 : Value).ownBlock) (.slice Ao47 t791.length co47) t791) ∧ (w'.heap[gb777]? = some (.cells #[.int .i64 0, .string (⟨#[]⟩ : ByteArray), .string (⟨#[]⟩ : ByteArray), .int .i64 0, .int .i64 0, .int .i64 0, .slice none 0 0, .slice none 0 0, .slice none 0 0] 30 (0, 0))) ∧ (w'.heap[gb807]? = some (.cells #[.string t801, .string t802, .int .i64 t803, .int .i64 t804, .int .i64 t805] 24 (0, 0))) ∧ (w'.heap[s_]? = some (.cells #[.int .i64 0, .string (⟨#[]⟩ : ByteArray), .string (⟨#[]⟩ : ByteArray), .int .i64 0, .int .i64 0, .int .i64 0, .slice none 0 0, .slice none 0 0, .slice none 0 0] 30 (0, 0))) ∧ (w.heap.size ≤ s_) ∧ (w.heap.size ≤ s_) ∧ (gb777 ≠ s_) ∧ (s_ ≠ gb777) ∧ (gb807 ≠ s_) ∧ (s_ ≠ gb807) ∧ (Below w.heap.size w w')) ?_ ?_
         rotate_left
         ·intro hJ3_13
          refine join_ (σ := Unit) 7 (bm 15 1215) (fun s_ => [(72, .int .i64 t809)]) (fun s_ w' => (w'.cell? ⟨gb807, 0, none⟩ = some (.string t801) ∧ w'.cell? ⟨gb807, 1, none⟩ = some (.string t802) ∧ w'.cell? ⟨gb807, 2, none⟩ = some (.int .i64 t803) ∧ w'.cell? ⟨gb807, 3, none⟩ = some (.int .i64 t804) ∧ w'.cell? ⟨gb807, 4, none⟩ = some (.int .i64 t805) ∧ w'.cell? ad800 = some (.string (rdOf ByteArray.empty t782 0))) ∧ (Kd.Q Kd.string 9 w' w.heap.size (fun k_ => some k_ ≠ (.slice (some ad800) t782.length co41 : Value).ownBlock ∧ some k_ ≠ (.slice Ao46 t786.length co46 : Value).ownBlock ∧ some k_ ≠ (.slice Ao47 t791.length co47 : Value).ownBlock) (.slice Ao48 t796.length co48) t796) ∧ (Kd.R Kd.string 9 w' w.heap.size (fun k_ => some k_ ≠ (.slice Ao48 t796.length co48 : Value).ownBlock ∧ some k_ ≠ (.slice Ao46 t786.length co46 : Value).ownBlock ∧ some k_ ≠ (.slice Ao47 t791.length co47 : Value).ownBlock) (.slice (some ad800) t782.length co41) t782) ∧ (Kd.Q Kd.string 9 w' w.heap.size (fun k_ => some k_ ≠ (.slice Ao48 t796.length co48 : Value).ownBlock ∧ some k_ ≠ (.slice (some ad800) t782.length co41 : Value).ownBlock ∧ some k_ ≠ (.slice Ao47 t791.length co47 : Value).ownBlock) (.slice Ao46 t786.length co46) t786) ∧ (Kd.Q Kd.string 9 w' w.heap.size (fun k_ => some k_ ≠ (.slice Ao48 t796.length co48 : Value).ownBlock ∧ some k_ ≠ (.slice (some ad800) t782.length co41 : Value).ownBlock ∧ some k_ ≠ (.slice Ao46 t786.length co46 : Value).ownBlock) (.slice Ao47 t791.length co47) t791) ∧ (w'.heap[gb777]? = some (.cells #[.int .i64 0, .string (⟨#[]⟩ : ByteArray), .string (⟨#[]⟩ : ByteArray), .int .i64 0, .int .i64 0, .int .i64 0, .slice none 0 0, .slice none 0 0, .slice none 0 0] 30 (0, 0))) ∧ (w'.heap[gb807]? = some (.cells #[.string t801, .string t802, .int .i64 t803, .int .i64 t804, .int .i64 t805] 24 (0, 0))) ∧ (Below w.heap.size w w')) ?_ ?_
          rotate_left
          ·intro hJ3
           refine join_ (σ := Nat) 7 (bm 15 9399) (fun s_ => [(14, .pointer (some ⟨s_, 0, none⟩))]) (fun s_ w' => (w'.cell? ⟨gb807, 0, none⟩ = some (.string t801) ∧ w'.cell? ⟨gb807, 1, none⟩ = some (.string t802) ∧ w'.cell? ⟨gb807, 2, none⟩ = some (.int .i64 t803) ∧ w'.cell? ⟨gb807, 3, none⟩ = some (.int .i64 t804) ∧ w'.cell? ⟨gb807, 4, none⟩ = some (.int .i64 t805) ∧ w'.cell? ad800 = some (.string (rdOf ByteArray.empty t782 0))) ∧ (Kd.Q Kd.string 9 w' w.heap.size (fun k_ => some k_ ≠ (.slice (some ad800) t782.length co41 : Value).ownBlock ∧ some k_ ≠ (.slice Ao46 t786.length co46 : Value).ownBlock ∧ some k_ ≠ (.slice Ao47 t791.length co47 : Value).ownBlock) (.slice Ao48 t796.length co48) t796) ∧ (Kd.R Kd.string 9 w' w.heap.size (fun k_ => some k_ ≠ (.slice Ao48 t796.length co48 : Value).ownBlock ∧ some k_ ≠ (.slice Ao46 t786.length co46 : Value).ownBlock ∧ some k_ ≠ (.slice Ao47 t791.length co47 : Value).ownBlock) (.slice (some ad800) t782.length co41) t782) ∧ (Kd.Q Kd.string 9 w' w.heap.size (fun k_ => some k_ ≠ (.slice Ao48 t796.length co48 : Value).ownBlock ∧ some k_ ≠ (.slice (some ad800) t782.length co41 : Value).ownBlock ∧ some k_ ≠ (.slice Ao47 t791.length co47 : Value).ownBlock) (.slice Ao46 t786.length co46) t786) ∧ (Kd.Q Kd.string 9 w' w.heap.size (fun k_ => some k_ ≠ (.slice Ao48 t796.length co48 : Value).ownBlock ∧ some k_ ≠ (.slice (some ad800) t782.length co41 : Value).ownBlock ∧ some k_ ≠ (.slice Ao46 t786.length co46 : Value).ownBlock) (.slice Ao47 t791.length co47) t791) ∧ (w'.heap[gb777]? = some (.cells #[.int .i64 0, .string (⟨#[]⟩ : ByteArray), .string (⟨#[]⟩ : ByteArray), .int .i64 0, .int .i64 0, .int .i64 0, .slice none 0 0, .slice none 0 0, .slice none 0 0] 30 (0, 0))) ∧ (w'.heap[gb807]? = some (.cells #[.string t801, .string t802, .int .i64 t803, .int .i64 t804, .int .i64 t805] 24 (0, 0))) ∧ (w'.heap[s_]? = some (.cells #[.int .i64 0, .string (⟨#[]⟩ : ByteArray), .string (⟨#[]⟩ : ByteArray), .int .i64 0, .int .i64 0, .int .i64 0, .slice none 0 0, .slice none 0 0, .slice none 0 0] 30 (0, 0))) ∧ (w.heap.size ≤ s_) ∧ (w.heap.size ≤ s_) ∧ (gb777 ≠ s_) ∧ (s_ ≠ gb777) ∧ (gb807 ≠ s_) ∧ (s_ ≠ gb807) ∧ (Below w.heap.size w w')) ?_ ?_
           rotate_left
           ·intro hJ13
            refine two_ (i := 3) (j := 13) (Ni := some 72) (Nj := some 14) (bm 15 1215) (bm 15 9399) rfl rfl rfl rfl (two_of HT_.out (by kernel_rfl)) (by decide) (by decide) (fun K hK => ?_) (fun K hK => ?_)
            ·skip
             refine gA Tryz.func38 #[.string (rdOf ByteArray.empty t782 0)] ?_
             with_reducible refine (spec_l1Num.calls kj11 (rdOf ByteArray.empty t782 0) t809 _ A32.out).mono ?_
             rintro e w' ⟨rfl, ⟨nd, rfl⟩⟩
             refine ⟨_, rfl, ?_⟩
             refine hK.out _ _ ⟨(blk_cell BK807.out 0).trans rfl, (blk_cell BK807.out 1).trans rfl, (blk_cell BK807.out 2).trans rfl, (blk_cell BK807.out 3).trans rfl, (blk_cell BK807.out 4).trans rfl, hHeld.2.2.2.2.2⟩ (fun hHeld => ?_)
             clear hK K
             refine nA (some 72) ?_
             exact nR (hJ3 () _ ⟨hHeld, (qa HO_10), (rM HO_5 (fun _ hk => ⟨hk.2.2, ⟨hk.1, hk.2.1⟩⟩)), (qM HO_6 (fun _ hk => ⟨hk.2.2, ⟨hk.1, hk.2.1⟩⟩)), (qM HO_8 (fun _ hk => ⟨hk.2.2, ⟨hk.1, hk.2.1⟩⟩)), (kb BK777), (kb BK807), (xB HB)⟩)
            ·skip
             refine bS 14 #[.int .i64 0, .string (⟨#[]⟩ : ByteArray), .string (⟨#[]⟩ : ByteArray), .int .i64 0, .int .i64 0, .int .i64 0, .slice none 0 0, .slice none 0 0, .slice none 0 0] 30 ?_
             intro gb819 hg w51 hbox hb
             have HS5_ := cB hb hHeld.2.2.2.2.2
             replace HO_5 := rk HO_5 hb
             replace HO_6 := qk HO_6 hb
             replace HO_8 := qk HO_8 hb
             replace HO_10 := qk HO_10 hb
             have BK819 := am (hbox)
             have GW819 := zB hg HB
             have GE819 := zB hg HB
             replace HB := kH HB hb
             have NB777_819 := nl hg (kb BK777)
             have NB819_777 := ng hg (kb BK777)
             replace BK777 := kP _ BK777 hb
             have NB807_819 := nl hg (kb BK807)
             have NB819_807 := ng hg (kb BK807)
             replace BK807 := kP _ BK807 hb
             clear hb hbox hg
             refine hK.out _ _ ⟨(blk_cell BK807.out 0).trans rfl, (blk_cell BK807.out 1).trans rfl, (blk_cell BK807.out 2).trans rfl, (blk_cell BK807.out 3).trans rfl, (blk_cell BK807.out 4).trans rfl, HS5_⟩ (fun hHeld => ?_)
             clear hK K
             refine nA (some 14) ?_
             exact nR (hJ13 (gb819) _ ⟨hHeld, (qa HO_10), (rM HO_5 (fun _ hk => ⟨hk.2.2, ⟨hk.1, hk.2.1⟩⟩)), (qM HO_6 (fun _ hk => ⟨hk.2.2, ⟨hk.1, hk.2.1⟩⟩)), (qM HO_8 (fun _ hk => ⟨hk.2.2, ⟨hk.1, hk.2.1⟩⟩)), (kb BK777), (kb BK807), (kb BK819), GW819.out, GE819.out, NB777_819.out, NB819_777.out, NB807_819.out, NB819_807.out, (xB HB)⟩)
           ·skip
            rintro gb819 w52 ⟨hS_, h0_, h1_, h2_, h3_, h4_, h5_, h6_, h7_, h8_, h9_, h10_, h11_, h12_, h13_⟩
            try dsimp only at h0_ h1_ h2_ h3_ h4_ h5_ h6_ h7_ h8_ h9_ h10_ h11_ h12_ h13_
            have n0_ := am h0_
            have n1_ := am h1_
            have n2_ := am h2_
            have n3_ := am h3_
            have n4_ := am h4_
            have n5_ := am h5_
            have n6_ := am h6_
            have n7_ := am h7_
            have n8_ := am h8_
            have n9_ := am h9_
            have n10_ := am h10_
            have n11_ := am h11_
            have n12_ := am h12_
            have n13_ := am h13_
            clear HO_5
            clear HO_6
            clear HO_8
            clear HO_10
            clear BK777
            clear BK807
            clear HB
            clear h0_ h1_ h2_ h3_ h4_ h5_ h6_ h7_ h8_ h9_ h10_ h11_ h12_ h13_
            have HO_10 := n0_
            have HO_5 := n1_
            have HO_6 := n2_
            have HO_8 := n3_
            have BK777 := n4_
            have BK807 := n5_
            have BK819 := n6_
            have GW819 := n7_
            have GE819 := n8_
            have NB777_819 := n9_
            have NB819_777 := n10_
            have NB807_819 := n11_
            have NB819_807 := n12_
            have HB := n13_
            clear n0_ n1_ n2_ n3_ n4_ n5_ n6_ n7_ n8_ n9_ n10_ n11_ n12_ n13_
            have hHeld : w52.cell? ⟨gb807, 0, none⟩ = some (.string t801) ∧ w52.cell? ⟨gb807, 1, none⟩ = some (.string t802) ∧ w52.cell? ⟨gb807, 2, none⟩ = some (.int .i64 t803) ∧ w52.cell? ⟨gb807, 3, none⟩ = some (.int .i64 t804) ∧ w52.cell? ⟨gb807, 4, none⟩ = some (.int .i64 t805) ∧ w52.cell? ad800 = some (.string (rdOf ByteArray.empty t782 0)) := hS_
            refine norm_ (a' := ?_) ?_ ?_
            rotate_left
            ·simp only [putAll, Act.put, sa, s0, s1]
             rfl
            refine oA 3 (some 72) (bm 15 9407) HT_ fun K hK => ?_
            refine gA Tryz.func38 #[.string (rdOf ByteArray.empty t782 0)] ?_
            with_reducible refine (spec_l1Num.calls kj11 (rdOf ByteArray.empty t782 0) t809 _ A32.out).mono ?_
            rintro e w' ⟨rfl, ⟨nd, rfl⟩⟩
            refine ⟨_, rfl, ?_⟩
            refine hK.out _ _ ⟨(blk_cell BK807.out 0).trans rfl, (blk_cell BK807.out 1).trans rfl, (blk_cell BK807.out 2).trans rfl, (blk_cell BK807.out 3).trans rfl, (blk_cell BK807.out 4).trans rfl, hHeld.2.2.2.2.2⟩ (fun hHeld => ?_)
            clear hK K
            refine nA (some 72) ?_
            exact nR (hJ3_13 (gb819) _ ⟨hHeld, (qa HO_10), (ra HO_5), (qa HO_6), (qa HO_8), (kb BK777), (kb BK807), (kb BK819), GW819.out, GE819.out, NB777_819.out, NB819_777.out, NB807_819.out, NB819_807.out, (xB HB)⟩)
          ·skip
           rintro _ w51 ⟨hS_, h0_, h1_, h2_, h3_, h4_, h5_, h6_⟩
           try dsimp only at h0_ h1_ h2_ h3_ h4_ h5_ h6_
           have n0_ := am h0_
           have n1_ := am h1_
           have n2_ := am h2_
           have n3_ := am h3_
           have n4_ := am h4_
           have n5_ := am h5_
           have n6_ := am h6_
           clear HO_5
           clear HO_6
           clear HO_8
           clear HO_10
           clear BK777
           clear BK807
           clear HB
           clear h0_ h1_ h2_ h3_ h4_ h5_ h6_
           have HO_10 := n0_
           have HO_5 := n1_
           have HO_6 := n2_
           have HO_8 := n3_
           have BK777 := n4_
           have BK807 := n5_
           have HB := n6_
           clear n0_ n1_ n2_ n3_ n4_ n5_ n6_
           have hHeld : w51.cell? ⟨gb807, 0, none⟩ = some (.string t801) ∧ w51.cell? ⟨gb807, 1, none⟩ = some (.string t802) ∧ w51.cell? ⟨gb807, 2, none⟩ = some (.int .i64 t803) ∧ w51.cell? ⟨gb807, 3, none⟩ = some (.int .i64 t804) ∧ w51.cell? ⟨gb807, 4, none⟩ = some (.int .i64 t805) ∧ w51.cell? ad800 = some (.string (rdOf ByteArray.empty t782 0)) := hS_
           refine norm_ (a' := ?_) ?_ ?_
           rotate_left
           ·simp only [putAll, Act.put, sa, s0, s1]
            rfl
           refine two_ (i := 6) (j := 13) (Ni := some 75) (Nj := some 14) (bm 15 1279) (bm 15 9407) rfl rfl rfl rfl (two_of HT_.out (by kernel_rfl)) (by decide) (by decide) (fun K hK => ?_) (fun K hK => ?_)
           ·skip
            refine gA Tryz.func39 #[.slice Ao46 t786.length co46] ?_
            with_reducible refine (spec_l9GetPeaks.calls kj11 _ _ t786 t810 _ ?side1 ?side2 A33.out).mono ?_
            (case side1 => exact cr (Q_reads' HO_6.out).2.2)
            (case side2 => exact (Q_reads' HO_6.out).2.1)
            rintro e w52 ⟨v811, rfl, ho0, hb⟩
            have HS5_ := cB hb hHeld.2.2.2.2.2
            refine ⟨_, rfl, ?_⟩
            replace HO_5 := rk HO_5 hb
            replace HO_6 := qk HO_6 hb
            replace HO_8 := qk HO_8 hb
            replace HO_10 := qk HO_10 hb
            have HO812 := am (R_lower ho0 (below_size (xB HB)))
            replace BK777 := kP _ BK777 hb
            replace BK807 := kP _ BK807 hb
            replace HB := kH HB hb
            (try clear hb)
            (try clear hb2)
            (try clear hk)
            (try clear hi)
            (try clear ho0)
            refine hK.out _ _ ⟨(blk_cell BK807.out 0).trans rfl, (blk_cell BK807.out 1).trans rfl, (blk_cell BK807.out 2).trans rfl, (blk_cell BK807.out 3).trans rfl, (blk_cell BK807.out 4).trans rfl, HS5_⟩ (fun hHeld => ?_)
            clear hK K
            refine nA (some 75) ?_
            exact nR (hJ3_6 (v811) _ ⟨hHeld, (ra HO812), (qa HO_10), (ra HO_5), (qa HO_6), (qa HO_8), (kb BK777), (kb BK807), (xB HB)⟩)
           ·skip
            refine bS 14 #[.int .i64 0, .string (⟨#[]⟩ : ByteArray), .string (⟨#[]⟩ : ByteArray), .int .i64 0, .int .i64 0, .int .i64 0, .slice none 0 0, .slice none 0 0, .slice none 0 0] 30 ?_
            intro gb819 hg w52 hbox hb
            have HS5_ := cB hb hHeld.2.2.2.2.2
            replace HO_5 := rk HO_5 hb
            replace HO_6 := qk HO_6 hb
            replace HO_8 := qk HO_8 hb
            replace HO_10 := qk HO_10 hb
            have BK819 := am (hbox)
            have GW819 := zB hg HB
            have GE819 := zB hg HB
            replace HB := kH HB hb
            have NB777_819 := nl hg (kb BK777)
            have NB819_777 := ng hg (kb BK777)
            replace BK777 := kP _ BK777 hb
            have NB807_819 := nl hg (kb BK807)
            have NB819_807 := ng hg (kb BK807)
            replace BK807 := kP _ BK807 hb
            clear hb hbox hg
            refine hK.out _ _ ⟨(blk_cell BK807.out 0).trans rfl, (blk_cell BK807.out 1).trans rfl, (blk_cell BK807.out 2).trans rfl, (blk_cell BK807.out 3).trans rfl, (blk_cell BK807.out 4).trans rfl, HS5_⟩ (fun hHeld => ?_)
            clear hK K
            refine nA (some 14) ?_
            exact nR (hJ3_13 (gb819) _ ⟨hHeld, (qa HO_10), (ra HO_5), (qa HO_6), (qa HO_8), (kb BK777), (kb BK807), (kb BK819), GW819.out, GE819.out, NB777_819.out, NB819_777.out, NB807_819.out, NB819_807.out, (xB HB)⟩)
         ·skip
          rintro gb819 w52 ⟨hS_, h0_, h1_, h2_, h3_, h4_, h5_, h6_, h7_, h8_, h9_, h10_, h11_, h12_, h13_⟩
          try dsimp only at h0_ h1_ h2_ h3_ h4_ h5_ h6_ h7_ h8_ h9_ h10_ h11_ h12_ h13_
          have n0_ := am h0_
          have n1_ := am h1_
          have n2_ := am h2_
          have n3_ := am h3_
          have n4_ := am h4_
          have n5_ := am h5_
          have n6_ := am h6_
          have n7_ := am h7_
          have n8_ := am h8_
          have n9_ := am h9_
          have n10_ := am h10_
          have n11_ := am h11_
          have n12_ := am h12_
          have n13_ := am h13_
          clear HO_5
          clear HO_6
          clear HO_8
          clear HO_10
          clear BK777
          clear BK807
          clear HB
          clear h0_ h1_ h2_ h3_ h4_ h5_ h6_ h7_ h8_ h9_ h10_ h11_ h12_ h13_
          have HO_10 := n0_
          have HO_5 := n1_
          have HO_6 := n2_
          have HO_8 := n3_
          have BK777 := n4_
          have BK807 := n5_
          have BK819 := n6_
          have GW819 := n7_
          have GE819 := n8_
          have NB777_819 := n9_
          have NB819_777 := n10_
          have NB807_819 := n11_
          have NB819_807 := n12_
          have HB := n13_
          clear n0_ n1_ n2_ n3_ n4_ n5_ n6_ n7_ n8_ n9_ n10_ n11_ n12_ n13_
          have hHeld : w52.cell? ⟨gb807, 0, none⟩ = some (.string t801) ∧ w52.cell? ⟨gb807, 1, none⟩ = some (.string t802) ∧ w52.cell? ⟨gb807, 2, none⟩ = some (.int .i64 t803) ∧ w52.cell? ⟨gb807, 3, none⟩ = some (.int .i64 t804) ∧ w52.cell? ⟨gb807, 4, none⟩ = some (.int .i64 t805) ∧ w52.cell? ad800 = some (.string (rdOf ByteArray.empty t782 0)) := hS_
          refine norm_ (a' := ?_) ?_ ?_
          rotate_left
          ·simp only [putAll, Act.put, sa, s0, s1]
           rfl
          refine oA 6 (some 75) (bm 15 9471) HT_ fun K hK => ?_
          refine gA Tryz.func39 #[.slice Ao46 t786.length co46] ?_
          with_reducible refine (spec_l9GetPeaks.calls kj11 _ _ t786 t810 _ ?side1 ?side2 A33.out).mono ?_
          (case side1 => exact cr (Q_reads' HO_6.out).2.2)
          (case side2 => exact (Q_reads' HO_6.out).2.1)
          rintro e w53 ⟨v811, rfl, ho0, hb⟩
          have HS5_ := cB hb hHeld.2.2.2.2.2
          refine ⟨_, rfl, ?_⟩
          replace HO_5 := rk HO_5 hb
          replace HO_6 := qk HO_6 hb
          replace HO_8 := qk HO_8 hb
          replace HO_10 := qk HO_10 hb
          have HO812 := am (R_lower ho0 (below_size (xB HB)))
          replace BK777 := kP _ BK777 hb
          replace BK807 := kP _ BK807 hb
          replace BK819 := kP _ BK819 hb
          replace HB := kH HB hb
          (try clear hb)
          (try clear hb2)
          (try clear hk)
          (try clear hi)
          (try clear ho0)
          refine hK.out _ _ ⟨(blk_cell BK807.out 0).trans rfl, (blk_cell BK807.out 1).trans rfl, (blk_cell BK807.out 2).trans rfl, (blk_cell BK807.out 3).trans rfl, (blk_cell BK807.out 4).trans rfl, HS5_⟩ (fun hHeld => ?_)
          clear hK K
          refine nA (some 75) ?_
          exact nR (hJ3_6_13 (v811, gb819) _ ⟨hHeld, (ra HO812), (qa HO_10), (ra HO_5), (qa HO_6), (qa HO_8), (kb BK777), (kb BK807), (kb BK819), GW819.out, GE819.out, NB777_819.out, NB819_777.out, NB807_819.out, NB819_807.out, (xB HB)⟩)
        ·skip
         rintro v811 w52 ⟨hS_, h0_, h1_, h2_, h3_, h4_, h5_, h6_, h7_⟩
         try dsimp only at h0_ h1_ h2_ h3_ h4_ h5_ h6_ h7_
         have n0_ := am h0_
         have n1_ := am h1_
         have n2_ := am h2_
         have n3_ := am h3_
         have n4_ := am h4_
         have n5_ := am h5_
         have n6_ := am h6_
         have n7_ := am h7_
         clear HO_5
         clear HO_6
         clear HO_8
         clear HO_10
         clear BK777
         clear BK807
         clear HB
         clear h0_ h1_ h2_ h3_ h4_ h5_ h6_ h7_
         have HO812 := n0_
         have HO_10 := n1_
         have HO_5 := n2_
         have HO_6 := n3_
         have HO_8 := n4_
         have BK777 := n5_
         have BK807 := n6_
         have HB := n7_
         clear n0_ n1_ n2_ n3_ n4_ n5_ n6_ n7_
         have hHeld : w52.cell? ⟨gb807, 0, none⟩ = some (.string t801) ∧ w52.cell? ⟨gb807, 1, none⟩ = some (.string t802) ∧ w52.cell? ⟨gb807, 2, none⟩ = some (.int .i64 t803) ∧ w52.cell? ⟨gb807, 3, none⟩ = some (.int .i64 t804) ∧ w52.cell? ⟨gb807, 4, none⟩ = some (.int .i64 t805) ∧ w52.cell? ad800 = some (.string (rdOf ByteArray.empty t782 0)) := hS_
         refine norm_ (a' := ?_) ?_ ?_
         rotate_left
         ·simp only [putAll, Act.put, sa, s0, s1]
          rfl
         refine two_ (i := 8) (j := 13) (Ni := some 77) (Nj := some 14) (bm 15 1535) (bm 15 9471) rfl rfl rfl rfl (two_of HT_.out (by kernel_rfl)) (by decide) (by decide) (fun K hK => ?_) (fun K hK => ?_)
         ·skip
          refine gA Tryz.func39 #[.slice Ao47 t791.length co47] ?_
          with_reducible refine (spec_l9GetPeaks.calls kj11 _ _ t791 t813 _ ?side1 ?side2 A34.out).mono ?_
          (case side1 => exact cr (Q_reads' HO_8.out).2.2)
          (case side2 => exact (Q_reads' HO_8.out).2.1)
          rintro e w53 ⟨v814, rfl, ho0, hb⟩
          have HS5_ := cB hb hHeld.2.2.2.2.2
          refine ⟨_, rfl, ?_⟩
          replace HO_5 := rk HO_5 hb
          replace HO_6 := qk HO_6 hb
          replace HO_8 := qk HO_8 hb
          replace HO_10 := qk HO_10 hb
          have HO815 := am (R_lower (R_new' ho0 (R_lt (ra HO812))) (below_size (xB HB)))
          replace HO812 := am (R_elder' (ra HO812) (R_base ho0) hb)
          replace BK777 := kP _ BK777 hb
          replace BK807 := kP _ BK807 hb
          replace HB := kH HB hb
          (try clear hb)
          (try clear hb2)
          (try clear hk)
          (try clear hi)
          (try clear ho0)
          obtain ⟨Ao54, co54, eo54⟩ := R_slice HO815.out
          (first | subst eo54 | (obtain ⟨f4_, f5_⟩ := eS eo54; subst f4_ f5_))
          obtain ⟨Ao55, co55, eo55⟩ := R_slice HO812.out
          (first | subst eo55 | (obtain ⟨f4_, f5_⟩ := eS eo55; subst f4_ f5_))
          refine hK.out _ _ ⟨(blk_cell BK807.out 0).trans rfl, (blk_cell BK807.out 1).trans rfl, (blk_cell BK807.out 2).trans rfl, (blk_cell BK807.out 3).trans rfl, (blk_cell BK807.out 4).trans rfl, HS5_⟩ (fun hHeld => ?_)
          clear hK K
          refine nA (some 77) ?_
          refine pA 9 78 (bm 15 2047) HT_ ?_
          exact nR (hJ3_6_8 (.slice Ao55 t810.length co55, .slice Ao54 t813.length co54) _ ⟨hHeld, (rM HO812 h2), (rM HO815 h2), (qa HO_10), (ra HO_5), (qa HO_6), (qa HO_8), (kb BK777), (kb BK807), (xB HB)⟩)
         ·skip
          refine bS 14 #[.int .i64 0, .string (⟨#[]⟩ : ByteArray), .string (⟨#[]⟩ : ByteArray), .int .i64 0, .int .i64 0, .int .i64 0, .slice none 0 0, .slice none 0 0, .slice none 0 0] 30 ?_
          intro gb819 hg w53 hbox hb
          have HS5_ := cB hb hHeld.2.2.2.2.2
          replace HO_5 := rk HO_5 hb
          replace HO_6 := qk HO_6 hb
          replace HO_8 := qk HO_8 hb
          replace HO_10 := qk HO_10 hb
          replace HO812 := rk HO812 hb
          have BK819 := am (hbox)
          have GW819 := zB hg HB
          have GE819 := zB hg HB
          replace HB := kH HB hb
          have NB777_819 := nl hg (kb BK777)
          have NB819_777 := ng hg (kb BK777)
          replace BK777 := kP _ BK777 hb
          have NB807_819 := nl hg (kb BK807)
          have NB819_807 := ng hg (kb BK807)
          replace BK807 := kP _ BK807 hb
          clear hb hbox hg
          refine hK.out _ _ ⟨(blk_cell BK807.out 0).trans rfl, (blk_cell BK807.out 1).trans rfl, (blk_cell BK807.out 2).trans rfl, (blk_cell BK807.out 3).trans rfl, (blk_cell BK807.out 4).trans rfl, HS5_⟩ (fun hHeld => ?_)
          clear hK K
          refine nA (some 14) ?_
          exact nR (hJ3_6_13 (v811, gb819) _ ⟨hHeld, (ra HO812), (qa HO_10), (ra HO_5), (qa HO_6), (qa HO_8), (kb BK777), (kb BK807), (kb BK819), GW819.out, GE819.out, NB777_819.out, NB819_777.out, NB807_819.out, NB819_807.out, (xB HB)⟩)
       ·skip
        rintro ⟨v811, gb819⟩ w53 ⟨hS_, h0_, h1_, h2_, h3_, h4_, h5_, h6_, h7_, h8_, h9_, h10_, h11_, h12_, h13_, h14_⟩
        try dsimp only at h0_ h1_ h2_ h3_ h4_ h5_ h6_ h7_ h8_ h9_ h10_ h11_ h12_ h13_ h14_
        have n0_ := am h0_
        have n1_ := am h1_
        have n2_ := am h2_
        have n3_ := am h3_
        have n4_ := am h4_
        have n5_ := am h5_
        have n6_ := am h6_
        have n7_ := am h7_
        have n8_ := am h8_
        have n9_ := am h9_
        have n10_ := am h10_
        have n11_ := am h11_
        have n12_ := am h12_
        have n13_ := am h13_
        have n14_ := am h14_
        clear HO_5
        clear HO_6
        clear HO_8
        clear HO_10
        clear BK777
        clear BK807
        clear HB
        clear h0_ h1_ h2_ h3_ h4_ h5_ h6_ h7_ h8_ h9_ h10_ h11_ h12_ h13_ h14_
        have HO812 := n0_
        have HO_10 := n1_
        have HO_5 := n2_
        have HO_6 := n3_
        have HO_8 := n4_
        have BK777 := n5_
        have BK807 := n6_
        have BK819 := n7_
        have GW819 := n8_
        have GE819 := n9_
        have NB777_819 := n10_
        have NB819_777 := n11_
        have NB807_819 := n12_
        have NB819_807 := n13_
        have HB := n14_
        clear n0_ n1_ n2_ n3_ n4_ n5_ n6_ n7_ n8_ n9_ n10_ n11_ n12_ n13_ n14_
        have hHeld : w53.cell? ⟨gb807, 0, none⟩ = some (.string t801) ∧ w53.cell? ⟨gb807, 1, none⟩ = some (.string t802) ∧ w53.cell? ⟨gb807, 2, none⟩ = some (.int .i64 t803) ∧ w53.cell? ⟨gb807, 3, none⟩ = some (.int .i64 t804) ∧ w53.cell? ⟨gb807, 4, none⟩ = some (.int .i64 t805) ∧ w53.cell? ad800 = some (.string (rdOf ByteArray.empty t782 0)) := hS_
        refine norm_ (a' := ?_) ?_ ?_
        rotate_left
        ·simp only [putAll, Act.put, sa, s0, s1]
         rfl
        refine oA 8 (some 77) (bm 15 9727) HT_ fun K hK => ?_
        refine gA Tryz.func39 #[.slice Ao47 t791.length co47] ?_
        with_reducible refine (spec_l9GetPeaks.calls kj11 _ _ t791 t813 _ ?side1 ?side2 A34.out).mono ?_
        (case side1 => exact cr (Q_reads' HO_8.out).2.2)
        (case side2 => exact (Q_reads' HO_8.out).2.1)
        rintro e w54 ⟨v814, rfl, ho0, hb⟩
        have HS5_ := cB hb hHeld.2.2.2.2.2
        refine ⟨_, rfl, ?_⟩
        replace HO_5 := rk HO_5 hb
        replace HO_6 := qk HO_6 hb
        replace HO_8 := qk HO_8 hb
        replace HO_10 := qk HO_10 hb
        have HO815 := am (R_lower (R_new' ho0 (R_lt (ra HO812))) (below_size (xB HB)))
        replace HO812 := am (R_elder' (ra HO812) (R_base ho0) hb)
        replace BK777 := kP _ BK777 hb
        replace BK807 := kP _ BK807 hb
        replace BK819 := kP _ BK819 hb
        replace HB := kH HB hb
        (try clear hb)
        (try clear hb2)
        (try clear hk)
        (try clear hi)
        (try clear ho0)
        obtain ⟨Ao55, co55, eo55⟩ := R_slice HO815.out
        (first | subst eo55 | (obtain ⟨f4_, f5_⟩ := eS eo55; subst f4_ f5_))
        obtain ⟨Ao56, co56, eo56⟩ := R_slice HO812.out
        (first | subst eo56 | (obtain ⟨f4_, f5_⟩ := eS eo56; subst f4_ f5_))
        refine hK.out _ _ ⟨(blk_cell BK807.out 0).trans rfl, (blk_cell BK807.out 1).trans rfl, (blk_cell BK807.out 2).trans rfl, (blk_cell BK807.out 3).trans rfl, (blk_cell BK807.out 4).trans rfl, HS5_⟩ (fun hHeld => ?_)
        clear hK K
        refine nA (some 77) ?_
        refine pA 9 78 (bm 15 10239) HT_ ?_
        exact nR (hJ3_6_8_13 (.slice Ao56 t810.length co56, .slice Ao55 t813.length co55, gb819) _ ⟨hHeld, (rM HO812 h2), (rM HO815 h2), (qa HO_10), (ra HO_5), (qa HO_6), (qa HO_8), (kb BK777), (kb BK807), (kb BK819), GW819.out, GE819.out, NB777_819.out, NB819_777.out, NB807_819.out, NB819_807.out, (xB HB)⟩)
      ·skip
       rintro ⟨v811, v814⟩ w55 ⟨hS_, h0_, h1_, h2_, h3_, h4_, h5_, h6_, h7_, h8_⟩
       try dsimp only at h0_ h1_ h2_ h3_ h4_ h5_ h6_ h7_ h8_
       have n0_ := am h0_
       have n1_ := am h1_
       have n2_ := am h2_
       have n3_ := am h3_
       have n4_ := am h4_
       have n5_ := am h5_
       have n6_ := am h6_
       have n7_ := am h7_
       have n8_ := am h8_
       clear HO_5
       clear HO_6
       clear HO_8
       clear HO_10
       clear BK777
       clear BK807
       clear HB
       clear h0_ h1_ h2_ h3_ h4_ h5_ h6_ h7_ h8_
       have HO812 := n0_
       have HO815 := n1_
       have HO_10 := n2_
       have HO_5 := n3_
       have HO_6 := n4_
       have HO_8 := n5_
       have BK777 := n6_
       have BK807 := n7_
       have HB := n8_
       clear n0_ n1_ n2_ n3_ n4_ n5_ n6_ n7_ n8_
       have hHeld : w55.cell? ⟨gb807, 0, none⟩ = some (.string t801) ∧ w55.cell? ⟨gb807, 1, none⟩ = some (.string t802) ∧ w55.cell? ⟨gb807, 2, none⟩ = some (.int .i64 t803) ∧ w55.cell? ⟨gb807, 3, none⟩ = some (.int .i64 t804) ∧ w55.cell? ⟨gb807, 4, none⟩ = some (.int .i64 t805) ∧ w55.cell? ad800 = some (.string (rdOf ByteArray.empty t782 0)) := hS_
       obtain ⟨Ao56, co56, eo56⟩ := R_slice HO815.out
       (first | subst eo56 | (obtain ⟨f4_, f5_⟩ := eS eo56; subst f4_ f5_))
       obtain ⟨Ao57, co57, eo57⟩ := R_slice HO812.out
       (first | subst eo57 | (obtain ⟨f4_, f5_⟩ := eS eo57; subst f4_ f5_))
       refine norm_ (a' := ?_) ?_ ?_
       rotate_left
       ·simp only [putAll, Act.put, sa, s0, s1]
        rfl
       refine two_ (i := 11) (j := 13) (Ni := some 80) (Nj := some 14) (bm 15 4095) (bm 15 10239) rfl rfl rfl rfl (two_of HT_.out (by kernel_rfl)) (by decide) (by decide) (fun K hK => ?_) (fun K hK => ?_)
       ·skip
        refine gA Tryz.func40 #[.slice Ao48 t796.length co48] ?_
        with_reducible refine (spec_l9GetSides.calls kj11 _ _ t796 t816 _ ?side1 ?side2 A35.out).mono ?_
        (case side1 => exact cr (Q_reads' HO_10.out).2.2)
        (case side2 => exact (Q_reads' HO_10.out).2.1)
        rintro e w58 ⟨v817, rfl, ho0, hb⟩
        have HS5_ := cB hb hHeld.2.2.2.2.2
        refine ⟨_, rfl, ?_⟩
        replace HO_5 := rk HO_5 hb
        replace HO_6 := qk HO_6 hb
        replace HO_8 := qk HO_8 hb
        replace HO_10 := qk HO_10 hb
        replace HO812 := rk HO812 hb
        replace HO815 := rk HO815 hb
        have HO818 := am (R_lower ho0 (below_size (xB HB)))
        replace BK777 := kP _ BK777 hb
        replace BK807 := kP _ BK807 hb
        replace HB := kH HB hb
        (try clear hb)
        (try clear hb2)
        (try clear hk)
        (try clear hi)
        (try clear ho0)
        obtain ⟨Ao59, co59, eo59⟩ := R_slice HO818.out
        (first | subst eo59 | (obtain ⟨f4_, f5_⟩ := eS eo59; subst f4_ f5_))
        refine hK.out _ _ ⟨(blk_cell BK807.out 0).trans rfl, (blk_cell BK807.out 1).trans rfl, (blk_cell BK807.out 2).trans rfl, (blk_cell BK807.out 3).trans rfl, (blk_cell BK807.out 4).trans rfl, HS5_⟩ (fun hHeld => ?_)
        clear hK K
        refine nA (some 80) ?_
        refine pA 12 81 (bm 15 8191) HT_ ?_
        exact nR (hJ3_6_8_11 (.slice Ao57 t810.length co57, .slice Ao56 t813.length co56, .slice Ao59 t816.length co59) _ ⟨hHeld, (ra HO812), (ra HO815), (ra HO818), (qa HO_10), (ra HO_5), (qa HO_6), (qa HO_8), (kb BK777), (kb BK807), (xB HB)⟩)
       ·skip
        refine bS 14 #[.int .i64 0, .string (⟨#[]⟩ : ByteArray), .string (⟨#[]⟩ : ByteArray), .int .i64 0, .int .i64 0, .int .i64 0, .slice none 0 0, .slice none 0 0, .slice none 0 0] 30 ?_
        intro gb819 hg w58 hbox hb
        have HS5_ := cB hb hHeld.2.2.2.2.2
        replace HO_5 := rk HO_5 hb
        replace HO_6 := qk HO_6 hb
        replace HO_8 := qk HO_8 hb
        replace HO_10 := qk HO_10 hb
        replace HO812 := rk HO812 hb
        replace HO815 := rk HO815 hb
        have BK819 := am (hbox)
        have GW819 := zB hg HB
        have GE819 := zB hg HB
        replace HB := kH HB hb
        have NB777_819 := nl hg (kb BK777)
        have NB819_777 := ng hg (kb BK777)
        replace BK777 := kP _ BK777 hb
        have NB807_819 := nl hg (kb BK807)
        have NB819_807 := ng hg (kb BK807)
        replace BK807 := kP _ BK807 hb
        clear hb hbox hg
        refine hK.out _ _ ⟨(blk_cell BK807.out 0).trans rfl, (blk_cell BK807.out 1).trans rfl, (blk_cell BK807.out 2).trans rfl, (blk_cell BK807.out 3).trans rfl, (blk_cell BK807.out 4).trans rfl, HS5_⟩ (fun hHeld => ?_)
        clear hK K
        refine nA (some 14) ?_
        exact nR (hJ3_6_8_13 (.slice Ao57 t810.length co57, .slice Ao56 t813.length co56, gb819) _ ⟨hHeld, (ra HO812), (ra HO815), (qa HO_10), (ra HO_5), (qa HO_6), (qa HO_8), (kb BK777), (kb BK807), (kb BK819), GW819.out, GE819.out, NB777_819.out, NB819_777.out, NB807_819.out, NB819_807.out, (xB HB)⟩)
     ·skip
      rintro ⟨v811, v814, gb819⟩ w56 ⟨hS_, h0_, h1_, h2_, h3_, h4_, h5_, h6_, h7_, h8_, h9_, h10_, h11_, h12_, h13_, h14_, h15_⟩
      try dsimp only at h0_ h1_ h2_ h3_ h4_ h5_ h6_ h7_ h8_ h9_ h10_ h11_ h12_ h13_ h14_ h15_
      have n0_ := am h0_
      have n1_ := am h1_
      have n2_ := am h2_
      have n3_ := am h3_
      have n4_ := am h4_
      have n5_ := am h5_
      have n6_ := am h6_
      have n7_ := am h7_
      have n8_ := am h8_
      have n9_ := am h9_
      have n10_ := am h10_
      have n11_ := am h11_
      have n12_ := am h12_
      have n13_ := am h13_
      have n14_ := am h14_
      have n15_ := am h15_
      clear HO_5
      clear HO_6
      clear HO_8
      clear HO_10
      clear BK777
      clear BK807
      clear HB
      clear h0_ h1_ h2_ h3_ h4_ h5_ h6_ h7_ h8_ h9_ h10_ h11_ h12_ h13_ h14_ h15_
      have HO812 := n0_
      have HO815 := n1_
      have HO_10 := n2_
      have HO_5 := n3_
      have HO_6 := n4_
      have HO_8 := n5_
      have BK777 := n6_
      have BK807 := n7_
      have BK819 := n8_
      have GW819 := n9_
      have GE819 := n10_
      have NB777_819 := n11_
      have NB819_777 := n12_
      have NB807_819 := n13_
      have NB819_807 := n14_
      have HB := n15_
      clear n0_ n1_ n2_ n3_ n4_ n5_ n6_ n7_ n8_ n9_ n10_ n11_ n12_ n13_ n14_ n15_
      have hHeld : w56.cell? ⟨gb807, 0, none⟩ = some (.string t801) ∧ w56.cell? ⟨gb807, 1, none⟩ = some (.string t802) ∧ w56.cell? ⟨gb807, 2, none⟩ = some (.int .i64 t803) ∧ w56.cell? ⟨gb807, 3, none⟩ = some (.int .i64 t804) ∧ w56.cell? ⟨gb807, 4, none⟩ = some (.int .i64 t805) ∧ w56.cell? ad800 = some (.string (rdOf ByteArray.empty t782 0)) := hS_
      obtain ⟨Ao57, co57, eo57⟩ := R_slice HO815.out
      (first | subst eo57 | (obtain ⟨f4_, f5_⟩ := eS eo57; subst f4_ f5_))
      obtain ⟨Ao58, co58, eo58⟩ := R_slice HO812.out
      (first | subst eo58 | (obtain ⟨f4_, f5_⟩ := eS eo58; subst f4_ f5_))
      refine norm_ (a' := ?_) ?_ ?_
      rotate_left
      ·simp only [putAll, Act.put, sa, s0, s1]
       rfl
      refine oA 11 (some 80) (bm 15 12287) HT_ fun K hK => ?_
      refine gA Tryz.func40 #[.slice Ao48 t796.length co48] ?_
      with_reducible refine (spec_l9GetSides.calls kj11 _ _ t796 t816 _ ?side1 ?side2 A35.out).mono ?_
      (case side1 => exact cr (Q_reads' HO_10.out).2.2)
      (case side2 => exact (Q_reads' HO_10.out).2.1)
      rintro e w59 ⟨v817, rfl, ho0, hb⟩
      have HS5_ := cB hb hHeld.2.2.2.2.2
      refine ⟨_, rfl, ?_⟩
      replace HO_5 := rk HO_5 hb
      replace HO_6 := qk HO_6 hb
      replace HO_8 := qk HO_8 hb
      replace HO_10 := qk HO_10 hb
      replace HO812 := rk HO812 hb
      replace HO815 := rk HO815 hb
      have HO818 := am (R_lower ho0 (below_size (xB HB)))
      replace BK777 := kP _ BK777 hb
      replace BK807 := kP _ BK807 hb
      replace BK819 := kP _ BK819 hb
      replace HB := kH HB hb
      (try clear hb)
      (try clear hb2)
      (try clear hk)
      (try clear hi)
      (try clear ho0)
      obtain ⟨Ao60, co60, eo60⟩ := R_slice HO818.out
      (first | subst eo60 | (obtain ⟨f4_, f5_⟩ := eS eo60; subst f4_ f5_))
      refine hK.out _ _ ⟨(blk_cell BK807.out 0).trans rfl, (blk_cell BK807.out 1).trans rfl, (blk_cell BK807.out 2).trans rfl, (blk_cell BK807.out 3).trans rfl, (blk_cell BK807.out 4).trans rfl, HS5_⟩ (fun hHeld => ?_)
      clear hK K
      refine nA (some 80) ?_
      refine pA 12 81 (bm 15 16383) HT_ ?_
      exact nR (hJ3_6_8_11_13 (.slice Ao58 t810.length co58, .slice Ao57 t813.length co57, .slice Ao60 t816.length co60, gb819) _ ⟨hHeld, (ra HO812), (ra HO815), (ra HO818), (qa HO_10), (ra HO_5), (qa HO_6), (qa HO_8), (kb BK777), (kb BK807), (kb BK819), GW819.out, GE819.out, NB777_819.out, NB819_777.out, NB807_819.out, NB819_807.out, (xB HB)⟩)
    ·skip
     rintro ⟨v811, v814, v817⟩ w57 ⟨hS_, h0_, h1_, h2_, h3_, h4_, h5_, h6_, h7_, h8_, h9_⟩
     try dsimp only at h0_ h1_ h2_ h3_ h4_ h5_ h6_ h7_ h8_ h9_
     have n0_ := am h0_
     have n1_ := am h1_
     have n2_ := am h2_
     have n3_ := am h3_
     have n4_ := am h4_
     have n5_ := am h5_
     have n6_ := am h6_
     have n7_ := am h7_
     have n8_ := am h8_
     have n9_ := am h9_
     clear HO_5
     clear HO_6
     clear HO_8
     clear HO_10
     clear BK777
     clear BK807
     clear HB
     clear h0_ h1_ h2_ h3_ h4_ h5_ h6_ h7_ h8_ h9_
     have HO812 := n0_
     have HO815 := n1_
     have HO818 := n2_
     have HO_10 := n3_
     have HO_5 := n4_
     have HO_6 := n5_
     have HO_8 := n6_
     have BK777 := n7_
     have BK807 := n8_
     have HB := n9_
     clear n0_ n1_ n2_ n3_ n4_ n5_ n6_ n7_ n8_ n9_
     have hHeld : w57.cell? ⟨gb807, 0, none⟩ = some (.string t801) ∧ w57.cell? ⟨gb807, 1, none⟩ = some (.string t802) ∧ w57.cell? ⟨gb807, 2, none⟩ = some (.int .i64 t803) ∧ w57.cell? ⟨gb807, 3, none⟩ = some (.int .i64 t804) ∧ w57.cell? ⟨gb807, 4, none⟩ = some (.int .i64 t805) ∧ w57.cell? ad800 = some (.string (rdOf ByteArray.empty t782 0)) := hS_
     obtain ⟨Ao58, co58, eo58⟩ := R_slice HO815.out
     (first | subst eo58 | (obtain ⟨f4_, f5_⟩ := eS eo58; subst f4_ f5_))
     obtain ⟨Ao59, co59, eo59⟩ := R_slice HO812.out
     (first | subst eo59 | (obtain ⟨f4_, f5_⟩ := eS eo59; subst f4_ f5_))
     obtain ⟨Ao60, co60, eo60⟩ := R_slice HO818.out
     (first | subst eo60 | (obtain ⟨f4_, f5_⟩ := eS eo60; subst f4_ f5_))
     refine norm_ (a' := ?_) ?_ ?_
     rotate_left
     ·simp only [putAll, Act.put, sa, s0, s1]
      rfl
     refine oA 13 (some 14) (bm 15 16383) HT_ fun K hK => ?_
     refine bS 14 #[.int .i64 0, .string (⟨#[]⟩ : ByteArray), .string (⟨#[]⟩ : ByteArray), .int .i64 0, .int .i64 0, .int .i64 0, .slice none 0 0, .slice none 0 0, .slice none 0 0] 30 ?_
     intro gb819 hg w61 hbox hb
     have HS5_ := cB hb hHeld.2.2.2.2.2
     replace HO_5 := rk HO_5 hb
     replace HO_6 := qk HO_6 hb
     replace HO_8 := qk HO_8 hb
     replace HO_10 := qk HO_10 hb
     replace HO812 := rk HO812 hb
     replace HO815 := rk HO815 hb
     replace HO818 := rk HO818 hb
     have BK819 := am (hbox)
     have GW819 := zB hg HB
     have GE819 := zB hg HB
     replace HB := kH HB hb
     have NB777_819 := nl hg (kb BK777)
     have NB819_777 := ng hg (kb BK777)
     replace BK777 := kP _ BK777 hb
     have NB807_819 := nl hg (kb BK807)
     have NB819_807 := ng hg (kb BK807)
     replace BK807 := kP _ BK807 hb
     clear hb hbox hg
     refine hK.out _ _ ⟨(blk_cell BK807.out 0).trans rfl, (blk_cell BK807.out 1).trans rfl, (blk_cell BK807.out 2).trans rfl, (blk_cell BK807.out 3).trans rfl, (blk_cell BK807.out 4).trans rfl, HS5_⟩ (fun hHeld => ?_)
     clear hK K
     refine nA (some 14) ?_
     exact nR (hJ3_6_8_11_13 (.slice Ao59 t810.length co59, .slice Ao58 t813.length co58, .slice Ao60 t816.length co60, gb819) _ ⟨hHeld, (ra HO812), (ra HO815), (ra HO818), (qa HO_10), (ra HO_5), (qa HO_6), (qa HO_8), (kb BK777), (kb BK807), (kb BK819), GW819.out, GE819.out, NB777_819.out, NB819_777.out, NB807_819.out, NB819_807.out, (xB HB)⟩)
   rintro ⟨v811, v814, v817, gb819⟩ w58 ⟨hS_, h0_, h1_, h2_, h3_, h4_, h5_, h6_, h7_, h8_, h9_, h10_, h11_, h12_, h13_, h14_, h15_, h16_⟩
   try dsimp only at h0_ h1_ h2_ h3_ h4_ h5_ h6_ h7_ h8_ h9_ h10_ h11_ h12_ h13_ h14_ h15_ h16_
   have n0_ := am h0_
   have n1_ := am h1_
   have n2_ := am h2_
   have n3_ := am h3_
   have n4_ := am h4_
   have n5_ := am h5_
   have n6_ := am h6_
   have n7_ := am h7_
   have n8_ := am h8_
   have n9_ := am h9_
   have n10_ := am h10_
   have n11_ := am h11_
   have n12_ := am h12_
   have n13_ := am h13_
   have n14_ := am h14_
   have n15_ := am h15_
   have n16_ := am h16_
   clear HO_5
   clear HO_6
   clear HO_8
   clear HO_10
   clear BK777
   clear BK807
   clear HB
   clear h0_ h1_ h2_ h3_ h4_ h5_ h6_ h7_ h8_ h9_ h10_ h11_ h12_ h13_ h14_ h15_ h16_
   have HO812 := n0_
   have HO815 := n1_
   have HO818 := n2_
   have HO_10 := n3_
   have HO_5 := n4_
   have HO_6 := n5_
   have HO_8 := n6_
   have BK777 := n7_
   have BK807 := n8_
   have BK819 := n9_
   have GW819 := n10_
   have GE819 := n11_
   have NB777_819 := n12_
   have NB819_777 := n13_
   have NB807_819 := n14_
   have NB819_807 := n15_
   have HB := n16_
   clear n0_ n1_ n2_ n3_ n4_ n5_ n6_ n7_ n8_ n9_ n10_ n11_ n12_ n13_ n14_ n15_ n16_
   have hHeld : w58.cell? ⟨gb807, 0, none⟩ = some (.string t801) ∧ w58.cell? ⟨gb807, 1, none⟩ = some (.string t802) ∧ w58.cell? ⟨gb807, 2, none⟩ = some (.int .i64 t803) ∧ w58.cell? ⟨gb807, 3, none⟩ = some (.int .i64 t804) ∧ w58.cell? ⟨gb807, 4, none⟩ = some (.int .i64 t805) ∧ w58.cell? ad800 = some (.string (rdOf ByteArray.empty t782 0)) := hS_
   obtain ⟨Ao59, co59, eo59⟩ := R_slice HO815.out
   (first | subst eo59 | (obtain ⟨f4_, f5_⟩ := eS eo59; subst f4_ f5_))
   obtain ⟨Ao60, co60, eo60⟩ := R_slice HO812.out
   (first | subst eo60 | (obtain ⟨f4_, f5_⟩ := eS eo60; subst f4_ f5_))
   obtain ⟨Ao61, co61, eo61⟩ := R_slice HO818.out
   (first | subst eo61 | (obtain ⟨f4_, f5_⟩ := eS eo61; subst f4_ f5_))
   refine norm_ (a' := ?_) ?_ ?_
   rotate_left
   ·simp only [putAll, Act.put, sa, s0, s1]
    rfl
   refine oA 14 none (bm 15 32767) HT_ fun K hK => ?_
   have hs62 : w58.cell? ⟨gb819, 0, none⟩ = some (.int .i64 0) := (blk_cell BK819.out 0).trans rfl
   have hfs62 := blk_frozen BK819.out 0
   have hns62_0 := NB777_819.out
   have hns62_1 := NB807_819.out
   have hms62_0 := NB819_777.out
   have hms62_1 := NB819_807.out
   have hs63 : w58.cell? ⟨gb819, 1, none⟩ = some (.string (⟨#[]⟩ : ByteArray)) := (blk_cell BK819.out 1).trans rfl
   have hfs63 := blk_frozen BK819.out 1
   have hns63_0 := NB777_819.out
   have hns63_1 := NB807_819.out
   have hms63_0 := NB819_777.out
   have hms63_1 := NB819_807.out
   have hs64 : w58.cell? ⟨gb819, 2, none⟩ = some (.string (⟨#[]⟩ : ByteArray)) := (blk_cell BK819.out 2).trans rfl
   have hfs64 := blk_frozen BK819.out 2
   have hns64_0 := NB777_819.out
   have hns64_1 := NB807_819.out
   have hms64_0 := NB819_777.out
   have hms64_1 := NB819_807.out
   have hs65 : w58.cell? ⟨gb819, 3, none⟩ = some (.int .i64 0) := (blk_cell BK819.out 3).trans rfl
   have hfs65 := blk_frozen BK819.out 3
   have hns65_0 := NB777_819.out
   have hns65_1 := NB807_819.out
   have hms65_0 := NB819_777.out
   have hms65_1 := NB819_807.out
   have hs66 : w58.cell? ⟨gb819, 4, none⟩ = some (.int .i64 0) := (blk_cell BK819.out 4).trans rfl
   have hfs66 := blk_frozen BK819.out 4
   have hns66_0 := NB777_819.out
   have hns66_1 := NB807_819.out
   have hms66_0 := NB819_777.out
   have hms66_1 := NB819_807.out
   have hs67 : w58.cell? ⟨gb819, 5, none⟩ = some (.int .i64 0) := (blk_cell BK819.out 5).trans rfl
   have hfs67 := blk_frozen BK819.out 5
   have hns67_0 := NB777_819.out
   have hns67_1 := NB807_819.out
   have hms67_0 := NB819_777.out
   have hms67_1 := NB819_807.out
   have hs68 : w58.cell? ⟨gb819, 6, none⟩ = some (.slice none 0 0) := (blk_cell BK819.out 6).trans rfl
   have hfs68 := blk_frozen BK819.out 6
   have hns68_0 := NB777_819.out
   have hns68_1 := NB807_819.out
   have hms68_0 := NB819_777.out
   have hms68_1 := NB819_807.out
   have hs69 : w58.cell? ⟨gb819, 7, none⟩ = some (.slice none 0 0) := (blk_cell BK819.out 7).trans rfl
   have hfs69 := blk_frozen BK819.out 7
   have hns69_0 := NB777_819.out
   have hns69_1 := NB807_819.out
   have hms69_0 := NB819_777.out
   have hms69_1 := NB819_807.out
   have hs70 : w58.cell? ⟨gb819, 8, none⟩ = some (.slice none 0 0) := (blk_cell BK819.out 8).trans rfl
   have hfs70 := blk_frozen BK819.out 8
   have hns70_0 := NB777_819.out
   have hns70_1 := NB807_819.out
   have hms70_0 := NB819_777.out
   have hms70_1 := NB819_807.out
   refine skip_ (w1 := ?_) (by rfl) rfl ?_ ?_
   rotate_left
   ·go_simp
    rfl
   refine hK.out _ _ ⟨(cf NB807_819.out hHeld.1), (cf NB807_819.out hHeld.2.1), (cf NB807_819.out hHeld.2.2.1), (cf NB807_819.out hHeld.2.2.2.1), (cf NB807_819.out hHeld.2.2.2.2.1), ((cell_far (p := ⟨gb819, _, none⟩) (by first | exact own_blk (R_ne HO_5.out BK819.out (by decide)) | (rw [add_block]; exact own_blk (R_ne HO_5.out BK819.out (by decide))) | (show (Addr.add _ _).block ≠ _; rw [add_block]; exact own_blk (R_ne HO_5.out BK819.out (by decide))) | (dsimp only; exact own_blk (R_ne HO_5.out BK819.out (by decide)))) _).trans (((cell_far (p := ⟨gb819, _, none⟩) (by first | exact own_blk (R_ne HO_5.out BK819.out (by decide)) | (rw [add_block]; exact own_blk (R_ne HO_5.out BK819.out (by decide))) | (show (Addr.add _ _).block ≠ _; rw [add_block]; exact own_blk (R_ne HO_5.out BK819.out (by decide))) | (dsimp only; exact own_blk (R_ne HO_5.out BK819.out (by decide)))) _).trans (((cell_far (p := ⟨gb819, _, none⟩) (by first | exact own_blk (R_ne HO_5.out BK819.out (by decide)) | (rw [add_block]; exact own_blk (R_ne HO_5.out BK819.out (by decide))) | (show (Addr.add _ _).block ≠ _; rw [add_block]; exact own_blk (R_ne HO_5.out BK819.out (by decide))) | (dsimp only; exact own_blk (R_ne HO_5.out BK819.out (by decide)))) _).trans (((cell_far (p := ⟨gb819, _, none⟩) (by first | exact own_blk (R_ne HO_5.out BK819.out (by decide)) | (rw [add_block]; exact own_blk (R_ne HO_5.out BK819.out (by decide))) | (show (Addr.add _ _).block ≠ _; rw [add_block]; exact own_blk (R_ne HO_5.out BK819.out (by decide))) | (dsimp only; exact own_blk (R_ne HO_5.out BK819.out (by decide)))) _).trans (((cell_far (p := ⟨gb819, _, none⟩) (by first | exact own_blk (R_ne HO_5.out BK819.out (by decide)) | (rw [add_block]; exact own_blk (R_ne HO_5.out BK819.out (by decide))) | (show (Addr.add _ _).block ≠ _; rw [add_block]; exact own_blk (R_ne HO_5.out BK819.out (by decide))) | (dsimp only; exact own_blk (R_ne HO_5.out BK819.out (by decide)))) _).trans (((cell_far (p := ⟨gb819, _, none⟩) (by first | exact own_blk (R_ne HO_5.out BK819.out (by decide)) | (rw [add_block]; exact own_blk (R_ne HO_5.out BK819.out (by decide))) | (show (Addr.add _ _).block ≠ _; rw [add_block]; exact own_blk (R_ne HO_5.out BK819.out (by decide))) | (dsimp only; exact own_blk (R_ne HO_5.out BK819.out (by decide)))) _).trans (((cell_far (p := ⟨gb819, _, none⟩) (by first | exact own_blk (R_ne HO_5.out BK819.out (by decide)) | (rw [add_block]; exact own_blk (R_ne HO_5.out BK819.out (by decide))) | (show (Addr.add _ _).block ≠ _; rw [add_block]; exact own_blk (R_ne HO_5.out BK819.out (by decide))) | (dsimp only; exact own_blk (R_ne HO_5.out BK819.out (by decide)))) _).trans (((cell_far (p := ⟨gb819, _, none⟩) (by first | exact own_blk (R_ne HO_5.out BK819.out (by decide)) | (rw [add_block]; exact own_blk (R_ne HO_5.out BK819.out (by decide))) | (show (Addr.add _ _).block ≠ _; rw [add_block]; exact own_blk (R_ne HO_5.out BK819.out (by decide))) | (dsimp only; exact own_blk (R_ne HO_5.out BK819.out (by decide)))) _).trans (((cell_far (p := ⟨gb819, _, none⟩) (by first | exact own_blk (R_ne HO_5.out BK819.out (by decide)) | (rw [add_block]; exact own_blk (R_ne HO_5.out BK819.out (by decide))) | (show (Addr.add _ _).block ≠ _; rw [add_block]; exact own_blk (R_ne HO_5.out BK819.out (by decide))) | (dsimp only; exact own_blk (R_ne HO_5.out BK819.out (by decide)))) _).trans (hHeld.2.2.2.2.2))))))))))))))))))⟩ (fun hHeld => ?_)
   clear hK K
   refine done_ (done_of HT_.out (by kernel_rfl)) ?_
   generalize hW_ : World.setCell _ ⟨gb819, 8, none⟩ _ = wq_
   replace hW_ := hW_.symm
   have BQ_ := kF (.cells #[.int .i64 t809, .string t801, .string t802, .int .i64 t803, .int .i64 t804, .int .i64 t805, .slice Ao60 t810.length co60, .slice Ao59 t813.length co59, .slice Ao61 t816.length co61] 30 (0, 0)) BK819 hW_
   have hzq_ := bc9 BQ_
   replace hW_ := am hW_
   by_cases c36 : t806 = true
   rotate_left
   ·replace c36 := bF c36
    subst c36
    try simp only [Bool.not_true, Bool.not_false]
    rw [if_neg nF] at H
    simp only [Option.some.injEq, Prod.mk.injEq] at H
    obtain ⟨rfl, rfl, rfl, rfl, rfl, rfl, rfl, rfl, rfl, rfl⟩ := H
    have hnb181 := NB777_819.out
    have hnc181 := NB819_777.out
    (first | have hz182 := bc9 (kF _ BK777 hW_.out) | have hz182 := bc9 BK777)
    try go_wp2
    (try (clear hzq_ BQ_; obtain ⟨hW_⟩ := hW_; subst hW_))
    refine bodyPost_ret (results_ct rfl _ _ gb777 30 #[.int .i64 0, .string (⟨#[]⟩ : ByteArray), .string (⟨#[]⟩ : ByteArray), .int .i64 0, .int .i64 0, .int .i64 0, .slice none 0 0, .slice none 0 0, .slice none 0 0] (0, 0) _ rfl (fb BK777) Tryz.underlying30 rfl (by kernel_rfl)) rfl ?_
    exact ⟨_, _, _, xE, xN, xN, xN, xB HB⟩
   subst c36
   try simp only [Bool.not_true, Bool.not_false]
   rw [if_pos rfl] at H
   replace ⟨t820, A37, H⟩ := oa H
   by_cases c38 : t820 = true
   rotate_left
   ·replace c38 := bF c38
    subst c38
    rw [if_neg nF] at H
    simp only [Option.some.injEq, Prod.mk.injEq] at H
    obtain ⟨rfl, rfl, rfl, rfl, rfl, rfl, rfl, rfl, rfl, rfl⟩ := H
    have hnb146 := NB819_777.out
    have hnc146 := NB777_819.out
    have hnb147 := NB819_807.out
    have hnc147 := NB807_819.out
    (first | have hz148 := bc9 (kF _ BK819 hW_.out) | have hz148 := bc9 BK819)
    try go_wp2_with (go_at_call 22; (try (clear hzq_ BQ_; obtain ⟨hW_⟩ := hW_; subst hW_)); (with_reducible refine (spec_l9Ok.calls kj11 t809 t801 t802 t803 t804 t805 _ _ t810 _ _ t813 _ _ t816 false _ ?side1 ?side2 ?side3 ?side4 ?side5 ?side6 A37.out).mono ?_); (case side1 => exact (R_reads' (rf HO812 BK819)).2.2); (case side2 => exact sl HO812); (case side3 => exact (R_reads' (rf HO815 BK819)).2.2); (case side4 => exact sl HO815); (case side5 => exact (R_reads' (rf HO818 BK819)).2.2); (case side6 => exact sl HO818); rintro e w149 ⟨rfl, hb⟩; replace HO_5 := am (R_below (rf HO_5 BK819) hb); replace HO_6 := am (Q_below (by (with_reducible repeat (first | apply Q_alloc | apply Q_drewN | apply Q_drew)); exact (Q_mono (Q_far (p := ⟨gb819, 8, none⟩) (Q_far (p := ⟨gb819, 7, none⟩) (Q_far (p := ⟨gb819, 6, none⟩) (Q_far (p := ⟨gb819, 5, none⟩) (Q_far (p := ⟨gb819, 4, none⟩) (Q_far (p := ⟨gb819, 3, none⟩) (Q_far (p := ⟨gb819, 2, none⟩) (Q_far (p := ⟨gb819, 1, none⟩) (Q_far (p := ⟨gb819, 0, none⟩) (Q_types HO_6.out BK819.out (by decide)) h2 (.int .i64 t809)) h2 (.string t801)) h2 (.string t802)) h2 (.int .i64 t803)) h2 (.int .i64 t804)) h2 (.int .i64 t805)) h2 (.slice Ao60 t810.length co60)) h2 (.slice Ao59 t813.length co59)) h2 (.slice Ao61 t816.length co61)) (fun _ h_ => h_.1))) hb); replace HO_8 := am (Q_below (by (with_reducible repeat (first | apply Q_alloc | apply Q_drewN | apply Q_drew)); exact (Q_mono (Q_far (p := ⟨gb819, 8, none⟩) (Q_far (p := ⟨gb819, 7, none⟩) (Q_far (p := ⟨gb819, 6, none⟩) (Q_far (p := ⟨gb819, 5, none⟩) (Q_far (p := ⟨gb819, 4, none⟩) (Q_far (p := ⟨gb819, 3, none⟩) (Q_far (p := ⟨gb819, 2, none⟩) (Q_far (p := ⟨gb819, 1, none⟩) (Q_far (p := ⟨gb819, 0, none⟩) (Q_types HO_8.out BK819.out (by decide)) h2 (.int .i64 t809)) h2 (.string t801)) h2 (.string t802)) h2 (.int .i64 t803)) h2 (.int .i64 t804)) h2 (.int .i64 t805)) h2 (.slice Ao60 t810.length co60)) h2 (.slice Ao59 t813.length co59)) h2 (.slice Ao61 t816.length co61)) (fun _ h_ => h_.1))) hb); replace HO_10 := am (Q_below (by (with_reducible repeat (first | apply Q_alloc | apply Q_drewN | apply Q_drew)); exact (Q_mono (Q_far (p := ⟨gb819, 8, none⟩) (Q_far (p := ⟨gb819, 7, none⟩) (Q_far (p := ⟨gb819, 6, none⟩) (Q_far (p := ⟨gb819, 5, none⟩) (Q_far (p := ⟨gb819, 4, none⟩) (Q_far (p := ⟨gb819, 3, none⟩) (Q_far (p := ⟨gb819, 2, none⟩) (Q_far (p := ⟨gb819, 1, none⟩) (Q_far (p := ⟨gb819, 0, none⟩) (Q_types HO_10.out BK819.out (by decide)) h2 (.int .i64 t809)) h2 (.string t801)) h2 (.string t802)) h2 (.int .i64 t803)) h2 (.int .i64 t804)) h2 (.int .i64 t805)) h2 (.slice Ao60 t810.length co60)) h2 (.slice Ao59 t813.length co59)) h2 (.slice Ao61 t816.length co61)) (fun _ h_ => h_.1))) hb); replace HO812 := am (R_below (rf HO812 BK819) hb); replace HO815 := am (R_below (rf HO815 BK819) hb); replace HO818 := am (R_below (rf HO818 BK819) hb); replace BK777 := kP _ BK777 hb; replace BK807 := kP _ BK807 hb; replace BK819 := kP (.cells #[.int .i64 t809, .string t801, .string t802, .int .i64 t803, .int .i64 t804, .int .i64 t805, .slice Ao60 t810.length co60, .slice Ao59 t813.length co59, .slice Ao61 t816.length co61] 30 (0, 0)) BK819 hb; replace HB := kH HB hb; (try clear hb); have hz150 := bc9 BK777)
    (try (clear hzq_ BQ_; obtain ⟨hW_⟩ := hW_; subst hW_))
    refine bodyPost_ret (results_ct rfl _ _ gb777 30 #[.int .i64 0, .string (⟨#[]⟩ : ByteArray), .string (⟨#[]⟩ : ByteArray), .int .i64 0, .int .i64 0, .int .i64 0, .slice none 0 0, .slice none 0 0, .slice none 0 0] (0, 0) _ rfl (fb BK777) Tryz.underlying30 rfl (by kernel_rfl)) rfl ?_
    exact ⟨_, _, _, xE, xN, xN, xN, xB HB⟩
   subst c38
   rw [if_pos rfl] at H
   replace ⟨t821, A39, H⟩ := oa H
   have hnb71 := NB819_777.out
   have hnc71 := NB777_819.out
   have hnb72 := NB819_807.out
   have hnc72 := NB807_819.out
   (first | have hz73 := bc9 (kF _ BK819 hW_.out) | have hz73 := bc9 BK819)
   go_upto_if 94 with (first | (go_at_call 22; (try (clear hzq_ BQ_; obtain ⟨hW_⟩ := hW_; subst hW_)); (with_reducible refine (spec_l9Ok.calls kj11 t809 t801 t802 t803 t804 t805 _ _ t810 _ _ t813 _ _ t816 true _ ?side1 ?side2 ?side3 ?side4 ?side5 ?side6 A37.out).mono ?_); (case side1 => exact (R_reads' (rf HO812 BK819)).2.2); (case side2 => exact sl HO812); (case side3 => exact (R_reads' (rf HO815 BK819)).2.2); (case side4 => exact sl HO815); (case side5 => exact (R_reads' (rf HO818 BK819)).2.2); (case side6 => exact sl HO818); rintro e w74 ⟨rfl, hb⟩; replace HO_5 := am (R_below (rf HO_5 BK819) hb); replace HO_6 := am (Q_below (by (with_reducible repeat (first | apply Q_alloc | apply Q_drewN | apply Q_drew)); exact (Q_mono (Q_far (p := ⟨gb819, 8, none⟩) (Q_far (p := ⟨gb819, 7, none⟩) (Q_far (p := ⟨gb819, 6, none⟩) (Q_far (p := ⟨gb819, 5, none⟩) (Q_far (p := ⟨gb819, 4, none⟩) (Q_far (p := ⟨gb819, 3, none⟩) (Q_far (p := ⟨gb819, 2, none⟩) (Q_far (p := ⟨gb819, 1, none⟩) (Q_far (p := ⟨gb819, 0, none⟩) (Q_types HO_6.out BK819.out (by decide)) h2 (.int .i64 t809)) h2 (.string t801)) h2 (.string t802)) h2 (.int .i64 t803)) h2 (.int .i64 t804)) h2 (.int .i64 t805)) h2 (.slice Ao60 t810.length co60)) h2 (.slice Ao59 t813.length co59)) h2 (.slice Ao61 t816.length co61)) (fun _ h_ => h_.1))) hb); replace HO_8 := am (Q_below (by (with_reducible repeat (first | apply Q_alloc | apply Q_drewN | apply Q_drew)); exact (Q_mono (Q_far (p := ⟨gb819, 8, none⟩) (Q_far (p := ⟨gb819, 7, none⟩) (Q_far (p := ⟨gb819, 6, none⟩) (Q_far (p := ⟨gb819, 5, none⟩) (Q_far (p := ⟨gb819, 4, none⟩) (Q_far (p := ⟨gb819, 3, none⟩) (Q_far (p := ⟨gb819, 2, none⟩) (Q_far (p := ⟨gb819, 1, none⟩) (Q_far (p := ⟨gb819, 0, none⟩) (Q_types HO_8.out BK819.out (by decide)) h2 (.int .i64 t809)) h2 (.string t801)) h2 (.string t802)) h2 (.int .i64 t803)) h2 (.int .i64 t804)) h2 (.int .i64 t805)) h2 (.slice Ao60 t810.length co60)) h2 (.slice Ao59 t813.length co59)) h2 (.slice Ao61 t816.length co61)) (fun _ h_ => h_.1))) hb); replace HO_10 := am (Q_below (by (with_reducible repeat (first | apply Q_alloc | apply Q_drewN | apply Q_drew)); exact (Q_mono (Q_far (p := ⟨gb819, 8, none⟩) (Q_far (p := ⟨gb819, 7, none⟩) (Q_far (p := ⟨gb819, 6, none⟩) (Q_far (p := ⟨gb819, 5, none⟩) (Q_far (p := ⟨gb819, 4, none⟩) (Q_far (p := ⟨gb819, 3, none⟩) (Q_far (p := ⟨gb819, 2, none⟩) (Q_far (p := ⟨gb819, 1, none⟩) (Q_far (p := ⟨gb819, 0, none⟩) (Q_types HO_10.out BK819.out (by decide)) h2 (.int .i64 t809)) h2 (.string t801)) h2 (.string t802)) h2 (.int .i64 t803)) h2 (.int .i64 t804)) h2 (.int .i64 t805)) h2 (.slice Ao60 t810.length co60)) h2 (.slice Ao59 t813.length co59)) h2 (.slice Ao61 t816.length co61)) (fun _ h_ => h_.1))) hb); replace HO812 := am (R_below (rf HO812 BK819) hb); replace HO815 := am (R_below (rf HO815 BK819) hb); replace HO818 := am (R_below (rf HO818 BK819) hb); replace BK777 := kP _ BK777 hb; replace BK807 := kP _ BK807 hb; replace BK819 := kP (.cells #[.int .i64 t809, .string t801, .string t802, .int .i64 t803, .int .i64 t804, .int .i64 t805, .slice Ao60 t810.length co60, .slice Ao59 t813.length co59, .slice Ao61 t816.length co61] 30 (0, 0)) BK819 hb; replace HB := kH HB hb; (try clear hb); have hz75 := bc9 BK819) | (go_at_call 23; (try (clear hzq_ BQ_; obtain ⟨hW_⟩ := hW_; subst hW_)); (with_reducible refine (spec_l9Put.calls kj11 t809 t801 t802 t803 t804 t805 _ _ t810 _ _ t813 _ _ t816 t821 _ ?side1 ?side2 ?side3 ?side4 ?side5 ?side6 A39.out).mono ?_); (case side1 => exact cr (R_reads' HO812.out).2.2); (case side2 => exact sl HO812); (case side3 => exact cr (R_reads' HO815.out).2.2); (case side4 => exact sl HO815); (case side5 => exact cr (R_reads' HO818.out).2.2); (case side6 => exact sl HO818); rintro e w76 ⟨rfl, hb⟩; replace HO_5 := rk HO_5 hb; replace HO_6 := qk HO_6 hb; replace HO_8 := qk HO_8 hb; replace HO_10 := qk HO_10 hb; replace HO812 := rk HO812 hb; replace HO815 := rk HO815 hb; replace HO818 := rk HO818 hb; replace BK777 := kP _ BK777 hb; replace BK807 := kP _ BK807 hb; replace BK819 := kP _ BK819 hb; replace HB := kH HB hb; (try clear hb)))
   by_cases c40 : t821.toList = a0.toList
   rotate_left
   ·rw [if_neg c40] at H
    have c40b0 := beq_eq_false_iff_ne.mpr c40
    have c40b1 := bne_iff_ne.mpr c40
    try simp only [c40b0, c40b1, Bool.not_true, Bool.not_false]
    simp only [Option.some.injEq, Prod.mk.injEq] at H
    obtain ⟨rfl, rfl, rfl, rfl, rfl, rfl, rfl, rfl, rfl, rfl⟩ := H
    (first | have hz115 := bc9 (kF _ BK777 hW_.out) | have hz115 := bc9 BK777)
    try go_wp2
    (try (clear hzq_ BQ_; obtain ⟨hW_⟩ := hW_; subst hW_))
    refine bodyPost_ret (results_ct rfl _ _ gb777 30 #[.int .i64 0, .string (⟨#[]⟩ : ByteArray), .string (⟨#[]⟩ : ByteArray), .int .i64 0, .int .i64 0, .int .i64 0, .slice none 0 0, .slice none 0 0, .slice none 0 0] (0, 0) _ rfl (fb BK777) Tryz.underlying30 rfl (by kernel_rfl)) rfl ?_
    exact ⟨_, _, _, xE, xN, xN, xN, xB HB⟩
   rw [if_pos c40] at H
   have c40b0 := beq_iff_eq.mpr c40
   have c40b1 := bne_eq_false_iff_eq.mpr c40
   try simp only [c40b0, c40b1, Bool.not_true, Bool.not_false]
   clear c40
   simp only [Option.some.injEq, Prod.mk.injEq] at H
   obtain ⟨rfl, rfl, rfl, rfl, rfl, rfl, rfl, rfl, rfl, rfl⟩ := H
   (first | have hz77 := bc9 (kF _ BK819 hW_.out) | have hz77 := bc9 BK819)
   (first | have hz78 := bc9 (kF _ BK777 hW_.out) | have hz78 := bc9 BK777)
   try go_wp2
   (try (clear hzq_ BQ_; obtain ⟨hW_⟩ := hW_; subst hW_))
   refine bodyPost_ret (results_ct rfl _ _ gb777 30 #[.int .i64 t809, .string t801, .string t802, .int .i64 t803, .int .i64 t804, .int .i64 t805, .slice Ao60 t810.length co60, .slice Ao59 t813.length co59, .slice Ao61 t816.length co61] (0, 0) _ rfl (fb BK777) Tryz.underlying30 rfl (by kernel_rfl)) rfl ?_
   exact ⟨_, _, _, xE, rF HO812 BK777 (fun _ hk => hk), rF HO815 BK777 (fun _ hk => hk), rF HO818 BK777 (fun _ hk => trivial), xB HB⟩

end Go.Proofs.YtgjljbaadglpnaaGreatDoor.PFnPaidGet
