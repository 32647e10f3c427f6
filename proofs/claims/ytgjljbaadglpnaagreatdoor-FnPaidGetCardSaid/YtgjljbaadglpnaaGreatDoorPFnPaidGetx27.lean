/- Functions of the program and what each answers: the kit's print, shortened (wip/press2.py). -/
import Derived.Test.YtgjljbaadglpnaaGreatDoorPFnPaidGetx0
import Derived.Test.YtgjljbaadglpnaaGreatDoorPFnPaidGetx16
import Derived.Test.YtgjljbaadglpnaaGreatDoorPFnPaidGetx21
import Derived.Test.YtgjljbaadglpnaaGreatDoorPFnPaidGetx25
namespace Go.Proofs.YtgjljbaadglpnaaGreatDoor.PFnPaidGet
open Go.Proofs.YtgjljbaadglpnaaGreatDoor.Sq Go.RowKit Go.Proofs.YtgjljbaadglpnaaGreatDoorW.PrintWords Go.Proofs.YtgjljbaadglpnaaGreatDoorW.PrintLast Go.Proofs.YtgjljbaadglpnaaGreatDoorW.PrintMore
open Kd
set_option linter.unusedVariables false
set_option linter.unusedSimpArgs false
set_option maxHeartbeats 64000000
set_option maxRecDepth 100000
def spec_l5Both.f (k : Nat) (a0_0 : ByteArray) (a0_1 : Int) (a0_2 : Int) (a1_0 : ByteArray) (a1_1 : Int) (a1_2 : Int) : Option (ByteArray × Int × Int) := (spec_l5Text.f k a0_0 a0_1 a0_2).bind fun t537 => (if 5 + t537.size ≤ 9223372036854775807 then (if ((⟨#[112, 101, 97, 107, 32]⟩ : ByteArray) ++ t537).size + 1 ≤ 9223372036854775807 then ((spec_l5Text.f k a1_0 a1_1 a1_2).bind fun t538 => (if (((⟨#[112, 101, 97, 107, 32]⟩ : ByteArray) ++ t537) ++ (⟨#[32]⟩ : ByteArray)).size + t538.size ≤ 9223372036854775807 then ((spec_l1Sum.f k ((((⟨#[112, 101, 97, 107, 32]⟩ : ByteArray) ++ t537) ++ (⟨#[32]⟩ : ByteArray)) ++ t538)).bind fun t539 => (some (t539, wrap64 (a0_1 + a1_1), wrap64 (a0_2 + a1_2)))) else (none))) else (none)) else (none))
def spec_l5Both.T1 : Bool × List (List Nat × List Nat) := (true, [([], []), ([0], [0]), ([1], [1]), ([2], [2]), ([], []), ([4, 1], [4]), ([3, 5], [3, 5]), ([6, 5], [6]), ([], []), ([8], [8]), ([], []), ([10], [10]), ([9, 11], [9, 11]), ([], []), ([13], [13]), ([], []), ([15], [15]), ([14, 16], [14, 16]), ([7, 12, 17], [7, 12, 17]), ([18, 7, 0, 1, 2, 3, 4, 5, 6, 7, 8, 9, 10, 11, 12, 13, 14, 15, 16, 17, 18], [18])])
def spec_l5Both.B1 : List Nat := [0, 1, 3, 7, 0, 19, 63, 127, 0, 256, 0, 1024, 3840, 0, 8192, 0, 32768, 122880, 262143, 524287]
theorem spec_l5Both.tab1 : rtab .any (opsOf Tryz.f90 1) = spec_l5Both.T1 := by kernel_rfl
theorem spec_l5Both.bits1 : waitsOk spec_l5Both.T1.2 spec_l5Both.B1 = true := by kernel_rfl
theorem spec_l5Both.calls (k : Nat) (a0_0 : ByteArray) (a0_1 : Int) (a0_2 : Int) (a1_0 : ByteArray) (a1_1 : Int) (a1_2 : Int) (r1 : ByteArray) (r2 : Int) (r3 : Int) (w : World) (h : spec_l5Both.f k a0_0 a0_1 a0_2 a1_0 a1_1 a1_2 = some (r1, r2, r3)) :
  Calls Tryz.prog 90 #[.agg #[.string a0_0, .int .i64 a0_1, .int .i64 a0_2], .agg #[.string a1_0, .int .i64 a1_1, .int .i64 a1_2]] w fun e w' => e = .returned (.agg #[.string r1, .int .i64 r2, .int .i64 r3]) ∧ Below w.heap.size w w' := by
 have hu93 := Tryz.underlying93
 have HB := am (Below.refl w.heap.size w)
 have H : ((spec_l5Text.f k a0_0 a0_1 a0_2).bind fun t537 => (if 5 + t537.size ≤ 9223372036854775807 then (if ((⟨#[112, 101, 97, 107, 32]⟩ : ByteArray) ++ t537).size + 1 ≤ 9223372036854775807 then ((spec_l5Text.f k a1_0 a1_1 a1_2).bind fun t538 => (if (((⟨#[112, 101, 97, 107, 32]⟩ : ByteArray) ++ t537) ++ (⟨#[32]⟩ : ByteArray)).size + t538.size ≤ 9223372036854775807 then ((spec_l1Sum.f k ((((⟨#[112, 101, 97, 107, 32]⟩ : ByteArray) ++ t537) ++ (⟨#[32]⟩ : ByteArray)) ++ t538)).bind fun t539 => (some (t539, wrap64 (a0_1 + a1_1), wrap64 (a0_2 + a1_2)))) else (none))) else (none)) else (none))) = some (r1, r2, r3) := h
 clear h
 replace ⟨t537, A3, H⟩ := oa H
 replace ⟨c4, H⟩ := ip H
 have c4b0 := eq_true c4
 have c4b1 := dt c4
 have c4b2 := nf c4
 replace ⟨c5, H⟩ := ip H
 have c5b0 := eq_true c5
 have c5b1 := dt c5
 have c5b2 := nf c5
 try (have c5b3 := c5b2; simp only [ByteArray.size_append, show (⟨#[112, 101, 97, 107, 32]⟩ : ByteArray).size = 5 from rfl] at c5b3)
 replace ⟨t538, A6, H⟩ := oa H
 replace ⟨c7, H⟩ := ip H
 have c7b0 := eq_true c7
 have c7b1 := dt c7
 have c7b2 := nf c7
 try (have c7b3 := c7b2; simp only [ByteArray.size_append, show (⟨#[112, 101, 97, 107, 32]⟩ : ByteArray).size = 5 from rfl, show (⟨#[32]⟩ : ByteArray).size = 1 from rfl] at c7b3)
 replace ⟨t539, A8, H⟩ := oa H
 simp only [Option.some.injEq, Prod.mk.injEq] at H
 obtain ⟨rfl, rfl, rfl⟩ := H
 go_enter Tryz.func90, Tryz.ntmps90
 try go_wp2_with ((with_reducible refine gg ?_); first | (refine bE 2 #[.string a0_0, .int .i64 a0_1, .int .i64 a0_2] 93 ?_; intro gb534 hg w9 hbox hb; have BK534 := am (hbox); have GW534 := zB hg HB; have GE534 := zB hg HB; replace HB := kH HB hb; clear hb hbox hg) | (refine bE 3 #[.string a1_0, .int .i64 a1_1, .int .i64 a1_2] 93 ?_; intro gb535 hg w10 hbox hb; have BK535 := am (hbox); have GW535 := zB hg HB; have GE535 := zB hg HB; replace HB := kH HB hb; have NB534_535 := nl hg (kb BK534); have NB535_534 := ng hg (kb BK534); replace BK534 := kP _ BK534 hb; clear hb hbox hg) | (refine bE 4 #[.string (⟨#[]⟩ : ByteArray), .int .i64 0, .int .i64 0] 93 ?_; intro gb536 hg w11 hbox hb; have BK536 := am (hbox); have GW536 := zB hg HB; have GE536 := zB hg HB; replace HB := kH HB hb; have NB534_536 := nl hg (kb BK534); have NB536_534 := ng hg (kb BK534); replace BK534 := kP _ BK534 hb; have NB535_536 := nl hg (kb BK535); have NB536_535 := ng hg (kb BK535); replace BK535 := kP _ BK535 hb; clear hb hbox hg))
 replace BK534 := am (blk_drew BK534.out)
 replace BK535 := am (blk_drew BK535.out)
 replace BK536 := am (blk_drew BK536.out)
 replace HB := am (below_drew1 HB.out)
 refine start_ (n := 20) (S := fun w' => w'.cell? ⟨gb534, 0, none⟩ = some (.string a0_0) ∧ w'.cell? ⟨gb534, 1, none⟩ = some (.int .i64 a0_1) ∧ w'.cell? ⟨gb534, 2, none⟩ = some (.int .i64 a0_2) ∧ cs3 gb535 (.string a1_0) (.int .i64 a1_1) (.int .i64 a1_2) w') (ds := []) (bm 20 0) (by kernel_rfl) rfl rfl ⟨(blk_cell BK534.out 0).trans rfl, (blk_cell BK534.out 1).trans rfl, (blk_cell BK534.out 2).trans rfl, (blk_cell BK535.out 0).trans rfl, (blk_cell BK535.out 1).trans rfl, (blk_cell BK535.out 2).trans rfl⟩ (fun hHeld => ?_); refine with_tabW spec_l5Both.tab1 spec_l5Both.bits1 (fun HT_ HW_ => ?_)
 generalize w11.drew = w12 at BK534 BK535 BK536 HB hHeld ⊢
 refine pA 8 13 (bm 20 256) HT_ ?_
 refine pA 10 15 (bm 20 1280) HT_ ?_
 refine pA 13 18 (bm 20 9472) HT_ ?_
 refine pA 15 20 (bm 20 42240) HT_ ?_
 refine tA 0 5 (bm 20 42241) HT_ HW_ hHeld ?_
 refine tA 4 9 (bm 20 42257) HT_ HW_ hHeld ?_
 refine tA 9 14 (bm 20 42769) HT_ HW_ hHeld ?_
 refine tA 11 16 (bm 20 44817) HT_ HW_ hHeld ?_
 refine pA 12 17 (bm 20 48913) HT_ ?_
 refine tA 14 19 (bm 20 65297) HT_ HW_ hHeld ?_
 refine tA 16 21 (bm 20 130833) HT_ HW_ hHeld ?_
 refine pA 17 22 (bm 20 261905) HT_ ?_
 refine oA 1 (some 6) (bm 20 261907) HT_ fun K hK => ?_
 refine gA Tryz.func71 #[.agg #[.string a0_0, .int .i64 a0_1, .int .i64 a0_2]] ?_
 with_reducible refine (spec_l5Text.calls k a0_0 a0_1 a0_2 t537 _ A3.out).mono ?_
 rintro e w13 ⟨rfl, hb⟩
 refine ⟨_, rfl, ?_⟩
 replace BK534 := kP _ BK534 hb
 replace BK535 := kP _ BK535 hb
 replace BK536 := kP _ BK536 hb
 replace HB := kH HB hb
 (try clear hb)
 (try clear hb2)
 (try clear hk)
 (try clear hi)
 refine hK.out _ _ ⟨(blk_cell BK534.out 0).trans rfl, (blk_cell BK534.out 1).trans rfl, (blk_cell BK534.out 2).trans rfl, (blk_cell BK535.out 0).trans rfl, (blk_cell BK535.out 1).trans rfl, (blk_cell BK535.out 2).trans rfl⟩ (fun hHeld => ?_)
 clear hK K
 refine nA (some 6) ?_
 refine pA 2 7 (bm 20 261911) HT_ ?_
 refine pA 3 8 (bm 20 261919) HT_ ?_
 refine oA 5 (some 10) (bm 20 261951) HT_ fun K hK => ?_
 refine gA Tryz.func71 #[.agg #[.string a1_0, .int .i64 a1_1, .int .i64 a1_2]] ?_
 with_reducible refine (spec_l5Text.calls k a1_0 a1_1 a1_2 t538 _ A6.out).mono ?_
 rintro e w14 ⟨rfl, hb⟩
 refine ⟨_, rfl, ?_⟩
 replace BK534 := kP _ BK534 hb
 replace BK535 := kP _ BK535 hb
 replace BK536 := kP _ BK536 hb
 replace HB := kH HB hb
 (try clear hb)
 (try clear hb2)
 (try clear hk)
 (try clear hi)
 refine hK.out _ _ ⟨(blk_cell BK534.out 0).trans rfl, (blk_cell BK534.out 1).trans rfl, (blk_cell BK534.out 2).trans rfl, (blk_cell BK535.out 0).trans rfl, (blk_cell BK535.out 1).trans rfl, (blk_cell BK535.out 2).trans rfl⟩ (fun hHeld => ?_)
 clear hK K
 refine nA (some 10) ?_
 refine pA 6 11 (bm 20 262015) HT_ ?_
 refine oA 7 (some 12) (bm 20 262143) HT_ fun K hK => ?_
 refine gA Tryz.func47 #[.string ((((⟨#[112, 101, 97, 107, 32]⟩ : ByteArray) ++ t537) ++ (⟨#[32]⟩ : ByteArray)) ++ t538)] ?_
 with_reducible refine (spec_l1Sum.calls k ((((⟨#[112, 101, 97, 107, 32]⟩ : ByteArray) ++ t537) ++ (⟨#[32]⟩ : ByteArray)) ++ t538) t539 _ A8.out).mono ?_
 rintro e w15 ⟨rfl, hb⟩
 refine ⟨_, rfl, ?_⟩
 replace BK534 := kP _ BK534 hb
 replace BK535 := kP _ BK535 hb
 replace BK536 := kP _ BK536 hb
 replace HB := kH HB hb
 (try clear hb)
 (try clear hb2)
 (try clear hk)
 (try clear hi)
 refine hK.out _ _ ⟨(blk_cell BK534.out 0).trans rfl, (blk_cell BK534.out 1).trans rfl, (blk_cell BK534.out 2).trans rfl, (blk_cell BK535.out 0).trans rfl, (blk_cell BK535.out 1).trans rfl, (blk_cell BK535.out 2).trans rfl⟩ (fun hHeld => ?_)
 clear hK K
 refine nA (some 12) ?_
 refine pA 18 23 (bm 20 524287) HT_ ?_
 refine oA 19 none (bm 20 1048575) HT_ fun K hK => ?_
 have hs16 : w15.cell? ⟨gb536, 0, none⟩ = some (.string (⟨#[]⟩ : ByteArray)) := (blk_cell BK536.out 0).trans rfl
 have hfs16 := blk_frozen BK536.out 0
 have hns16_0 := NB534_536.out
 have hns16_1 := NB535_536.out
 have hms16_0 := NB536_534.out
 have hms16_1 := NB536_535.out
 have hs17 : w15.cell? ⟨gb536, 1, none⟩ = some (.int .i64 0) := (blk_cell BK536.out 1).trans rfl
 have hfs17 := blk_frozen BK536.out 1
 have hns17_0 := NB534_536.out
 have hns17_1 := NB535_536.out
 have hms17_0 := NB536_534.out
 have hms17_1 := NB536_535.out
 have hs18 : w15.cell? ⟨gb536, 2, none⟩ = some (.int .i64 0) := (blk_cell BK536.out 2).trans rfl
 have hfs18 := blk_frozen BK536.out 2
 have hns18_0 := NB534_536.out
 have hns18_1 := NB535_536.out
 have hms18_0 := NB536_534.out
 have hms18_1 := NB536_535.out
 refine skip_ (w1 := ?_) (by rfl) rfl ?_ ?_
 rotate_left
 ·go_simp
  rfl
 refine hK.out _ _ ⟨(cf NB534_536.out hHeld.1), (cf NB534_536.out hHeld.2.1), (cf NB534_536.out hHeld.2.2.1), (cf NB535_536.out hHeld.2.2.2.1), (cf NB535_536.out hHeld.2.2.2.2.1), (cf NB535_536.out hHeld.2.2.2.2.2)⟩ (fun hHeld => ?_)
 clear hK K
 refine done_ (done_of HT_.out (by kernel_rfl)) ?_
 try go_wp2
 refine bodyPost_ret (results_cell_row rfl _ _ gb536 93 #[.string t539, .int .i64 (wrap64 (a0_1 + a1_1)), .int .i64 (wrap64 (a0_2 + a1_2))] (0, 0) _ rfl (fb BK536) Tryz.underlying93 rfl (by kernel_rfl)) rfl ?_
 exact ⟨xE, xB HB⟩
open Kd
set_option linter.unusedVariables false
set_option linter.unusedSimpArgs false
set_option maxHeartbeats 64000000
set_option maxRecDepth 100000
def spec_l5Add.l0 : Nat → List S93 → ByteArray → Int → Int → Option (List S93)
 | 0, _, _, _, _ => none
 | k + 1, x5, x541000, x541001, x541002 => if (x5.length : Int) > 0 then (if 0 ≤ (wrap64 ((x5.length : Int) - 1)) then (if (wrap64 ((x5.length : Int) - 1)) < (x5.length : Int) then (if ((rd_T93 x5 (wrap64 ((x5.length : Int) - 1))).f2) = x541002 then ((spec_l5Both.f k ((rd_T93 x5 (wrap64 ((x5.length : Int) - 1))).f0) ((rd_T93 x5 (wrap64 ((x5.length : Int) - 1))).f1) ((rd_T93 x5 (wrap64 ((x5.length : Int) - 1))).f2) x541000 x541001 x541002).bind fun bt549 => (if (wrap64 ((x5.length : Int) - 1)) ≤ (x5.length : Int) then (spec_l5Add.l0 k (x5.take ((wrap64 ((x5.length : Int) - 1)) : Int).toNat) bt549.1 bt549.2.1 bt549.2.2) else (none))) else (if x5.length < 4398046511104 then (some (x5 ++ [(⟨x541000, x541001, x541002⟩ : S93)])) else (none))) else (none)) else (none)) else (if x5.length < 4398046511104 then (some (x5 ++ [(⟨x541000, x541001, x541002⟩ : S93)])) else (none))
def spec_l5Add.f (k : Nat) (l0 : List S93) (a1_0 : ByteArray) (a1_1 : Int) (a1_2 : Int) : Option (List S93) := (some (([] : List S93) : List S93)).bind fun y541 => (if y541.length + l0.length < 4398046511104 then (spec_l5Add.l0 k (y541 ++ l0) a1_0 a1_1 a1_2) else (none))
def spec_l5Add.T2 : Bool × List (List Nat × List Nat) := (true, [([], []), ([0], [0]), ([1], [1]), ([2], [2]), ([3], [3]), ([3], [3]), ([5, 3], [3, 5]), ([6, 3], [3, 6]), ([4, 7, 3], [3, 4, 7]), ([8, 3], [3, 8]), ([9, 3], [3, 9]), ([3], [3]), ([11, 3], [3, 11]), ([10, 12, 3], [3, 10, 12]), ([3, 13], [3, 13])])
def spec_l5Add.B2 : List Nat := [0, 1, 3, 7, 15, 15, 47, 111, 255, 511, 1023, 15, 2063, 8191, 16383]
theorem spec_l5Add.tab2 : rtab .any (opsOf Tryz.f72 2) = spec_l5Add.T2 := by kernel_rfl
theorem spec_l5Add.bits2 : waitsOk spec_l5Add.T2.2 spec_l5Add.B2 = true := by kernel_rfl
def spec_l5Add.T3 : Bool × List (List Nat × List Nat) := (true, [([], []), ([], []), ([1], [1]), ([2], [2]), ([0, 3], [0, 3]), ([4], [4]), ([], []), ([5, 6], [5, 6]), ([7, 7, 0, 1, 2, 3, 4, 5, 6, 7], [7])])
def spec_l5Add.B3 : List Nat := [0, 0, 2, 6, 15, 31, 0, 127, 255]
theorem spec_l5Add.tab3 : rtab .any (opsOf Tryz.f72 3) = spec_l5Add.T3 := by kernel_rfl
theorem spec_l5Add.bits3 : waitsOk spec_l5Add.T3.2 spec_l5Add.B3 = true := by kernel_rfl
theorem spec_l5Add.calls (k : Nat) (A0 : Option Addr) (c0 : Nat) (l0 : List S93) (a1_0 : ByteArray) (a1_1 : Int) (a1_2 : Int) (r : List S93) (w : World) (hr0 : Kd.C k93 w A0 l0.length l0) (hc0 : l0.length ≤ c0) (h : spec_l5Add.f k l0 a1_0 a1_1 a1_2 = some r) :
  Calls Tryz.prog 72 #[.slice A0 l0.length c0, .agg #[.string a1_0, .int .i64 a1_1, .int .i64 a1_2]] w fun e w' => ∃ v0_ : Value, e = .returned (v0_) ∧ Kd.R k93 93 w' w.heap.size (fun _ => True) v0_ r ∧ Below w.heap.size w w' := by
 have hu93 := Tryz.underlying93
 have HR0 := am hr0
 have HC0 := am hc0
 clear hr0 hc0
 have HB := am (Below.refl w.heap.size w)
 have H : ((some (([] : List S93) : List S93)).bind fun y541 => (if y541.length + l0.length < 4398046511104 then (spec_l5Add.l0 k (y541 ++ l0) a1_0 a1_1 a1_2) else (none))) = some r := h
 clear h
 obtain ⟨y541, Ny541⟩ := yA (([] : List S93) : List S93)
 rw [← Ny541.out] at H
 replace ⟨LMc3, H⟩ := ipa H
 obtain ⟨y544, Ny544⟩ := yA (y541 ++ l0 : List S93)
 rw [← Ny544.out] at H
 have H' := am H
 clear H
 go_enter Tryz.func72, Tryz.ntmps72
 go_wp2_with (first | ((with_reducible refine gate_dst (N := 3) rfl ?_); (try (refine gate_guard (by rfl) ?_; dsimp only)); refine box_event ?hg (N := 3) ?hd (cs := #[.string a1_0, .int .i64 a1_1, .int .i64 a1_2]) (t := 93) ?hr ?_; (case hd => rfl); (case hg => rfl); (case hr => first | (go_simp; done) | (go_simp; rfl)); intro gb540 hg w4 hbox hb; have BK540 := am (hbox); have GW540 := zB hg HB; have GE540 := zB hg HB; replace HB := kH HB hb; clear hb hbox hg) | ((with_reducible refine gate_dst (N := 6) rfl ?_); (try (refine gate_guard (by rfl) ?_; dsimp only)); refine R_lit k93 _ 93 ?hg (N := 6) ?hd (xs := ([] : List S93)) (inner := []) (ok := fun _ => True) (okp := fun _ => True) ?hr ?hp (fun _ hk => hk) trivial (Below.refl _ _) (Nat.le_refl _) (by simp) ?_; (case hd => rfl); (case hg => rfl); (case hr => first | (go_simp; done) | (go_simp; rfl)); (case hp => exact xP); intro v542 w5 ho6 hb hg_ hnew_; clear hg_ hnew_; (first | rw [← Ny541.out] at ho6 | (simp only [Int.reduceToNat] at ho6; rw [← Ny541.out] at ho6)); have HO543 := am (R_lower (R_newB ho6 (g := gb540) (o := .cells #[.string a1_0, .int .i64 a1_1, .int .i64 a1_2] 93 (0, 0)) (kb BK540)) (below_size (xB HB))); replace BK540 := kP _ BK540 hb; replace HB := kH HB hb; clear hb ho6) | ((with_reducible refine gate_builtin (b := .append) (xs := #[.tmp 6, .tmp 7]) rfl ?_); (try (refine gate_guard (by rfl) ?_; dsimp only)); at_builtin; refine R_append_rows k93 (w0 := w) w.heap.size rfl (.tmp 6) (.tmp 7) 25 93 (.agg #[(.string ⟨#[]⟩), (.int .i64 0), (.int .i64 0)]) 32 rfl Tryz.underlying25 info93 rfl (by decide) (by omega) v542 y541 l0 _ _ _ (fun k_ => k_ ≠ gb540) (fun _ => False) rfl rfl ?aO ?aR (fun _ _ h => h) (fun _ h => h.elim) ?aF ?aB ?aS ?aL ?_; (case aR => exact cb HR0 HB); (case aB => exact (xB HB)); (case aF => exact (fun k_ hk => Kd.freshB (g := gb540) (o := .cells #[.string a1_0, .int .i64 a1_1, .int .i64 a1_2] 93 (0, 0)) (kb BK540) k_ hk)); (case aO => exact (rM HO543 h2)); (case aS => exact (below_size (xB HB))); (case aL => have := LMc3.out; omega); intro v545 w7 ho hb hg hat; rw [← Ny544.out] at ho; have n0_ := am (blk_grown (g := gb540) (o := .cells #[.string a1_0, .int .i64 a1_1, .int .i64 a1_2] 93 (0, 0)) (kb BK540) hg (R_away HO543.out h2)); have n1_ := am (hb); have n2_ := am (ho); clear BK540; clear HB; clear HO543; have BK540 := n0_; have HB := n1_; have HO546 := n2_; clear n0_ n1_ n2_; clear ho hb hg hat))
 go_loopg [5] k (fun kq v5 w' => ∃ (x5_1 : List S93) (x541000_1 : ByteArray) (x541001_1 : Int) (x541002_1 : Int), Aside0 (spec_l5Add.l0 kq x5_1 x541000_1 x541001_1 x541002_1 = some r) ∧ Aside0 (kq ≤ k) ∧ Aside0 (Kd.R k93 93 w' w.heap.size (fun k_ => k_ ≠ gb540) v5 x5_1) ∧ Aside0 (w'.heap[gb540]? = some (.cells #[.string x541000_1, .int .i64 x541001_1, .int .i64 x541002_1] 93 (0, 0))) ∧ Aside0 (Below w.heap.size w w'))
 case atStart => exact ⟨(y544), (a1_0), (a1_1), (a1_2), H', ⟨Nat.le_refl _⟩, ⟨ra HO546⟩, ⟨kb BK540⟩, ⟨xB HB⟩⟩
 case round =>
  clear H'
  obtain ⟨x5_1, x541000_1, x541001_1, x541002_1, HA, HK1, HO_5, BK540, HB⟩ := hrel
  cases gk with
  | zero => exact absurd HA.out (by simp [spec_l5Add.l0])
  | succ k1 =>
   have H := HA.out
   clear HA
   simp only [spec_l5Add.l0] at H
   by_cases c8 : (x5_1.length : Int) > 0
   rotate_left
   ·rw [if_neg c8] at H
    have c8b0 := df c8
    have c8b1 : decide (0 < x5_1.length) = false := decide_eq_false (by omega)
    clear c8
    replace ⟨LMc29, H⟩ := ipa H
    obtain ⟨y558, hy558⟩ : ∃ y_ : List S93, y_ = (x5_1 ++ [(⟨x541000_1, x541001_1, x541002_1⟩ : S93)]) := ⟨_, rfl⟩
    replace H : (some y558) = some r := by first | (rw [hy558]; with_reducible exact H) | (have H2_ := (Option.bind_some _ _).symm.trans H; rw [hy558]; with_reducible exact H2_) | (have H2_ := (Option.bind_some _ _).symm.trans H; with_reducible exact H2_) | with_reducible exact H | (rw [hy558]; exact H) | exact H
    have Ny558 := am hy558
    clear hy558
    obtain rfl := oI H
    try go_wp2
    replace HO_5 := am (R_drew HO_5.out)
    replace BK540 := am (blk_drew BK540.out)
    replace HB := am (below_drew1 HB.out)
    obtain ⟨Ao31, co31, eo31⟩ := R_slice HO_5.out
    (first | subst eo31 | (obtain ⟨f4_, f5_⟩ := eS eo31; subst f4_ f5_))
    refine start_ (n := 15) (S := fun w' => True) (ds := []) (bm 15 0) (by kernel_rfl) rfl rfl trivial (fun hHeld => ?_); refine with_tabW spec_l5Add.tab2 spec_l5Add.bits2 (fun HT_ HW_ => ?_)
    generalize wr.drew = w30 at HO_5 BK540 HB hHeld ⊢
    refine pA 0 9 (bm 15 1) HT_ ?_
    refine pA 1 10 (bm 15 3) HT_ ?_
    refine pA 2 11 (bm 15 7) HT_ ?_
    refine pA 3 12 (bm 15 15) HT_ ?_
    refine pU 4 13 (bm 15 31) HT_ ?_
    refine pU 5 14 (bm 15 63) HT_ ?_
    refine pU 6 15 (bm 15 127) HT_ ?_
    refine pU 7 16 (bm 15 255) HT_ ?_
    refine pU 8 17 (bm 15 511) HT_ ?_
    refine pU 9 18 (bm 15 1023) HT_ ?_
    refine pU 10 19 (bm 15 2047) HT_ ?_
    refine pU 11 20 (bm 15 4095) HT_ ?_
    refine pU 12 21 (bm 15 8191) HT_ ?_
    refine pU 13 22 (bm 15 16383) HT_ ?_
    refine pA 14 23 (bm 15 32767) HT_ ?_
    refine done_ (done_of HT_.out (by kernel_rfl)) ?_
    have hz32 := bc3 BK540
    try go_wp2_with ((with_reducible refine gate_builtin (b := .append) (xs := #[.tmp 37, .tmp 39]) rfl ?_); (try (refine gate_guard (by rfl) ?_; dsimp only)); at_builtin; refine R_append k93 (w0 := w) w.heap.size rfl (.tmp 37) (.tmp 39) 25 93 (.agg #[(.string ⟨#[]⟩), (.int .i64 0), (.int .i64 0)]) 32 rfl Tryz.underlying25 info93 rfl (by decide) (by omega) (.slice Ao31 x5_1.length co31) x5_1 (⟨x541000_1, x541001_1, x541002_1⟩ : S93) [.string x541000_1, .int .i64 x541001_1, .int .i64 x541002_1] (fun k_ => k_ ≠ gb540) (fun _ => False) rfl rfl ?aP (fun _ hk => hk.elim) ?aF ?aO ?aB ?aS ?aL ?_; (case aP => exact k93_mkM _ _ _ (⟨x541000_1, x541001_1, x541002_1⟩ : S93)); (case aB => exact (xB HB)); (case aF => exact (fun k_ hk => Kd.freshB (g := gb540) (o := .cells #[.string x541000_1, .int .i64 x541001_1, .int .i64 x541002_1] 93 (0, 0)) (kb BK540) k_ hk)); (case aO => exact (ra HO_5)); (case aS => exact (below_size (xB HB))); (case aL => have := LMc29.out; omega); intro v559 w33 ho hb hg hat; rw [← Ny558.out] at ho; have n0_ := am (blk_grown (g := gb540) (o := .cells #[.string x541000_1, .int .i64 x541001_1, .int .i64 x541002_1] 93 (0, 0)) (kb BK540) hg (R_away HO_5.out (fun _ hk => hk))); have n1_ := am (hb); have n2_ := am (ho); clear BK540; clear HB; clear HO_5; have BK540 := n0_; have HB := n1_; have HO560 := n2_; clear n0_ n1_ n2_; clear ho hb hg hat)
    go_ret
    exact ⟨_, xE, rM HO560 (fun _ hk => trivial), xB HB⟩
   rw [if_pos c8] at H
   have c8b0 := dt c8
   have c8b1 : decide (0 < x5_1.length) = true := dt (by omega)
   clear c8
   obtain ⟨ji9, hji9⟩ := je (wrap64 ((x5_1.length : Int) - 1))
   first | rw [hji9] at H | simp only [hji9] at H
   have hji9w : (IntKind.i64.wrap ((x5_1.length : Int) - 1)) = ji9 := (i64_w _).trans hji9
   replace ⟨c10b0, H⟩ := ipd H
   replace ⟨c11b0, H⟩ := ipd H
   try go_wp2
   replace HO_5 := am (R_drew HO_5.out)
   replace BK540 := am (blk_drew BK540.out)
   replace HB := am (below_drew1 HB.out)
   obtain ⟨Ao16, co16, eo16⟩ := R_slice HO_5.out
   (first | subst eo16 | (obtain ⟨f4_, f5_⟩ := eS eo16; subst f4_ f5_))
   have p547 : 0 ≤ ((ji9) : Int) := oX
   have q547 : (ji9) < (x5_1.length : Int) := oX
   obtain ⟨ad547, e547, hx547_0, hx547_1, hx547_2⟩ := at_T93 (R_reads' HO_5.out).2.2 (ji9) p547 q547
   cases e547
   replace ⟨p547, q547⟩ := eT p547 q547
   refine start_ (n := 15) (S := fun w' => w'.cell? ⟨gb540, 0, none⟩ = some (.string x541000_1) ∧ w'.cell? ⟨gb540, 1, none⟩ = some (.int .i64 x541001_1) ∧ w'.cell? ⟨gb540, 2, none⟩ = some (.int .i64 x541002_1) ∧ w'.cell? (ad547.add (((ji9)).toNat * 3)) = some (.string ((rd_T93 x5_1 (ji9)).f0)) ∧ w'.cell? ⟨(ad547.add (((ji9)).toNat * 3)).block, (ad547.add (((ji9)).toNat * 3)).off + 1, none⟩ = some (.int .i64 ((rd_T93 x5_1 (ji9)).f1)) ∧ w'.cell? ⟨(ad547.add (((ji9)).toNat * 3)).block, (ad547.add (((ji9)).toNat * 3)).off + 2, none⟩ = some (.int .i64 ((rd_T93 x5_1 (ji9)).f2))) (ds := []) (bm 15 0) (by kernel_rfl) rfl rfl ⟨(blk_cell BK540.out 0).trans rfl, (blk_cell BK540.out 1).trans rfl, (blk_cell BK540.out 2).trans rfl, hx547_0, hx547_1, hx547_2⟩ (fun hHeld => ?_); refine with_tabW spec_l5Add.tab2 spec_l5Add.bits2 (fun HT_ HW_ => ?_)
   generalize wr.drew = w15 at HO_5 BK540 HB hx547_0 hx547_1 hx547_2 hHeld ⊢
   refine pA 0 9 (bm 15 1) HT_ ?_
   refine pA 1 10 (bm 15 3) HT_ ?_
   refine pA 2 11 (bm 15 7) HT_ ?_
   refine pA 3 12 (bm 15 15) HT_ ?_
   refine pA 4 13 (bm 15 31) HT_ ?_
   refine pA 5 14 (bm 15 63) HT_ ?_
   refine pA 6 15 (bm 15 127) HT_ ?_
   refine pA 7 16 (bm 15 255) HT_ ?_
   refine pA 8 17 (bm 15 511) HT_ ?_
   refine pA 9 18 (bm 15 1023) HT_ ?_
   refine pA 11 20 (bm 15 3071) HT_ ?_
   refine tA 10 19 (bm 15 4095) HT_ HW_ hHeld ?_
   refine tA 12 21 (bm 15 8191) HT_ HW_ hHeld ?_
   refine pA 13 22 (bm 15 16383) HT_ ?_
   refine pA 14 23 (bm 15 32767) HT_ ?_
   refine done_ (done_of HT_.out (by kernel_rfl)) ?_
   by_cases c12 : ((rd_T93 x5_1 (ji9)).f2) = x541002_1
   rotate_left
   ·rw [if_neg c12] at H
    have c12b0 := beq_eq_false_iff_ne.mpr c12
    have c12b1 := bne_iff_ne.mpr c12
    try simp only [c12b0, c12b1, Bool.not_true, Bool.not_false]
    replace ⟨LMc24, H⟩ := ipa H
    obtain ⟨y555, hy555⟩ : ∃ y_ : List S93, y_ = (x5_1 ++ [(⟨x541000_1, x541001_1, x541002_1⟩ : S93)]) := ⟨_, rfl⟩
    replace H : (some y555) = some r := by first | (rw [hy555]; with_reducible exact H) | (have H2_ := (Option.bind_some _ _).symm.trans H; rw [hy555]; with_reducible exact H2_) | (have H2_ := (Option.bind_some _ _).symm.trans H; with_reducible exact H2_) | with_reducible exact H | (rw [hy555]; exact H) | exact H
    have Ny555 := am hy555
    clear hy555
    obtain rfl := oI H
    have hz27 := bc3 BK540
    try go_wp2_with ((with_reducible refine gate_builtin (b := .append) (xs := #[.tmp 37, .tmp 39]) rfl ?_); (try (refine gate_guard (by rfl) ?_; dsimp only)); at_builtin; refine R_append k93 (w0 := w) w.heap.size rfl (.tmp 37) (.tmp 39) 25 93 (.agg #[(.string ⟨#[]⟩), (.int .i64 0), (.int .i64 0)]) 32 rfl Tryz.underlying25 info93 rfl (by decide) (by omega) (.slice (some ad547) x5_1.length co16) x5_1 (⟨x541000_1, x541001_1, x541002_1⟩ : S93) [.string x541000_1, .int .i64 x541001_1, .int .i64 x541002_1] (fun k_ => k_ ≠ gb540) (fun _ => False) rfl rfl ?aP (fun _ hk => hk.elim) ?aF ?aO ?aB ?aS ?aL ?_; (case aP => exact k93_mkM _ _ _ (⟨x541000_1, x541001_1, x541002_1⟩ : S93)); (case aB => exact (xB HB)); (case aF => exact (fun k_ hk => Kd.freshB (g := gb540) (o := .cells #[.string x541000_1, .int .i64 x541001_1, .int .i64 x541002_1] 93 (0, 0)) (kb BK540) k_ hk)); (case aO => exact (ra HO_5)); (case aS => exact (below_size (xB HB))); (case aL => have := LMc24.out; omega); intro v556 w28 ho hb hg hat; rw [← Ny555.out] at ho; have n0_ := am (blk_grown (g := gb540) (o := .cells #[.string x541000_1, .int .i64 x541001_1, .int .i64 x541002_1] 93 (0, 0)) (kb BK540) hg (R_away HO_5.out (fun _ hk => hk))); have n1_ := am (hb); have n2_ := am (ho); clear BK540; clear HB; clear HO_5; have BK540 := n0_; have HB := n1_; have HO557 := n2_; clear n0_ n1_ n2_; clear ho hb hg hat)
    go_ret
    exact ⟨_, by first | rfl | (simp [errW_none, errW_some] <;> rfl) | (simp only [← hji9]; first | rfl | (simp [errW_none, errW_some] <;> rfl)) | (simp [*, errW_none, errW_some] <;> rfl), rM HO557 (fun _ hk => trivial), xB HB⟩
   rw [if_pos c12] at H
   have c12b0 := beq_iff_eq.mpr c12
   have c12b1 := bne_eq_false_iff_eq.mpr c12
   try simp only [c12b0, c12b1, Bool.not_true, Bool.not_false]
   clear c12
   replace H := Option.bind_eq_some_iff.mp H
   obtain ⟨⟨t549, t550, t551⟩, A130, H⟩ := H
   have A13 := am A130
   clear A130
   replace ⟨c14, H⟩ := ip H
   have c14b0 := eq_true c14
   have c14b1 := dt c14
   clear c14
   obtain ⟨y552, Ny552⟩ := yA (x5_1.take ((ji9) : Int).toNat : List S93)
   rw [← Ny552.out] at H
   have H' := am H
   clear H
   try go_wp2
   replace HO_5 := am (R_drew HO_5.out)
   replace BK540 := am (blk_drew BK540.out)
   replace HB := am (below_drew1 HB.out)
   have p548 : 0 ≤ ((ji9) : Int) := oX
   have q548 : (ji9) < (x5_1.length : Int) := oX
   obtain ⟨ad548, e548, hx548_0, hx548_1, hx548_2⟩ := at_T93 (R_reads' HO_5.out).2.2 (ji9) p548 q548
   obtain rfl : ad547 = ad548 := (by injection e548)
   replace ⟨p548, q548⟩ := eT p548 q548
   refine start_ (n := 9) (S := fun w' => w'.cell? ⟨gb540, 0, none⟩ = some (.string x541000_1) ∧ w'.cell? ⟨gb540, 1, none⟩ = some (.int .i64 x541001_1) ∧ w'.cell? ⟨gb540, 2, none⟩ = some (.int .i64 x541002_1) ∧ w'.cell? (ad547.add (((ji9)).toNat * 3)) = some (.string ((rd_T93 x5_1 (ji9)).f0)) ∧ w'.cell? ⟨(ad547.add (((ji9)).toNat * 3)).block, (ad547.add (((ji9)).toNat * 3)).off + 1, none⟩ = some (.int .i64 ((rd_T93 x5_1 (ji9)).f1)) ∧ w'.cell? ⟨(ad547.add (((ji9)).toNat * 3)).block, (ad547.add (((ji9)).toNat * 3)).off + 2, none⟩ = some (.int .i64 ((rd_T93 x5_1 (ji9)).f2))) (ds := [8]) (bm 9 0) (by kernel_rfl) rfl rfl ⟨(blk_cell BK540.out 0).trans rfl, (blk_cell BK540.out 1).trans rfl, (blk_cell BK540.out 2).trans rfl, hx548_0, hx548_1, hx548_2⟩ (fun hHeld => ?_); refine with_tabW spec_l5Add.tab3 spec_l5Add.bits3 (fun HT_ HW_ => ?_)
   generalize w15.drew = w17 at HO_5 BK540 HB hx548_0 hx548_1 hx548_2 hHeld ⊢
   refine pA 0 24 (bm 9 1) HT_ ?_
   refine pA 1 25 (bm 9 3) HT_ ?_
   refine pA 2 26 (bm 9 7) HT_ ?_
   refine pA 3 27 (bm 9 15) HT_ ?_
   refine pA 4 28 (bm 9 31) HT_ ?_
   refine tA 5 29 (bm 9 63) HT_ HW_ hHeld ?_
   refine tA 6 30 (bm 9 127) HT_ HW_ hHeld ?_
   refine oA 7 (some 31) (bm 9 255) HT_ fun K hK => ?_
   refine goes_ Tryz.func90 (by kernel_rfl) rfl #[.agg #[.string ((rd_T93 x5_1 (ji9)).f0), .int .i64 ((rd_T93 x5_1 (ji9)).f1), .int .i64 ((rd_T93 x5_1 (ji9)).f2)], .agg #[.string x541000_1, .int .i64 x541001_1, .int .i64 x541002_1]] (by rfl) rfl rfl (by (try simp only [List.map_toArray, List.map_cons, List.map_nil]); first | done | (simp only [hji9]; rfl) | rfl | (simp only [List.length_drop, List.length_take]; rfl)) ?_
   with_reducible refine (spec_l5Both.calls k1 ((rd_T93 x5_1 (ji9)).f0) ((rd_T93 x5_1 (ji9)).f1) ((rd_T93 x5_1 (ji9)).f2) x541000_1 x541001_1 x541002_1 t549 t550 t551 _ A13.out).mono ?_
   rintro e w18 ⟨rfl, hb⟩
   have HS3_ := cB hb hHeld.2.2.2.1
   have HS4_ := cB hb hHeld.2.2.2.2.1
   have HS5_ := cB hb hHeld.2.2.2.2.2
   refine ⟨_, rfl, ?_⟩
   replace HO_5 := rk HO_5 hb
   replace BK540 := kP _ BK540 hb
   replace HB := kH HB hb
   (try clear hb)
   (try clear hb2)
   (try clear hk)
   (try clear hi)
   refine hK.out _ _ ⟨(blk_cell BK540.out 0).trans rfl, (blk_cell BK540.out 1).trans rfl, (blk_cell BK540.out 2).trans rfl, HS3_, HS4_, HS5_⟩ (fun hHeld => ?_)
   clear hK K
   refine nA (some 31) ?_
   refine last_ (i := 8) (N := none) (bm 9 511) rfl rfl (one_of HT_.out (by kernel_rfl)) (by decide) (fun K hK => ?_)
   have hs19 : w18.cell? ⟨gb540, 0, none⟩ = some (.string x541000_1) := (blk_cell BK540.out 0).trans rfl
   have hfs19 := blk_frozen BK540.out 0
   have hs20 : w18.cell? ⟨gb540, 1, none⟩ = some (.int .i64 x541001_1) := (blk_cell BK540.out 1).trans rfl
   have hfs20 := blk_frozen BK540.out 1
   have hs21 : w18.cell? ⟨gb540, 2, none⟩ = some (.int .i64 x541002_1) := (blk_cell BK540.out 2).trans rfl
   have hfs21 := blk_frozen BK540.out 2
   refine skip_ (w1 := ?_) (by rfl) rfl ?_ ?_
   rotate_left
   ·go_simp
    rfl
   refine hK.out _ _ ?_
   clear hK K
   refine done_ (done_of HT_.out (by kernel_rfl)) ?_
   have n0_ : Aside0 (Kd.R k93 93 (((w18.setCell ⟨gb540, 0, none⟩ (.string t549)).setCell ⟨gb540, 1, none⟩ (.int .i64 t550)).setCell ⟨gb540, 2, none⟩ (.int .i64 t551)) w.heap.size (fun k_ => k_ ≠ gb540) (.slice (some ad547) x5_1.length co16) x5_1) := ⟨by (with_reducible repeat (first | apply R_alloc | apply R_drewN | apply R_drew)); exact R_mono (R_far (p := ⟨gb540, 2, none⟩) (R_far (p := ⟨gb540, 1, none⟩) (R_far (p := ⟨gb540, 0, none⟩) (R_mono HO_5.out (fun k_ hk => (⟨hk, hk⟩ : _ ∧ k_ ≠ gb540))) h2 (.string t549)) h2 (.int .i64 t550)) h2 (.int .i64 t551)) (fun _ hk => hk.1)⟩
   have n1_ : Aside0 ((((w18.setCell ⟨gb540, 0, none⟩ (.string t549)).setCell ⟨gb540, 1, none⟩ (.int .i64 t550)).setCell ⟨gb540, 2, none⟩ (.int .i64 t551)).heap[gb540]? = some (.cells #[.string t549, .int .i64 t550, .int .i64 t551] 93 (0, 0))) := ⟨fb BK540⟩
   have n2_ : Aside0 (Below w.heap.size w (((w18.setCell ⟨gb540, 0, none⟩ (.string t549)).setCell ⟨gb540, 1, none⟩ (.int .i64 t550)).setCell ⟨gb540, 2, none⟩ (.int .i64 t551))) := ⟨xB HB⟩
   (try clear HO_5)
   (try clear BK540)
   (try clear HB)
   generalize (((w18.setCell ⟨gb540, 0, none⟩ (.string t549)).setCell ⟨gb540, 1, none⟩ (.int .i64 t550)).setCell ⟨gb540, 2, none⟩ (.int .i64 t551)) = w22 at n0_ n1_ n2_ ⊢
   have HO_5 := n0_
   have BK540 := n1_
   have HB := n2_
   clear n0_ n1_ n2_
   have q23 : ((ji9) : Int) ≤ ((x5_1.length : Int) : Int) := oX
   obtain ⟨i023, hi023, _, hsz23, _⟩ := info_parts info93
   have hcut23 := cut_to (P := Tryz.prog) 25 93 .i64 Tryz.underlying25 hi023 (some ad547) x5_1.length co16 (ji9) (oX) q23 (R_reads' HO_5.out).2.1
   have hr23 := R_take (m := ((ji9) : Int).toNat) HO_5.out (by omega)
   have hy23 : y552.length = ((ji9) : Int).toNat := (by rw [Ny552.out, List.length_take]; omega)
   rw [← Ny552.out] at hr23
   rw [← hy23] at hr23 hcut23
   clear hy23 hi023 hsz23 HO_5
   have HO554 := am hr23
   clear hr23
   replace q23 := eq_true q23
   try go_wp2
   go_roundg k1
   case measure => have := HK1.out; omega
   case rel => exact ⟨(y552), (t549), (t550), (t551), H', ⟨xL HK1⟩, ⟨ra HO554⟩, ⟨kb BK540⟩, ⟨xB HB⟩⟩
def spec_l5Leaf.f (k : Nat) (a0_0 : ByteArray) (a0_1 : ByteArray) (a0_2 : Int) (a0_3 : Int) (a0_4 : Int) : Option (ByteArray × Int × Int) := (spec_l3Put.f k a0_0 a0_1 a0_2 a0_3 a0_4).bind fun t563 => (if 5 + t563.size ≤ 9223372036854775807 then ((spec_l1Sum.f k ((⟨#[108, 101, 97, 102, 32]⟩ : ByteArray) ++ t563)).bind fun t564 => (some (t564, a0_3, 1))) else (none))
def spec_l5Leaf.T1 : Bool × List (List Nat × List Nat) := (true, [([], []), ([0], [0]), ([1], [1]), ([2, 1], [2]), ([], []), ([4], [4]), ([3, 5], [3, 5]), ([6, 3, 0, 1, 2, 3, 4, 5, 6], [6])])
def spec_l5Leaf.B1 : List Nat := [0, 1, 3, 7, 0, 16, 63, 127]
theorem spec_l5Leaf.tab1 : rtab .any (opsOf Tryz.f73 1) = spec_l5Leaf.T1 := by kernel_rfl
theorem spec_l5Leaf.bits1 : waitsOk spec_l5Leaf.T1.2 spec_l5Leaf.B1 = true := by kernel_rfl
theorem spec_l5Leaf.calls (k : Nat) (a0_0 : ByteArray) (a0_1 : ByteArray) (a0_2 : Int) (a0_3 : Int) (a0_4 : Int) (r1 : ByteArray) (r2 : Int) (r3 : Int) (w : World) (h : spec_l5Leaf.f k a0_0 a0_1 a0_2 a0_3 a0_4 = some (r1, r2, r3)) :
  Calls Tryz.prog 73 #[.agg #[.string a0_0, .string a0_1, .int .i64 a0_2, .int .i64 a0_3, .int .i64 a0_4]] w fun e w' => e = .returned (.agg #[.string r1, .int .i64 r2, .int .i64 r3]) ∧ Below w.heap.size w w' := by
 have hu24 := Tryz.underlying24
 have hu93 := Tryz.underlying93
 have HB := am (Below.refl w.heap.size w)
 have H : ((spec_l3Put.f k a0_0 a0_1 a0_2 a0_3 a0_4).bind fun t563 => (if 5 + t563.size ≤ 9223372036854775807 then ((spec_l1Sum.f k ((⟨#[108, 101, 97, 102, 32]⟩ : ByteArray) ++ t563)).bind fun t564 => (some (t564, a0_3, 1))) else (none))) = some (r1, r2, r3) := h
 clear h
 replace ⟨t563, A2, H⟩ := oa H
 replace ⟨c3, H⟩ := ip H
 have c3b0 := eq_true c3
 have c3b1 := dt c3
 have c3b2 := nf c3
 replace ⟨t564, A4, H⟩ := oa H
 simp only [Option.some.injEq, Prod.mk.injEq] at H
 obtain ⟨rfl, rfl, rfl⟩ := H
 go_enter Tryz.func73, Tryz.ntmps73
 try go_wp2_with ((with_reducible refine gg ?_); first | (refine bE 1 #[.string a0_0, .string a0_1, .int .i64 a0_2, .int .i64 a0_3, .int .i64 a0_4] 24 ?_; intro gb561 hg w5 hbox hb; have BK561 := am (hbox); have GW561 := zB hg HB; have GE561 := zB hg HB; replace HB := kH HB hb; clear hb hbox hg) | (refine store_event (t := 24) (p := 1) (v := ?vo_) (w1 := ?wo_) ?hg ?ho ?hn ?hr ?_; (case ho => rfl); (case hg => rfl); (case hn => rfl); (case hr => go_simp; rfl); intro wq_ hW_; have BQ_ := am hW_; have hzq_ := am hW_; replace hW_ := am hW_) | (refine bE 2 #[.string (⟨#[]⟩ : ByteArray), .int .i64 0, .int .i64 0] 93 ?_; (try (clear hzq_ BQ_; obtain ⟨hW_⟩ := hW_; subst hW_)); intro gb562 hg w6 hbox hb; have BK562 := am (hbox); have GW562 := zB hg HB; have GE562 := zB hg HB; replace HB := kH HB hb; have NB561_562 := nl hg (kb BK561); have NB562_561 := ng hg (kb BK561); replace BK561 := kP _ BK561 hb; clear hb hbox hg))
 replace BK561 := am (blk_drew BK561.out)
 replace BK562 := am (blk_drew BK562.out)
 replace HB := am (below_drew1 HB.out)
 (try (clear hzq_ BQ_; obtain ⟨hW_⟩ := hW_; subst hW_))
 refine start_ (n := 8) (S := cs5 gb561 (.string a0_0) (.string a0_1) (.int .i64 a0_2) (.int .i64 a0_3) (.int .i64 a0_4)) (ds := []) (bm 8 0) (by kernel_rfl) rfl rfl (bz5 BK561) (fun hHeld => ?_); refine with_tabW spec_l5Leaf.tab1 spec_l5Leaf.bits1 (fun HT_ HW_ => ?_)
 generalize w6.drew = w7 at BK561 BK562 HB hHeld ⊢
 refine pA 4 7 (bm 8 16) HT_ ?_
 refine tA 0 3 (bm 8 17) HT_ HW_ hHeld ?_
 refine tA 5 8 (bm 8 49) HT_ HW_ hHeld ?_
 refine oA 1 (some 4) (bm 8 51) HT_ fun K hK => ?_
 refine gA Tryz.func60 #[.agg #[.string a0_0, .string a0_1, .int .i64 a0_2, .int .i64 a0_3, .int .i64 a0_4]] ?_
 with_reducible refine (spec_l3Put.calls k a0_0 a0_1 a0_2 a0_3 a0_4 t563 _ A2.out).mono ?_
 rintro e w8 ⟨rfl, hb⟩
 refine ⟨_, rfl, ?_⟩
 replace BK561 := kP _ BK561 hb
 replace BK562 := kP _ BK562 hb
 replace HB := kH HB hb
 (try clear hb)
 (try clear hb2)
 (try clear hk)
 (try clear hi)
 refine hK.out _ _ (bz5 BK561) (fun hHeld => ?_)
 clear hK K
 refine nA (some 4) ?_
 refine pA 2 5 (bm 8 55) HT_ ?_
 refine oA 3 (some 6) (bm 8 63) HT_ fun K hK => ?_
 refine gA Tryz.func47 #[.string ((⟨#[108, 101, 97, 102, 32]⟩ : ByteArray) ++ t563)] ?_
 with_reducible refine (spec_l1Sum.calls k ((⟨#[108, 101, 97, 102, 32]⟩ : ByteArray) ++ t563) t564 _ A4.out).mono ?_
 rintro e w9 ⟨rfl, hb⟩
 refine ⟨_, rfl, ?_⟩
 replace BK561 := kP _ BK561 hb
 replace BK562 := kP _ BK562 hb
 replace HB := kH HB hb
 (try clear hb)
 (try clear hb2)
 (try clear hk)
 (try clear hi)
 refine hK.out _ _ (bz5 BK561) (fun hHeld => ?_)
 clear hK K
 refine nA (some 6) ?_
 refine pA 6 9 (bm 8 127) HT_ ?_
 refine oA 7 none (bm 8 255) HT_ fun K hK => ?_
 have hs10 : w9.cell? ⟨gb562, 0, none⟩ = some (.string (⟨#[]⟩ : ByteArray)) := (blk_cell BK562.out 0).trans rfl
 have hfs10 := blk_frozen BK562.out 0
 have hns10_0 := NB561_562.out
 have hms10_0 := NB562_561.out
 have hs11 : w9.cell? ⟨gb562, 1, none⟩ = some (.int .i64 0) := (blk_cell BK562.out 1).trans rfl
 have hfs11 := blk_frozen BK562.out 1
 have hns11_0 := NB561_562.out
 have hms11_0 := NB562_561.out
 have hs12 : w9.cell? ⟨gb562, 2, none⟩ = some (.int .i64 0) := (blk_cell BK562.out 2).trans rfl
 have hfs12 := blk_frozen BK562.out 2
 have hns12_0 := NB561_562.out
 have hms12_0 := NB562_561.out
 refine skip_ (w1 := ?_) (by rfl) rfl ?_ ?_
 rotate_left
 ·go_simp
  rfl
 refine hK.out _ _ ⟨(cf NB561_562.out hHeld.1), (cf NB561_562.out hHeld.2.1), (cf NB561_562.out hHeld.2.2.1), (cf NB561_562.out hHeld.2.2.2.1), (cf NB561_562.out hHeld.2.2.2.2)⟩ (fun hHeld => ?_)
 clear hK K
 refine done_ (done_of HT_.out (by kernel_rfl)) ?_
 try go_wp2
 (try (clear hzq_ BQ_; obtain ⟨hW_⟩ := hW_; subst hW_))
 refine bodyPost_ret (results_cell_row rfl _ _ gb562 93 #[.string t564, .int .i64 a0_3, .int .i64 1] (0, 0) _ rfl (fb BK562) Tryz.underlying93 rfl (by kernel_rfl)) rfl ?_
 exact ⟨xE, xB HB⟩

end Go.Proofs.YtgjljbaadglpnaaGreatDoor.PFnPaidGet
