/- Functions of the program and what each answers: the kit's print, shortened (wip/press2.py). -/
import Derived.Test.YtgjljbaadglpnaaGreatDoorPFnPaidGetx0
namespace Go.Proofs.YtgjljbaadglpnaaGreatDoor.PFnPaidGet
open Go.Proofs.YtgjljbaadglpnaaGreatDoor.Sq Go.RowKit Go.Proofs.YtgjljbaadglpnaaGreatDoorW.PrintWords Go.Proofs.YtgjljbaadglpnaaGreatDoorW.PrintLast Go.Proofs.YtgjljbaadglpnaaGreatDoorW.PrintMore
open Kd
set_option linter.unusedVariables false
set_option linter.unusedSimpArgs false
set_option maxHeartbeats 64000000
set_option maxRecDepth 100000
def spec_l1Dec.f : Nat → Int → Option (ByteArray)
 | 0, _ => none
 | k + 1, a0 => if a0 < (-9223372036854775807) then (some (⟨#[45, 57, 50, 50, 51, 51, 55, 50, 48, 51, 54, 56, 53, 52, 55, 55, 53, 56, 48, 56]⟩ : ByteArray)) else (if a0 < 0 then ((spec_l1Dec.f k (wrap64 (-a0))).bind fun t280 => (if 1 + t280.size ≤ 9223372036854775807 then (some ((⟨#[45]⟩ : ByteArray) ++ t280)) else (none))) else (if a0 < 10 then (some (strOfNums (([(wrap64 (48 + a0)) % 256] : List Int)))) else ((spec_l1Dec.f k (wrap64 (Int.tdiv a0 10))).bind fun t284 => ((some (([(wrap64 (48 + (Int.tmod a0 10))) % 256] : List Int) : List Int)).bind fun y285 => (if t284.size + (strOfNums y285).size ≤ 9223372036854775807 then (some (t284 ++ (strOfNums y285))) else (none))))))
def spec_l1Dec.T7 : Bool × List (List Nat × List Nat) := (true, [([], []), ([0], [0]), ([1], [1]), ([], []), ([3], [3]), ([4], [4]), ([5], [5]), ([6], [6]), ([7], [7]), ([2, 8], [2, 8]), ([9, 2, 0, 1, 2, 3, 4, 5, 6, 7, 8, 9], [9])])
def spec_l1Dec.B7 : List Nat := [0, 1, 3, 0, 8, 24, 56, 120, 248, 511, 1023]
theorem spec_l1Dec.tab7 : rtab .any (opsOf Tryz.f59 7) = spec_l1Dec.T7 := by kernel_rfl
theorem spec_l1Dec.bits7 : waitsOk spec_l1Dec.T7.2 spec_l1Dec.B7 = true := by kernel_rfl
theorem spec_l1Dec.calls (k : Nat) : ∀ (a0 : Int) (r : ByteArray) (w : World) (h : spec_l1Dec.f k a0 = some r),
  Calls Tryz.prog 59 #[.int .i64 a0] w fun e w' => e = .returned (.string r) ∧ Below w.heap.size w w' := by
 induction k using Nat.strongRecOn with
 | _ k ih =>
 intro a0 r w h
 cases k with
 | zero => exact absurd h (by simp [spec_l1Dec.f])
 | succ k =>
 simp only [spec_l1Dec.f] at h
 have HB := am (Below.refl w.heap.size w)
 have H : (if a0 < (-9223372036854775807) then (some (⟨#[45, 57, 50, 50, 51, 51, 55, 50, 48, 51, 54, 56, 53, 52, 55, 55, 53, 56, 48, 56]⟩ : ByteArray)) else (if a0 < 0 then ((spec_l1Dec.f k (wrap64 (-a0))).bind fun t280 => (if 1 + t280.size ≤ 9223372036854775807 then (some ((⟨#[45]⟩ : ByteArray) ++ t280)) else (none))) else (if a0 < 10 then (some (strOfNums (([(wrap64 (48 + a0)) % 256] : List Int)))) else ((spec_l1Dec.f k (wrap64 (Int.tdiv a0 10))).bind fun t284 => ((some (([(wrap64 (48 + (Int.tmod a0 10))) % 256] : List Int) : List Int)).bind fun y285 => (if t284.size + (strOfNums y285).size ≤ 9223372036854775807 then (some (t284 ++ (strOfNums y285))) else (none))))))) = some r := h
 clear h
 by_cases c2 : a0 < (-9223372036854775807)
 ·rw [if_pos c2] at H
  have c2b0 := dt c2
  clear c2
  obtain rfl := oI H
  go_enter Tryz.func59, Tryz.ntmps59
  go_wp2
  go_ret
  exact ⟨xE, bl HB⟩
 rw [if_neg c2] at H
 have c2b0 := df c2
 clear c2
 by_cases c3 : a0 < 0
 ·rw [if_pos c3] at H
  have c3b0 := dt c3
  clear c3
  replace ⟨t280, A4, H⟩ := oa H
  replace ⟨c5, H⟩ := ip H
  have c5b0 := eq_true c5
  have c5b1 := dt c5
  have c5b2 := nf c5
  obtain rfl := oI H
  go_enter Tryz.func59, Tryz.ntmps59
  go_wp2_with ((with_reducible refine gg ?_); refine gL 9 Tryz.func59 #[.int .i64 (wrap64 (-a0))] ?_; (with_reducible refine (ih k (by omega) (wrap64 (-a0)) t280 _ A4.out).mono ?_); rintro e w6 ⟨rfl, hb⟩; refine ⟨_, rfl, ?_⟩; replace HB := kH HB hb; (try clear hb))
  go_ret
  exact ⟨xE, bl HB⟩
 rw [if_neg c3] at H
 have c3b0 := df c3
 clear c3
 by_cases c7 : a0 < 10
 ·rw [if_pos c7] at H
  have c7b0 := dt c7
  clear c7
  obtain ⟨y281, Ny281⟩ := yA (([(wrap64 (48 + a0)) % 256] : List Int) : List Int)
  rw [← Ny281.out] at H
  obtain rfl := oI H
  go_enter Tryz.func59, Tryz.ntmps59
  go_wp2_with ((with_reducible refine gate_dst (N := 16) rfl ?_); refine R_lit (Kd.int .u8) _ 5 ?hg (N := 16) ?hd (xs := ([(wrap64 (48 + a0)) % 256] : List Int)) (inner := [.int .u8 ((wrap64 (48 + a0)) % 256)]) (ok := fun _ => True) (okp := fun _ => True) ?hr ?hp (fun _ hk => hk) trivial (Below.refl _ _) (Nat.le_refl _) (by simp) ?_; (case hd => rfl); (case hg => rfl); (case hr => first | (go_simp; done) | (go_simp; rfl)); (case hp => exact xP); intro v282 w8 ho9 hb hg_ hnew_; clear hg_ hnew_; (first | rw [← Ny281.out] at ho9 | (simp only [Int.reduceToNat] at ho9; rw [← Ny281.out] at ho9)); have HO283 := am (R_lower ho9 (below_size (bl HB))); replace HB := kH HB hb; clear hb ho9; have hcv10 := own_string (P := Tryz.prog) Tryz.underlying22 Tryz.underlying5 Tryz.underlying9 (own_of_R HO283.out))
  go_ret
  exact ⟨xE, bl HB⟩
 rw [if_neg c7] at H
 have c7b0 := df c7
 clear c7
 replace ⟨t284, A11, H⟩ := oa H
 obtain ⟨y285, Ny285⟩ := yA (([(wrap64 (48 + (Int.tmod a0 10))) % 256] : List Int) : List Int)
 rw [← Ny285.out] at H
 replace ⟨c12, H⟩ := ip H
 have c12b0 := eq_true c12
 have c12b1 := dt c12
 have c12b2 := nf c12
 obtain rfl := oI H
 go_enter Tryz.func59, Tryz.ntmps59
 try go_wp2
 replace HB := am (below_drew1 HB.out)
 refine start_ (n := 11) (S := fun w' => True) (ds := []) (bm 11 0) (by kernel_rfl) rfl rfl trivial (fun hHeld => ?_); refine with_tabW spec_l1Dec.tab7 spec_l1Dec.bits7 (fun HT_ HW_ => ?_)
 generalize w.drew = w13 at HB hHeld ⊢
 refine pA 0 18 (bm 11 1) HT_ ?_
 refine pA 1 19 (bm 11 3) HT_ ?_
 refine pA 3 21 (bm 11 11) HT_ ?_
 refine pA 4 22 (bm 11 27) HT_ ?_
 refine pA 5 23 (bm 11 59) HT_ ?_
 refine pA 6 24 (bm 11 123) HT_ ?_
 refine join_ (σ := Value) 2 (bm 11 511) (fun s_ => [(20, .string t284), (25, s_), (26, .string (strOfNums y285))]) (fun s_ w' => (Kd.R (Kd.int .u8) 5 w' w.heap.size (fun _ => True) s_ y285) ∧ (Below w.heap.size w w')) ?_ ?_
 rotate_left
 ·intro hCont
  refine two_ (i := 2) (j := 7) (Ni := some 20) (Nj := some 25) (bm 11 127) (bm 11 251) rfl rfl rfl rfl (two_of HT_.out (by kernel_rfl)) (by decide) (by decide) (fun K hK => ?_) (fun K hK => ?_)
  ·skip
   refine gA Tryz.func59 #[.int .i64 (wrap64 (Int.tdiv a0 10))] ?_
   with_reducible refine (ih k (by omega) (wrap64 (Int.tdiv a0 10)) t284 _ A11.out).mono ?_
   rintro e w14 ⟨rfl, hb⟩
   refine ⟨_, rfl, ?_⟩
   replace HB := kH HB hb
   (try clear hb)
   (try clear hb2)
   (try clear hk)
   (try clear hi)
   refine hK.out _ _ trivial (fun hHeld => ?_)
   clear hK K
   refine nA (some 20) ?_
   refine oA 7 (some 25) (bm 11 255) HT_ fun K hK => ?_
   refine R_lit_step (Kd.int .u8) _ 5 ?hg (N := 25) ?hd (xs := ([(wrap64 (48 + (Int.tmod a0 10))) % 256] : List Int)) (inner := [.int .u8 ((wrap64 (48 + (Int.tmod a0 10))) % 256)]) (ok := fun _ => True) (okp := fun _ => True) ?hr ?hp (fun _ hk => hk) trivial (Below.refl _ _) (Nat.le_refl _) (by simp) ?_; (case hd => rfl); (case hg => rfl); (case hr => first | (go_simp; done) | (go_simp; rfl)); (case hp => exact (Reps.one (show Kd.M (Kd.int .u8) _ _ _ ((wrap64 (48 + (Int.tmod a0 10))) % 256) [.int .u8 ((wrap64 (48 + (Int.tmod a0 10))) % 256)] from rfl) (Reps.none _ _)))
   intro v286 w15 ho16 hb hg_ hnew_
   clear hg_ hnew_
   (first | rw [← Ny285.out] at ho16 | (simp only [Int.reduceToNat] at ho16; rw [← Ny285.out] at ho16))
   have HO287 := am (R_lower ho16 (below_size (bl HB)))
   replace HB := kH HB hb
   clear hb ho16
   refine hK.out _ _ trivial (fun hHeld => ?_)
   clear hK K
   refine nA (some 25) ?_
   refine oA 8 (some 26) (bm 11 511) HT_ fun K hK => ?_
   have hcv17 := own_string (P := Tryz.prog) Tryz.underlying22 Tryz.underlying5 Tryz.underlying9 (own_of_R HO287.out)
   refine value_ (w1 := ?_) (v := ?_) (by rfl) rfl ?_ ?_
   rotate_left 2
   ·go_simp
    constructor
    ·rfl
    ·rfl
   clear hcv17
   refine hK.out _ _ trivial (fun hHeld => ?_)
   clear hK K
   refine nA (some 26) ?_
   exact norm_ (by simp only [putAll, Act.put, sa, s0, s1]) (hCont (v286) _ ⟨(ra HO287), (bl HB)⟩)
  ·skip
   refine R_lit_step (Kd.int .u8) _ 5 ?hg (N := 25) ?hd (xs := ([(wrap64 (48 + (Int.tmod a0 10))) % 256] : List Int)) (inner := [.int .u8 ((wrap64 (48 + (Int.tmod a0 10))) % 256)]) (ok := fun _ => True) (okp := fun _ => True) ?hr ?hp (fun _ hk => hk) trivial (Below.refl _ _) (Nat.le_refl _) (by simp) ?_; (case hd => rfl); (case hg => rfl); (case hr => first | (go_simp; done) | (go_simp; rfl)); (case hp => exact (Reps.one (show Kd.M (Kd.int .u8) _ _ _ ((wrap64 (48 + (Int.tmod a0 10))) % 256) [.int .u8 ((wrap64 (48 + (Int.tmod a0 10))) % 256)] from rfl) (Reps.none _ _)))
   intro v286 w14 ho15 hb hg_ hnew_
   clear hg_ hnew_
   (first | rw [← Ny285.out] at ho15 | (simp only [Int.reduceToNat] at ho15; rw [← Ny285.out] at ho15))
   have HO287 := am (R_lower ho15 (below_size (bl HB)))
   replace HB := kH HB hb
   clear hb ho15
   refine hK.out _ _ trivial (fun hHeld => ?_)
   clear hK K
   refine nA (some 25) ?_
   refine two_ (i := 2) (j := 8) (Ni := some 20) (Nj := some 26) (bm 11 255) (bm 11 507) rfl rfl rfl rfl (two_of HT_.out (by kernel_rfl)) (by decide) (by decide) (fun K hK => ?_) (fun K hK => ?_)
   ·skip
    refine gA Tryz.func59 #[.int .i64 (wrap64 (Int.tdiv a0 10))] ?_
    with_reducible refine (ih k (by omega) (wrap64 (Int.tdiv a0 10)) t284 _ A11.out).mono ?_
    rintro e w16 ⟨rfl, hb⟩
    refine ⟨_, rfl, ?_⟩
    replace HO287 := rk HO287 hb
    replace HB := kH HB hb
    (try clear hb)
    (try clear hb2)
    (try clear hk)
    (try clear hi)
    refine hK.out _ _ trivial (fun hHeld => ?_)
    clear hK K
    refine nA (some 20) ?_
    refine oA 8 (some 26) (bm 11 511) HT_ fun K hK => ?_
    have hcv17 := own_string (P := Tryz.prog) Tryz.underlying22 Tryz.underlying5 Tryz.underlying9 (own_of_R HO287.out)
    refine value_ (w1 := ?_) (v := ?_) (by rfl) rfl ?_ ?_
    rotate_left 2
    ·go_simp
     constructor
     ·rfl
     ·rfl
    clear hcv17
    refine hK.out _ _ trivial (fun hHeld => ?_)
    clear hK K
    refine nA (some 26) ?_
    exact norm_ (by simp only [putAll, Act.put, sa, s0, s1]) (hCont (v286) _ ⟨(ra HO287), (bl HB)⟩)
   ·skip
    have hcv16 := own_string (P := Tryz.prog) Tryz.underlying22 Tryz.underlying5 Tryz.underlying9 (own_of_R HO287.out)
    refine value_ (w1 := ?_) (v := ?_) (by rfl) rfl ?_ ?_
    rotate_left 2
    ·go_simp
     constructor
     ·rfl
     ·rfl
    clear hcv16
    refine hK.out _ _ trivial (fun hHeld => ?_)
    clear hK K
    refine nA (some 26) ?_
    refine oA 2 (some 20) (bm 11 511) HT_ fun K hK => ?_
    refine gA Tryz.func59 #[.int .i64 (wrap64 (Int.tdiv a0 10))] ?_
    with_reducible refine (ih k (by omega) (wrap64 (Int.tdiv a0 10)) t284 _ A11.out).mono ?_
    rintro e w17 ⟨rfl, hb⟩
    refine ⟨_, rfl, ?_⟩
    replace HO287 := rk HO287 hb
    replace HB := kH HB hb
    (try clear hb)
    (try clear hb2)
    (try clear hk)
    (try clear hi)
    refine hK.out _ _ trivial (fun hHeld => ?_)
    clear hK K
    refine nA (some 20) ?_
    exact norm_ (by simp only [putAll, Act.put, sa, s0, s1]) (hCont (v286) _ ⟨(ra HO287), (bl HB)⟩)
 rintro v286 w18 ⟨h0_, h1_⟩
 try dsimp only at h0_ h1_
 have n0_ := am h0_
 have n1_ := am h1_
 clear HB
 clear h0_ h1_
 have HO287 := n0_
 have HB := n1_
 clear n0_ n1_
 have hHeld := trivial
 refine norm_ (a' := ?_) ?_ ?_
 rotate_left
 ·simp only [putAll, Act.put, sa, s0, s1]
  rfl
 refine pA 9 27 (bm 11 1023) HT_ ?_
 refine pA 10 2 (bm 11 2047) HT_ ?_
 refine done_ (done_of HT_.out (by kernel_rfl)) ?_
 try go_wp2
 go_ret
 exact ⟨xE, bl HB⟩
def spec_l3Put.f (k : Nat) (a0_0 : ByteArray) (a0_1 : ByteArray) (a0_2 : Int) (a0_3 : Int) (a0_4 : Int) : Option (ByteArray) := if a0_0.size + 1 ≤ 9223372036854775807 then (if (a0_0 ++ (⟨#[32]⟩ : ByteArray)).size + a0_1.size ≤ 9223372036854775807 then (if ((a0_0 ++ (⟨#[32]⟩ : ByteArray)) ++ a0_1).size + 1 ≤ 9223372036854775807 then ((spec_l1Dec.f k a0_2).bind fun t289 => (if (((a0_0 ++ (⟨#[32]⟩ : ByteArray)) ++ a0_1) ++ (⟨#[32]⟩ : ByteArray)).size + t289.size ≤ 9223372036854775807 then (if ((((a0_0 ++ (⟨#[32]⟩ : ByteArray)) ++ a0_1) ++ (⟨#[32]⟩ : ByteArray)) ++ t289).size + 1 ≤ 9223372036854775807 then ((spec_l1Dec.f k a0_3).bind fun t290 => (if (((((a0_0 ++ (⟨#[32]⟩ : ByteArray)) ++ a0_1) ++ (⟨#[32]⟩ : ByteArray)) ++ t289) ++ (⟨#[32]⟩ : ByteArray)).size + t290.size ≤ 9223372036854775807 then (if ((((((a0_0 ++ (⟨#[32]⟩ : ByteArray)) ++ a0_1) ++ (⟨#[32]⟩ : ByteArray)) ++ t289) ++ (⟨#[32]⟩ : ByteArray)) ++ t290).size + 1 ≤ 9223372036854775807 then ((spec_l1Dec.f k a0_4).bind fun t291 => (if (((((((a0_0 ++ (⟨#[32]⟩ : ByteArray)) ++ a0_1) ++ (⟨#[32]⟩ : ByteArray)) ++ t289) ++ (⟨#[32]⟩ : ByteArray)) ++ t290) ++ (⟨#[32]⟩ : ByteArray)).size + t291.size ≤ 9223372036854775807 then (some ((((((((a0_0 ++ (⟨#[32]⟩ : ByteArray)) ++ a0_1) ++ (⟨#[32]⟩ : ByteArray)) ++ t289) ++ (⟨#[32]⟩ : ByteArray)) ++ t290) ++ (⟨#[32]⟩ : ByteArray)) ++ t291)) else (none))) else (none)) else (none))) else (none)) else (none))) else (none)) else (none)) else (none)
def spec_l3Put.T1 : Bool × List (List Nat × List Nat) := (true, [([], []), ([0], [0]), ([1], [1]), ([], []), ([3], [3]), ([2, 4], [2, 4]), ([5], [5]), ([], []), ([7], [7]), ([8], [8]), ([6, 9], [6, 9]), ([10], [10]), ([], []), ([12], [12]), ([13, 9], [13]), ([11, 14], [11, 14]), ([15], [15]), ([], []), ([17], [17]), ([18, 14], [18]), ([16, 19], [16, 19]), ([20, 19, 0, 1, 2, 3, 4, 5, 6, 7, 8, 9, 10, 11, 12, 13, 14, 15, 16, 17, 18, 19, 20], [20])])
def spec_l3Put.B1 : List Nat := [0, 1, 3, 0, 8, 31, 63, 0, 128, 384, 1023, 2047, 0, 4096, 13184, 32767, 65535, 0, 131072, 422784, 1048575, 2097151]
theorem spec_l3Put.tab1 : rtab .any (opsOf Tryz.f60 1) = spec_l3Put.T1 := by kernel_rfl
theorem spec_l3Put.bits1 : waitsOk spec_l3Put.T1.2 spec_l3Put.B1 = true := by kernel_rfl
theorem spec_l3Put.calls (k : Nat) (a0_0 : ByteArray) (a0_1 : ByteArray) (a0_2 : Int) (a0_3 : Int) (a0_4 : Int) (r : ByteArray) (w : World) (h : spec_l3Put.f k a0_0 a0_1 a0_2 a0_3 a0_4 = some r) :
  Calls Tryz.prog 60 #[.agg #[.string a0_0, .string a0_1, .int .i64 a0_2, .int .i64 a0_3, .int .i64 a0_4]] w fun e w' => e = .returned (.string r) ∧ Below w.heap.size w w' := by
 have hu24 := Tryz.underlying24
 have HB := am (Below.refl w.heap.size w)
 have H : (if a0_0.size + 1 ≤ 9223372036854775807 then (if (a0_0 ++ (⟨#[32]⟩ : ByteArray)).size + a0_1.size ≤ 9223372036854775807 then (if ((a0_0 ++ (⟨#[32]⟩ : ByteArray)) ++ a0_1).size + 1 ≤ 9223372036854775807 then ((spec_l1Dec.f k a0_2).bind fun t289 => (if (((a0_0 ++ (⟨#[32]⟩ : ByteArray)) ++ a0_1) ++ (⟨#[32]⟩ : ByteArray)).size + t289.size ≤ 9223372036854775807 then (if ((((a0_0 ++ (⟨#[32]⟩ : ByteArray)) ++ a0_1) ++ (⟨#[32]⟩ : ByteArray)) ++ t289).size + 1 ≤ 9223372036854775807 then ((spec_l1Dec.f k a0_3).bind fun t290 => (if (((((a0_0 ++ (⟨#[32]⟩ : ByteArray)) ++ a0_1) ++ (⟨#[32]⟩ : ByteArray)) ++ t289) ++ (⟨#[32]⟩ : ByteArray)).size + t290.size ≤ 9223372036854775807 then (if ((((((a0_0 ++ (⟨#[32]⟩ : ByteArray)) ++ a0_1) ++ (⟨#[32]⟩ : ByteArray)) ++ t289) ++ (⟨#[32]⟩ : ByteArray)) ++ t290).size + 1 ≤ 9223372036854775807 then ((spec_l1Dec.f k a0_4).bind fun t291 => (if (((((((a0_0 ++ (⟨#[32]⟩ : ByteArray)) ++ a0_1) ++ (⟨#[32]⟩ : ByteArray)) ++ t289) ++ (⟨#[32]⟩ : ByteArray)) ++ t290) ++ (⟨#[32]⟩ : ByteArray)).size + t291.size ≤ 9223372036854775807 then (some ((((((((a0_0 ++ (⟨#[32]⟩ : ByteArray)) ++ a0_1) ++ (⟨#[32]⟩ : ByteArray)) ++ t289) ++ (⟨#[32]⟩ : ByteArray)) ++ t290) ++ (⟨#[32]⟩ : ByteArray)) ++ t291)) else (none))) else (none)) else (none))) else (none)) else (none))) else (none)) else (none)) else (none)) = some r := h
 clear h
 replace ⟨c2, H⟩ := ip H
 have c2b0 := eq_true c2
 have c2b1 := dt c2
 have c2b2 := nf c2
 replace ⟨c3, H⟩ := ip H
 have c3b0 := eq_true c3
 have c3b1 := dt c3
 have c3b2 := nf c3
 try (have c3b3 := c3b2; simp only [ByteArray.size_append, show (⟨#[32]⟩ : ByteArray).size = 1 from rfl] at c3b3)
 replace ⟨c4, H⟩ := ip H
 have c4b0 := eq_true c4
 have c4b1 := dt c4
 have c4b2 := nf c4
 try (have c4b3 := c4b2; simp only [ByteArray.size_append, show (⟨#[32]⟩ : ByteArray).size = 1 from rfl] at c4b3)
 replace ⟨t289, A5, H⟩ := oa H
 replace ⟨c6, H⟩ := ip H
 have c6b0 := eq_true c6
 have c6b1 := dt c6
 have c6b2 := nf c6
 try (have c6b3 := c6b2; simp only [ByteArray.size_append, show (⟨#[32]⟩ : ByteArray).size = 1 from rfl] at c6b3)
 replace ⟨c7, H⟩ := ip H
 have c7b0 := eq_true c7
 have c7b1 := dt c7
 have c7b2 := nf c7
 try (have c7b3 := c7b2; simp only [ByteArray.size_append, show (⟨#[32]⟩ : ByteArray).size = 1 from rfl] at c7b3)
 replace ⟨t290, A8, H⟩ := oa H
 replace ⟨c9, H⟩ := ip H
 have c9b0 := eq_true c9
 have c9b1 := dt c9
 have c9b2 := nf c9
 try (have c9b3 := c9b2; simp only [ByteArray.size_append, show (⟨#[32]⟩ : ByteArray).size = 1 from rfl] at c9b3)
 replace ⟨c10, H⟩ := ip H
 have c10b0 := eq_true c10
 have c10b1 := dt c10
 have c10b2 := nf c10
 try (have c10b3 := c10b2; simp only [ByteArray.size_append, show (⟨#[32]⟩ : ByteArray).size = 1 from rfl] at c10b3)
 replace ⟨t291, A11, H⟩ := oa H
 replace ⟨c12, H⟩ := ip H
 have c12b0 := eq_true c12
 have c12b1 := dt c12
 have c12b2 := nf c12
 try (have c12b3 := c12b2; simp only [ByteArray.size_append, show (⟨#[32]⟩ : ByteArray).size = 1 from rfl] at c12b3)
 obtain rfl := oI H
 go_enter Tryz.func60, Tryz.ntmps60
 try go_wp2_with ((with_reducible refine gg ?_); first | (refine bE 1 #[.string a0_0, .string a0_1, .int .i64 a0_2, .int .i64 a0_3, .int .i64 a0_4] 24 ?_; intro gb288 hg w13 hbox hb; have BK288 := am (hbox); have GW288 := zB hg HB; have GE288 := zB hg HB; replace HB := kH HB hb; clear hb hbox hg) | (refine store_event (t := 24) (p := 1) (v := ?vo_) (w1 := ?wo_) ?hg ?ho ?hn ?hr ?_; (case ho => rfl); (case hg => rfl); (case hn => rfl); (case hr => go_simp; rfl); intro wq_ hW_; have BQ_ := am hW_; have hzq_ := am hW_; replace hW_ := am hW_))
 replace BK288 := am (blk_drew BK288.out)
 replace HB := am (below_drew1 HB.out)
 (try (clear hzq_ BQ_; obtain ⟨hW_⟩ := hW_; subst hW_))
 refine start_ (n := 22) (S := cs5 gb288 (.string a0_0) (.string a0_1) (.int .i64 a0_2) (.int .i64 a0_3) (.int .i64 a0_4)) (ds := []) (bm 22 0) (by kernel_rfl) rfl rfl (bz5 BK288) (fun hHeld => ?_); refine with_tabW spec_l3Put.tab1 spec_l3Put.bits1 (fun HT_ HW_ => ?_)
 generalize w13.drew = w14 at BK288 HB hHeld ⊢
 refine pA 0 3 (bm 22 1) HT_ ?_
 refine pA 3 6 (bm 22 9) HT_ ?_
 refine pA 7 10 (bm 22 137) HT_ ?_
 refine pA 12 15 (bm 22 4233) HT_ ?_
 refine pA 17 20 (bm 22 135305) HT_ ?_
 refine tA 1 4 (bm 22 135307) HT_ HW_ hHeld ?_
 refine pA 2 5 (bm 22 135311) HT_ ?_
 refine tA 4 7 (bm 22 135327) HT_ HW_ hHeld ?_
 refine pA 5 8 (bm 22 135359) HT_ ?_
 refine pA 6 9 (bm 22 135423) HT_ ?_
 refine tA 8 11 (bm 22 135679) HT_ HW_ hHeld ?_
 refine tA 13 16 (bm 22 143871) HT_ HW_ hHeld ?_
 refine tA 18 21 (bm 22 406015) HT_ HW_ hHeld ?_
 refine oA 9 (some 12) (bm 22 406527) HT_ fun K hK => ?_
 refine gA Tryz.func59 #[.int .i64 a0_2] ?_
 with_reducible refine (spec_l1Dec.calls k a0_2 t289 _ A5.out).mono ?_
 rintro e w15 ⟨rfl, hb⟩
 refine ⟨_, rfl, ?_⟩
 replace BK288 := kP _ BK288 hb
 replace HB := kH HB hb
 (try clear hb)
 (try clear hb2)
 (try clear hk)
 (try clear hi)
 refine hK.out _ _ (bz5 BK288) (fun hHeld => ?_)
 clear hK K
 refine nA (some 12) ?_
 refine pA 10 13 (bm 22 407551) HT_ ?_
 refine pA 11 14 (bm 22 409599) HT_ ?_
 refine oA 14 (some 17) (bm 22 425983) HT_ fun K hK => ?_
 refine gA Tryz.func59 #[.int .i64 a0_3] ?_
 with_reducible refine (spec_l1Dec.calls k a0_3 t290 _ A8.out).mono ?_
 rintro e w16 ⟨rfl, hb⟩
 refine ⟨_, rfl, ?_⟩
 replace BK288 := kP _ BK288 hb
 replace HB := kH HB hb
 (try clear hb)
 (try clear hb2)
 (try clear hk)
 (try clear hi)
 refine hK.out _ _ (bz5 BK288) (fun hHeld => ?_)
 clear hK K
 refine nA (some 17) ?_
 refine pA 15 18 (bm 22 458751) HT_ ?_
 refine pA 16 19 (bm 22 524287) HT_ ?_
 refine oA 19 (some 22) (bm 22 1048575) HT_ fun K hK => ?_
 refine gA Tryz.func59 #[.int .i64 a0_4] ?_
 with_reducible refine (spec_l1Dec.calls k a0_4 t291 _ A11.out).mono ?_
 rintro e w17 ⟨rfl, hb⟩
 refine ⟨_, rfl, ?_⟩
 replace BK288 := kP _ BK288 hb
 replace HB := kH HB hb
 (try clear hb)
 (try clear hb2)
 (try clear hk)
 (try clear hi)
 refine hK.out _ _ (bz5 BK288) (fun hHeld => ?_)
 clear hK K
 refine nA (some 22) ?_
 refine pA 20 23 (bm 22 2097151) HT_ ?_
 refine pA 21 2 (bm 22 4194303) HT_ ?_
 refine done_ (done_of HT_.out (by kernel_rfl)) ?_
 try go_wp2
 (try (clear hzq_ BQ_; obtain ⟨hW_⟩ := hW_; subst hW_))
 go_ret
 exact ⟨xE, xB HB⟩
open Kd
set_option linter.unusedVariables false
set_option linter.unusedSimpArgs false
set_option maxHeartbeats 64000000
set_option maxRecDepth 100000
def spec_l9Peaks.l0 : Nat → List S93 → ByteArray → Int → Option (ByteArray)
 | 0, _, _, _ => none
 | k + 1, x0, x3, x4 => if x4 < (x0.length : Int) then (if x3.size + 1 ≤ 9223372036854775807 then (if 0 ≤ x4 then (if (x3 ++ (⟨#[32]⟩ : ByteArray)).size + ((rd_T93 x0 x4).f0).size ≤ 9223372036854775807 then (if ((x3 ++ (⟨#[32]⟩ : ByteArray)) ++ ((rd_T93 x0 x4).f0)).size + 1 ≤ 9223372036854775807 then ((spec_l1Dec.f k ((rd_T93 x0 x4).f1)).bind fun t294 => (if (((x3 ++ (⟨#[32]⟩ : ByteArray)) ++ ((rd_T93 x0 x4).f0)) ++ (⟨#[58]⟩ : ByteArray)).size + t294.size ≤ 9223372036854775807 then (if ((((x3 ++ (⟨#[32]⟩ : ByteArray)) ++ ((rd_T93 x0 x4).f0)) ++ (⟨#[58]⟩ : ByteArray)) ++ t294).size + 1 ≤ 9223372036854775807 then ((spec_l1Dec.f k ((rd_T93 x0 x4).f2)).bind fun t296 => (if (((((x3 ++ (⟨#[32]⟩ : ByteArray)) ++ ((rd_T93 x0 x4).f0)) ++ (⟨#[58]⟩ : ByteArray)) ++ t294) ++ (⟨#[58]⟩ : ByteArray)).size + t296.size ≤ 9223372036854775807 then (spec_l9Peaks.l0 k x0 ((((((x3 ++ (⟨#[32]⟩ : ByteArray)) ++ ((rd_T93 x0 x4).f0)) ++ (⟨#[58]⟩ : ByteArray)) ++ t294) ++ (⟨#[58]⟩ : ByteArray)) ++ t296) (wrap64 (x4 + 1))) else (none))) else (none)) else (none))) else (none)) else (none)) else (none)) else (none)) else (some x3)
def spec_l9Peaks.f (k : Nat) (l0 : List S93) : Option (ByteArray) := spec_l9Peaks.l0 k l0 (⟨#[]⟩ : ByteArray) 0
def spec_l9Peaks.T5 : Bool × List (List Nat × List Nat) := (true, [([], []), ([0], [0]), ([], []), ([], []), ([2, 3], [2, 3]), ([4], [4]), ([5], [5]), ([1, 6], [1, 6]), ([7], [7]), ([], []), ([], []), ([9, 10], [9, 10]), ([11], [11]), ([12], [12]), ([13], [13]), ([8, 14], [8, 14]), ([15], [15]), ([], []), ([], []), ([17, 18], [17, 18]), ([19], [19]), ([20], [20]), ([21, 14], [21]), ([16, 22], [16, 22]), ([23, 22, 0, 1, 2, 3, 4, 5, 6, 7, 8, 9, 10, 11, 12, 13, 14, 15, 16, 17, 18, 19, 20, 21, 22, 23], [0, 23])])
def spec_l9Peaks.B5 : List Nat := [0, 1, 0, 0, 12, 28, 60, 127, 255, 0, 0, 1536, 3584, 7680, 15872, 32767, 65535, 0, 0, 393216, 917504, 1966080, 4095488, 8388607, 16777215]
theorem spec_l9Peaks.tab5 : rtab .any (opsOf Tryz.f61 5) = spec_l9Peaks.T5 := by kernel_rfl
theorem spec_l9Peaks.bits5 : waitsOk spec_l9Peaks.T5.2 spec_l9Peaks.B5 = true := by kernel_rfl
theorem spec_l9Peaks.calls (k : Nat) (A0 : Option Addr) (c0 : Nat) (l0 : List S93) (r : ByteArray) (w : World) (hr0 : Kd.C k93 w A0 l0.length l0) (hc0 : l0.length ≤ c0) (h : spec_l9Peaks.f k l0 = some r) :
  Calls Tryz.prog 61 #[.slice A0 l0.length c0] w fun e w' => e = .returned (.string r) ∧ Below w.heap.size w w' := by
 have HR0 := am hr0
 have HC0 := am hc0
 clear hr0 hc0
 have HB := am (Below.refl w.heap.size w)
 have H : (spec_l9Peaks.l0 k l0 (⟨#[]⟩ : ByteArray) 0) = some r := h
 clear h
 have H' := am H
 clear H
 go_enter Tryz.func61, Tryz.ntmps61
 go_wp2
 go_loopg [3, 4] k (fun kq v3 v4 w' => ∃ (x3_1 : ByteArray) (x4_1 : Int), v3 = .string x3_1 ∧ v4 = .int .i64 x4_1 ∧ Aside0 (spec_l9Peaks.l0 kq l0 x3_1 x4_1 = some r) ∧ Aside0 (kq ≤ k) ∧ Aside0 (Below w.heap.size w w'))
 case atStart => exact ⟨((⟨#[]⟩ : ByteArray)), (0), xR, xR, H', ⟨Nat.le_refl _⟩, ⟨bl HB⟩⟩
 case round =>
  clear H'
  obtain ⟨x3_1, x4_1, rfl, rfl, HA, HK1, HB⟩ := hrel
  cases gk with
  | zero => exact absurd HA.out (by simp [spec_l9Peaks.l0])
  | succ k1 =>
   have H := HA.out
   clear HA
   simp only [spec_l9Peaks.l0] at H
   by_cases c2 : x4_1 < (l0.length : Int)
   rotate_left
   ·rw [if_neg c2] at H
    have c2b0 := df c2
    clear c2
    obtain rfl := oI H
    go_wp2
    go_ret
    exact ⟨xE, bl HB⟩
   rw [if_pos c2] at H
   have c2b0 := dt c2
   clear c2
   replace ⟨c3, H⟩ := ip H
   have c3b0 := eq_true c3
   have c3b1 := dt c3
   have c3b2 := nf c3
   replace ⟨c4b0, H⟩ := ipd H
   replace ⟨c5, H⟩ := ip H
   have c5b0 := eq_true c5
   have c5b1 := dt c5
   have c5b2 := nf c5
   try (have c5b3 := c5b2; simp only [ByteArray.size_append, show (⟨#[32]⟩ : ByteArray).size = 1 from rfl] at c5b3)
   replace ⟨c6, H⟩ := ip H
   have c6b0 := eq_true c6
   have c6b1 := dt c6
   have c6b2 := nf c6
   try (have c6b3 := c6b2; simp only [ByteArray.size_append, show (⟨#[32]⟩ : ByteArray).size = 1 from rfl] at c6b3)
   replace ⟨t294, A7, H⟩ := oa H
   replace ⟨c8, H⟩ := ip H
   have c8b0 := eq_true c8
   have c8b1 := dt c8
   have c8b2 := nf c8
   try (have c8b3 := c8b2; simp only [ByteArray.size_append, show (⟨#[32]⟩ : ByteArray).size = 1 from rfl, show (⟨#[58]⟩ : ByteArray).size = 1 from rfl] at c8b3)
   replace ⟨c9, H⟩ := ip H
   have c9b0 := eq_true c9
   have c9b1 := dt c9
   have c9b2 := nf c9
   try (have c9b3 := c9b2; simp only [ByteArray.size_append, show (⟨#[32]⟩ : ByteArray).size = 1 from rfl, show (⟨#[58]⟩ : ByteArray).size = 1 from rfl] at c9b3)
   replace ⟨t296, A10, H⟩ := oa H
   replace ⟨c11, H⟩ := ip H
   have c11b0 := eq_true c11
   have c11b1 := dt c11
   have c11b2 := nf c11
   try (have c11b3 := c11b2; simp only [ByteArray.size_append, show (⟨#[32]⟩ : ByteArray).size = 1 from rfl, show (⟨#[58]⟩ : ByteArray).size = 1 from rfl] at c11b3)
   have H' := am H
   clear H
   try go_wp2
   replace HB := am (below_drew1 HB.out)
   have p292 : 0 ≤ (x4_1 : Int) := oX
   have q292 : x4_1 < (l0.length : Int) := oX
   obtain ⟨ad292, e292, hx292_0, hx292_1, hx292_2⟩ := at_T93 HR0.out x4_1 p292 q292
   have hw292_2 := hx292_2
   have hw292_1 := hx292_1
   have hw292_0 := hx292_0
   cases e292
   replace hx292_0 := hc HB hx292_0
   replace hx292_1 := hc HB hx292_1
   replace hx292_2 := hc HB hx292_2
   replace ⟨p292, q292⟩ := eT p292 q292
   have p293 : 0 ≤ (x4_1 : Int) := oX
   have q293 : x4_1 < (l0.length : Int) := oX
   obtain ⟨ad293, e293, hx293_0, hx293_1, hx293_2⟩ := at_T93 HR0.out x4_1 p293 q293
   have hw293_2 := hx293_2
   have hw293_1 := hx293_1
   have hw293_0 := hx293_0
   obtain rfl : ad292 = ad293 := (by injection e293)
   replace hx293_0 := hc HB hx293_0
   replace hx293_1 := hc HB hx293_1
   replace hx293_2 := hc HB hx293_2
   replace ⟨p293, q293⟩ := eT p293 q293
   have p295 : 0 ≤ (x4_1 : Int) := oX
   have q295 : x4_1 < (l0.length : Int) := oX
   obtain ⟨ad295, e295, hx295_0, hx295_1, hx295_2⟩ := at_T93 HR0.out x4_1 p295 q295
   have hw295_2 := hx295_2
   have hw295_1 := hx295_1
   have hw295_0 := hx295_0
   obtain rfl : ad292 = ad295 := (by injection e295)
   replace hx295_0 := hc HB hx295_0
   replace hx295_1 := hc HB hx295_1
   replace hx295_2 := hc HB hx295_2
   replace ⟨p295, q295⟩ := eT p295 q295
   refine start_ (n := 25) (S := fun w' => w'.cell? (ad292.add ((x4_1).toNat * 3)) = some (.string ((rd_T93 l0 x4_1).f0)) ∧ w'.cell? ⟨(ad292.add ((x4_1).toNat * 3)).block, (ad292.add ((x4_1).toNat * 3)).off + 1, none⟩ = some (.int .i64 ((rd_T93 l0 x4_1).f1)) ∧ w'.cell? ⟨(ad292.add ((x4_1).toNat * 3)).block, (ad292.add ((x4_1).toNat * 3)).off + 2, none⟩ = some (.int .i64 ((rd_T93 l0 x4_1).f2)) ∧ w'.cell? (ad292.add ((x4_1).toNat * 3)) = some (.string ((rd_T93 l0 x4_1).f0)) ∧ w'.cell? ⟨(ad292.add ((x4_1).toNat * 3)).block, (ad292.add ((x4_1).toNat * 3)).off + 1, none⟩ = some (.int .i64 ((rd_T93 l0 x4_1).f1)) ∧ w'.cell? ⟨(ad292.add ((x4_1).toNat * 3)).block, (ad292.add ((x4_1).toNat * 3)).off + 2, none⟩ = some (.int .i64 ((rd_T93 l0 x4_1).f2)) ∧ w'.cell? (ad292.add ((x4_1).toNat * 3)) = some (.string ((rd_T93 l0 x4_1).f0)) ∧ w'.cell? ⟨(ad292.add ((x4_1).toNat * 3)).block, (ad292.add ((x4_1).toNat * 3)).off + 1, none⟩ = some (.int .i64 ((rd_T93 l0 x4_1).f1)) ∧ w'.cell? ⟨(ad292.add ((x4_1).toNat * 3)).block, (ad292.add ((x4_1).toNat * 3)).off + 2, none⟩ = some (.int .i64 ((rd_T93 l0 x4_1).f2))) (ds := []) (bm 25 0) (by kernel_rfl) rfl rfl ⟨(hd HB hw292_0), (hd HB hw292_1), (hd HB hw292_2), (hd HB hw293_0), (hd HB hw293_1), (hd HB hw293_2), (hd HB hw295_0), (hd HB hw295_1), (hd HB hw295_2)⟩ (fun hHeld => ?_); refine with_tabW spec_l9Peaks.tab5 spec_l9Peaks.bits5 (fun HT_ HW_ => ?_)
   generalize wr.drew = w12 at HB hx292_0 hx292_1 hx292_2 hx293_0 hx293_1 hx293_2 hx295_0 hx295_1 hx295_2 hHeld ⊢
   refine pA 0 11 (bm 25 1) HT_ ?_
   refine pA 1 12 (bm 25 3) HT_ ?_
   refine pA 2 13 (bm 25 7) HT_ ?_
   refine pA 3 14 (bm 25 15) HT_ ?_
   refine pA 4 15 (bm 25 31) HT_ ?_
   refine pA 5 16 (bm 25 63) HT_ ?_
   refine pA 9 20 (bm 25 575) HT_ ?_
   refine pA 10 21 (bm 25 1599) HT_ ?_
   refine pA 11 22 (bm 25 3647) HT_ ?_
   refine pA 12 23 (bm 25 7743) HT_ ?_
   refine pA 17 28 (bm 25 138815) HT_ ?_
   refine pA 18 29 (bm 25 400959) HT_ ?_
   refine pA 19 30 (bm 25 925247) HT_ ?_
   refine pA 20 31 (bm 25 1973823) HT_ ?_
   refine tA 6 17 (bm 25 1973887) HT_ HW_ hHeld ?_
   refine pA 7 18 (bm 25 1974015) HT_ ?_
   refine pA 8 19 (bm 25 1974271) HT_ ?_
   refine tA 13 24 (bm 25 1982463) HT_ HW_ hHeld ?_
   refine tA 21 32 (bm 25 4079615) HT_ HW_ hHeld ?_
   refine oA 14 (some 25) (bm 25 4095999) HT_ fun K hK => ?_
   refine gA Tryz.func59 #[.int .i64 ((rd_T93 l0 x4_1).f1)] ?_
   with_reducible refine (spec_l1Dec.calls k1 ((rd_T93 l0 x4_1).f1) t294 _ A7.out).mono ?_
   rintro e w13 ⟨rfl, hb⟩
   refine ⟨_, rfl, ?_⟩
   replace HB := kH HB hb
   (try clear hb)
   (try clear hb2)
   (try clear hk)
   (try clear hi)
   refine hK.out _ _ ⟨(hd HB hw292_0), (hd HB hw292_1), (hd HB hw292_2), (hd HB hw293_0), (hd HB hw293_1), (hd HB hw293_2), (hd HB hw295_0), (hd HB hw295_1), (hd HB hw295_2)⟩ (fun hHeld => ?_)
   clear hK K
   refine nA (some 25) ?_
   refine pA 15 26 (bm 25 4128767) HT_ ?_
   refine pA 16 27 (bm 25 4194303) HT_ ?_
   refine oA 22 (some 33) (bm 25 8388607) HT_ fun K hK => ?_
   refine gA Tryz.func59 #[.int .i64 ((rd_T93 l0 x4_1).f2)] ?_
   with_reducible refine (spec_l1Dec.calls k1 ((rd_T93 l0 x4_1).f2) t296 _ A10.out).mono ?_
   rintro e w14 ⟨rfl, hb⟩
   refine ⟨_, rfl, ?_⟩
   replace HB := kH HB hb
   (try clear hb)
   (try clear hb2)
   (try clear hk)
   (try clear hi)
   refine hK.out _ _ ⟨(hd HB hw292_0), (hd HB hw292_1), (hd HB hw292_2), (hd HB hw293_0), (hd HB hw293_1), (hd HB hw293_2), (hd HB hw295_0), (hd HB hw295_1), (hd HB hw295_2)⟩ (fun hHeld => ?_)
   clear hK K
   refine nA (some 33) ?_
   refine pA 23 34 (bm 25 16777215) HT_ ?_
   refine pA 24 3 (bm 25 33554431) HT_ ?_
   refine done_ (done_of HT_.out (by kernel_rfl)) ?_
   try go_wp2
   go_roundg k1
   case measure => have := HK1.out; omega
   case rel => exact ⟨((((((x3_1 ++ (⟨#[32]⟩ : ByteArray)) ++ ((rd_T93 l0 x4_1).f0)) ++ (⟨#[58]⟩ : ByteArray)) ++ t294) ++ (⟨#[58]⟩ : ByteArray)) ++ t296), (wrap64 (x4_1 + 1)), xR, xR, H', ⟨xL HK1⟩, ⟨bl HB⟩⟩
def spec_l9Sides.l0 : Nat → List S48 → ByteArray → Int → Option (ByteArray)
 | 0, _, _, _ => none
 | k + 1, x0, x3, x4 => if x4 < (x0.length : Int) then (if 0 ≤ x4 then (if (rd_T48 x0 x4).f1 = true then (if x3.size + 1 ≤ 9223372036854775807 then (if (x3 ++ (⟨#[32]⟩ : ByteArray)).size + 1 ≤ 9223372036854775807 then (if ((x3 ++ (⟨#[32]⟩ : ByteArray)) ++ (⟨#[108]⟩ : ByteArray)).size + ((rd_T48 x0 x4).f0).size ≤ 9223372036854775807 then (spec_l9Sides.l0 k x0 (((x3 ++ (⟨#[32]⟩ : ByteArray)) ++ (⟨#[108]⟩ : ByteArray)) ++ ((rd_T48 x0 x4).f0)) (wrap64 (x4 + 1))) else (none)) else (none)) else (none)) else (if x3.size + 1 ≤ 9223372036854775807 then (if (x3 ++ (⟨#[32]⟩ : ByteArray)).size + 1 ≤ 9223372036854775807 then (if ((x3 ++ (⟨#[32]⟩ : ByteArray)) ++ (⟨#[114]⟩ : ByteArray)).size + ((rd_T48 x0 x4).f0).size ≤ 9223372036854775807 then (spec_l9Sides.l0 k x0 (((x3 ++ (⟨#[32]⟩ : ByteArray)) ++ (⟨#[114]⟩ : ByteArray)) ++ ((rd_T48 x0 x4).f0)) (wrap64 (x4 + 1))) else (none)) else (none)) else (none))) else (none)) else (some x3)
def spec_l9Sides.f (k : Nat) (l0 : List S48) : Option (ByteArray) := spec_l9Sides.l0 k l0 (⟨#[]⟩ : ByteArray) 0
theorem spec_l9Sides.calls (k : Nat) (A0 : Option Addr) (c0 : Nat) (l0 : List S48) (r : ByteArray) (w : World) (hr0 : Kd.C k48 w A0 l0.length l0) (hc0 : l0.length ≤ c0) (h : spec_l9Sides.f k l0 = some r) :
  Calls Tryz.prog 62 #[.slice A0 l0.length c0] w fun e w' => e = .returned (.string r) ∧ Drawn0 w w' := by
 have HR0 := am hr0
 have HC0 := am hc0
 clear hr0 hc0
 have H : (spec_l9Sides.l0 k l0 (⟨#[]⟩ : ByteArray) 0) = some r := h
 clear h
 have H' := am H
 clear H
 go_enter Tryz.func62, Tryz.ntmps62
 go_wp2
 go_loopg [3, 4] k (fun kq v3 v4 w' => ∃ (x3_1 : ByteArray) (x4_1 : Int), v3 = .string x3_1 ∧ v4 = .int .i64 x4_1 ∧ Aside0 (spec_l9Sides.l0 kq l0 x3_1 x4_1 = some r) ∧ Aside0 (kq ≤ k) ∧ Drawn0 w w')
 case atStart => exact ⟨((⟨#[]⟩ : ByteArray)), (0), xR, xR, H', ⟨Nat.le_refl _⟩, xW⟩
 case round =>
  clear H'
  obtain ⟨x3_1, x4_1, rfl, rfl, HA, HK1, ⟨m1, rfl⟩⟩ := hrel
  cases gk with
  | zero => exact absurd HA.out (by simp [spec_l9Sides.l0])
  | succ k1 =>
   have H := HA.out
   clear HA
   simp only [spec_l9Sides.l0] at H
   by_cases c2 : x4_1 < (l0.length : Int)
   rotate_left
   ·rw [if_neg c2] at H
    have c2b0 := df c2
    clear c2
    obtain rfl := oI H
    go_wp2
    go_ret
    exact ⟨xR, xW⟩
   rw [if_pos c2] at H
   have c2b0 := dt c2
   clear c2
   replace ⟨c3b0, H⟩ := ipd H
   obtain ⟨bq4, hbq4⟩ : ∃ b_ : Bool, b_ = ((rd_T48 l0 x4_1).f1) := ⟨_, rfl⟩
   replace H : (if bq4 = true then (if x3_1.size + 1 ≤ 9223372036854775807 then (if (x3_1 ++ (⟨#[32]⟩ : ByteArray)).size + 1 ≤ 9223372036854775807 then (if ((x3_1 ++ (⟨#[32]⟩ : ByteArray)) ++ (⟨#[108]⟩ : ByteArray)).size + ((rd_T48 l0 x4_1).f0).size ≤ 9223372036854775807 then (spec_l9Sides.l0 k1 l0 (((x3_1 ++ (⟨#[32]⟩ : ByteArray)) ++ (⟨#[108]⟩ : ByteArray)) ++ ((rd_T48 l0 x4_1).f0)) (wrap64 (x4_1 + 1))) else (none)) else (none)) else (none)) else (if x3_1.size + 1 ≤ 9223372036854775807 then (if (x3_1 ++ (⟨#[32]⟩ : ByteArray)).size + 1 ≤ 9223372036854775807 then (if ((x3_1 ++ (⟨#[32]⟩ : ByteArray)) ++ (⟨#[114]⟩ : ByteArray)).size + ((rd_T48 l0 x4_1).f0).size ≤ 9223372036854775807 then (spec_l9Sides.l0 k1 l0 (((x3_1 ++ (⟨#[32]⟩ : ByteArray)) ++ (⟨#[114]⟩ : ByteArray)) ++ ((rd_T48 l0 x4_1).f0)) (wrap64 (x4_1 + 1))) else (none)) else (none)) else (none))) = some r := by rw [← hbq4] at H; exact H
   have Nbq4 := am hbq4
   clear hbq4
   have p297 : 0 ≤ (x4_1 : Int) := oX
   have q297 : x4_1 < (l0.length : Int) := oX
   obtain ⟨ad297, e297, hx297_0, hx297_1⟩ := at_T48 HR0.out x4_1 p297 q297
   (try rw [← Nbq4.out] at hx297_1)
   cases e297
   replace ⟨p297, q297⟩ := eT p297 q297
   by_cases c5 : bq4 = true
   ·subst c5
    rw [if_pos rfl] at H
    replace ⟨c6, H⟩ := ip H
    have c6b0 := eq_true c6
    have c6b1 := dt c6
    have c6b2 := nf c6
    replace ⟨c7, H⟩ := ip H
    have c7b0 := eq_true c7
    have c7b1 := dt c7
    have c7b2 := nf c7
    try (have c7b3 := c7b2; simp only [ByteArray.size_append, show (⟨#[32]⟩ : ByteArray).size = 1 from rfl] at c7b3)
    replace ⟨c8, H⟩ := ip H
    have c8b0 := eq_true c8
    have c8b1 := dt c8
    have c8b2 := nf c8
    try (have c8b3 := c8b2; simp only [ByteArray.size_append, show (⟨#[108]⟩ : ByteArray).size = 1 from rfl, show (⟨#[32]⟩ : ByteArray).size = 1 from rfl] at c8b3)
    have H' := am H
    clear H
    have p298 : 0 ≤ (x4_1 : Int) := oX
    have q298 : x4_1 < (l0.length : Int) := oX
    obtain ⟨ad298, e298, hx298_0, hx298_1⟩ := at_T48 HR0.out x4_1 p298 q298
    (try rw [← Nbq4.out] at hx298_1)
    obtain rfl : ad297 = ad298 := (by injection e298)
    replace ⟨p298, q298⟩ := eT p298 q298
    go_wp2
    go_roundg k1
    case measure => have := HK1.out; omega
    case rel => exact ⟨(((x3_1 ++ (⟨#[32]⟩ : ByteArray)) ++ (⟨#[108]⟩ : ByteArray)) ++ ((rd_T48 l0 x4_1).f0)), (wrap64 (x4_1 + 1)), xR, xR, H', ⟨xL HK1⟩, xW⟩
   replace c5 := bF c5
   subst c5
   rw [if_neg nF] at H
   replace ⟨c9, H⟩ := ip H
   have c9b0 := eq_true c9
   have c9b1 := dt c9
   have c9b2 := nf c9
   replace ⟨c10, H⟩ := ip H
   have c10b0 := eq_true c10
   have c10b1 := dt c10
   have c10b2 := nf c10
   try (have c10b3 := c10b2; simp only [ByteArray.size_append, show (⟨#[32]⟩ : ByteArray).size = 1 from rfl] at c10b3)
   replace ⟨c11, H⟩ := ip H
   have c11b0 := eq_true c11
   have c11b1 := dt c11
   have c11b2 := nf c11
   try (have c11b3 := c11b2; simp only [ByteArray.size_append, show (⟨#[114]⟩ : ByteArray).size = 1 from rfl, show (⟨#[32]⟩ : ByteArray).size = 1 from rfl] at c11b3)
   have H' := am H
   clear H
   have p299 : 0 ≤ (x4_1 : Int) := oX
   have q299 : x4_1 < (l0.length : Int) := oX
   obtain ⟨ad299, e299, hx299_0, hx299_1⟩ := at_T48 HR0.out x4_1 p299 q299
   (try rw [← Nbq4.out] at hx299_1)
   obtain rfl : ad297 = ad299 := (by injection e299)
   replace ⟨p299, q299⟩ := eT p299 q299
   go_wp2
   go_roundg k1
   case measure => have := HK1.out; omega
   case rel => exact ⟨(((x3_1 ++ (⟨#[32]⟩ : ByteArray)) ++ (⟨#[114]⟩ : ByteArray)) ++ ((rd_T48 l0 x4_1).f0)), (wrap64 (x4_1 + 1)), xR, xR, H', ⟨xL HK1⟩, xW⟩

end Go.Proofs.YtgjljbaadglpnaaGreatDoor.PFnPaidGet
