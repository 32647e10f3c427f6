/- Functions of the program and what each answers: the kit's print, shortened (wip/press2.py). -/
import Derived.Test.YtgjljbaadglpnaaGreatDoorPFnPaidGetx0
import Derived.Test.YtgjljbaadglpnaaGreatDoorPFnPaidGetx16
import Derived.Test.YtgjljbaadglpnaaGreatDoorPFnPaidGetx21
namespace Go.Proofs.YtgjljbaadglpnaaGreatDoor.PFnPaidGet
open Go.Proofs.YtgjljbaadglpnaaGreatDoor.Sq Go.RowKit Go.Proofs.YtgjljbaadglpnaaGreatDoorW.PrintWords Go.Proofs.YtgjljbaadglpnaaGreatDoorW.PrintLast Go.Proofs.YtgjljbaadglpnaaGreatDoorW.PrintMore
open Kd
set_option linter.unusedVariables false
set_option linter.unusedSimpArgs false
set_option maxHeartbeats 64000000
set_option maxRecDepth 100000
def spec_l3Up.l0 : Nat → List ByteArray → List ByteArray → Int → Option (List ByteArray)
 | 0, _, _, _ => none
 | k + 1, x0, x3, x4 => if x4 < (x0.length : Int) then (if (wrap64 (x4 + 1)) < (x0.length : Int) then (if 0 ≤ x4 then (if 5 + (rdOf ByteArray.empty x0 x4).size ≤ 9223372036854775807 then (if ((⟨#[98, 111, 116, 104, 32]⟩ : ByteArray) ++ (rdOf ByteArray.empty x0 x4)).size + 1 ≤ 9223372036854775807 then (if 0 ≤ (wrap64 (x4 + 1)) then (if (((⟨#[98, 111, 116, 104, 32]⟩ : ByteArray) ++ (rdOf ByteArray.empty x0 x4)) ++ (⟨#[32]⟩ : ByteArray)).size + (rdOf ByteArray.empty x0 (wrap64 (x4 + 1))).size ≤ 9223372036854775807 then ((spec_l1Sum.f k ((((⟨#[98, 111, 116, 104, 32]⟩ : ByteArray) ++ (rdOf ByteArray.empty x0 x4)) ++ (⟨#[32]⟩ : ByteArray)) ++ (rdOf ByteArray.empty x0 (wrap64 (x4 + 1))))).bind fun t424 => (if x3.length < 8796093022208 then (spec_l3Up.l0 k x0 (x3 ++ [t424]) (wrap64 (x4 + 2))) else (none))) else (none)) else (none)) else (none)) else (none)) else (none)) else (if 0 ≤ x4 then (if x3.length < 8796093022208 then (spec_l3Up.l0 k x0 (x3 ++ [rdOf ByteArray.empty x0 x4]) (wrap64 (x4 + 2))) else (none)) else (none))) else (some x3)
def spec_l3Up.f (k : Nat) (l0 : List ByteArray) : Option (List ByteArray) := spec_l3Up.l0 k l0 (([] : List ByteArray)) 0
def spec_l3Up.T6 : Bool × List (List Nat × List Nat) := (true, [([], []), ([], []), ([], []), ([1, 2], [1, 2]), ([3], [3]), ([4], [4]), ([5], [5]), ([], []), ([], []), ([8], [8]), ([7, 9], [7, 9]), ([10], [10]), ([6, 11], [6, 11]), ([12], [12]), ([13], [13]), ([0, 14, 13], [0, 14]), ([15, 15, 0, 1, 2, 3, 4, 5, 6, 7, 8, 9, 10, 11, 12, 13, 14, 15], [0, 15])])
def spec_l3Up.B6 : List Nat := [0, 0, 0, 6, 14, 30, 62, 0, 0, 256, 896, 1920, 4094, 8190, 16382, 32767, 65535]
theorem spec_l3Up.tab6 : rtab .any (opsOf Tryz.f94 6) = spec_l3Up.T6 := by kernel_rfl
theorem spec_l3Up.bits6 : waitsOk spec_l3Up.T6.2 spec_l3Up.B6 = true := by kernel_rfl
theorem spec_l3Up.calls (k : Nat) (A0 : Option Addr) (c0 : Nat) (l0 : List ByteArray) (r : List ByteArray) (w : World) (hr0 : Kd.C Kd.string w A0 l0.length l0) (hc0 : l0.length ≤ c0) (h : spec_l3Up.f k l0 = some r) :
  Calls Tryz.prog 94 #[.slice A0 l0.length c0] w fun e w' => ∃ v0_ : Value, e = .returned (v0_) ∧ Kd.R Kd.string 9 w' w.heap.size (fun _ => True) v0_ r ∧ Below w.heap.size w w' := by
 have HR0 := am hr0
 have HC0 := am hc0
 clear hr0 hc0
 have HB := am (Below.refl w.heap.size w)
 have H : (spec_l3Up.l0 k l0 (([] : List ByteArray)) 0) = some r := h
 clear h
 obtain ⟨y419, Ny419⟩ := yA (([] : List ByteArray) : List ByteArray)
 rw [← Ny419.out] at H
 have H' := am H
 clear H
 go_enter Tryz.func94, Tryz.ntmps94
 go_wp2_with ((with_reducible refine gate_dst (N := 5) rfl ?_); refine R_lit Kd.string _ 9 ?hg (N := 5) ?hd (xs := ([] : List ByteArray)) (inner := []) (ok := fun _ => True) (okp := fun _ => True) ?hr ?hp (fun _ hk => hk) trivial (Below.refl _ _) (Nat.le_refl _) (by simp) ?_; (case hd => rfl); (case hg => rfl); (case hr => first | (go_simp; done) | (go_simp; rfl)); (case hp => exact xP); intro v420 w2 ho3 hb hg_ hnew_; clear hg_ hnew_; (first | rw [← Ny419.out] at ho3 | (simp only [Int.reduceToNat] at ho3; rw [← Ny419.out] at ho3)); have HO421 := am (R_lower ho3 (below_size (bl HB))); replace HB := kH HB hb; clear hb ho3)
 go_loopg [3, 4] k (fun kq v3 v4 w' => ∃ (x3_1 : List ByteArray) (x4_1 : Int), v4 = .int .i64 x4_1 ∧ Aside0 (spec_l3Up.l0 kq l0 x3_1 x4_1 = some r) ∧ Aside0 (kq ≤ k) ∧ Aside0 (Kd.R Kd.string 9 w' w.heap.size (fun _ => True) v3 x3_1) ∧ Aside0 (Below w.heap.size w w'))
 case atStart => exact ⟨(y419), (0), xR, H', ⟨Nat.le_refl _⟩, ⟨ra HO421⟩, ⟨bl HB⟩⟩
 case round =>
  clear H'
  try clear p2
  obtain ⟨x3_1, x4_1, rfl, HA, HK1, HO_3, HB⟩ := hrel
  cases gk with
  | zero => exact absurd HA.out (by simp [spec_l3Up.l0])
  | succ k1 =>
   have H := HA.out
   clear HA
   simp only [spec_l3Up.l0] at H
   by_cases c4 : x4_1 < (l0.length : Int)
   rotate_left
   ·rw [if_neg c4] at H
    have c4b0 := df c4
    clear c4
    obtain rfl := oI H
    go_wp2
    go_ret
    exact ⟨_, xE, ra HO_3, bl HB⟩
   rw [if_pos c4] at H
   have c4b0 := dt c4
   clear c4
   by_cases c5 : (wrap64 (x4_1 + 1)) < (l0.length : Int)
   rotate_left
   ·rw [if_neg c5] at H
    have c5b0 := df c5
    clear c5
    replace ⟨c17b0, H⟩ := ipd H
    replace ⟨LMc18, H⟩ := ipa H
    obtain ⟨y429, Ny429⟩ := yA (x3_1 ++ [rdOf ByteArray.empty l0 x4_1] : List ByteArray)
    rw [← Ny429.out] at H
    have H' := am H
    clear H
    have p428 : 0 ≤ (x4_1 : Int) := oX
    have q428 : x4_1 < (l0.length : Int) := oX
    obtain ⟨ad428, e428, hx428_0⟩ := at_string (hC HB HR0.out) x4_1 p428 q428
    cases e428
    replace ⟨p428, q428⟩ := eT p428 q428
    go_wp2_with ((with_reducible refine gate_builtin (b := .append) (xs := #[.tmp 33, .tmp 38]) rfl ?_); at_builtin; refine R_append Kd.string (w0 := w) w.heap.size rfl (.tmp 33) (.tmp 38) 53 9 (.string ⟨#[]⟩) 16 rfl Tryz.underlying53 info9 rfl (by decide) (by omega) u3 x3_1 (rdOf ByteArray.empty l0 x4_1) [.string (rdOf ByteArray.empty l0 x4_1)] (fun _ => True) (fun _ => False) rfl rfl ?aP (fun _ hk => hk.elim) ?aF ?aO ?aB ?aS ?aL ?_; (case aP => exact rfl); (case aB => exact (bl HB)); (case aF => exact (fun _ _ => trivial)); (case aO => exact (ra HO_3)); (case aS => exact (below_size (bl HB))); (case aL => have := LMc18.out; omega); intro v430 w19 ho hb hg hat; rw [← Ny429.out] at ho; have n0_ := am (hb); have n1_ := am (ho); clear HB; clear HO_3; have HB := n0_; have HO431 := n1_; clear n0_ n1_; clear ho hb hg hat)
    go_roundg k1
    case measure => have := HK1.out; omega
    case rel => exact ⟨(y429), (wrap64 (x4_1 + 2)), xR, H', ⟨xL HK1⟩, ⟨ra HO431⟩, ⟨bl HB⟩⟩
   rw [if_pos c5] at H
   have c5b0 := dt c5
   clear c5
   replace ⟨c6b0, H⟩ := ipd H
   replace ⟨c7, H⟩ := ip H
   have c7b0 := eq_true c7
   have c7b1 := dt c7
   have c7b2 := nf c7
   replace ⟨c8, H⟩ := ip H
   have c8b0 := eq_true c8
   have c8b1 := dt c8
   have c8b2 := nf c8
   try (have c8b3 := c8b2; simp only [ByteArray.size_append, show (⟨#[98, 111, 116, 104, 32]⟩ : ByteArray).size = 5 from rfl] at c8b3)
   obtain ⟨ji9, hji9⟩ := je (wrap64 (x4_1 + 1))
   first | rw [hji9] at H | simp only [hji9] at H
   (try rw [hji9] at c5b0)
   have hji9w : (IntKind.i64.wrap (x4_1 + 1)) = ji9 := (i64_w _).trans hji9
   replace ⟨c10b0, H⟩ := ipd H
   replace ⟨c11, H⟩ := ip H
   have c11b0 := eq_true c11
   have c11b1 := dt c11
   have c11b2 := nf c11
   try (have c11b3 := c11b2; simp only [ByteArray.size_append, show (⟨#[32]⟩ : ByteArray).size = 1 from rfl, show (⟨#[98, 111, 116, 104, 32]⟩ : ByteArray).size = 5 from rfl] at c11b3)
   replace ⟨t424, A12, H⟩ := oa H
   replace ⟨LMc13, H⟩ := ipa H
   obtain ⟨y425, Ny425⟩ := yA (x3_1 ++ [t424] : List ByteArray)
   rw [← Ny425.out] at H
   have H' := am H
   clear H
   try go_wp2
   replace HO_3 := am (R_drew HO_3.out)
   replace HB := am (below_drew1 HB.out)
   have p422 : 0 ≤ (x4_1 : Int) := oX
   have q422 : x4_1 < (l0.length : Int) := oX
   obtain ⟨ad422, e422, hx422_0⟩ := at_string HR0.out x4_1 p422 q422
   have hw422_0 := hx422_0
   cases e422
   replace hx422_0 := hc HB hx422_0
   replace ⟨p422, q422⟩ := eT p422 q422
   have p423 : 0 ≤ ((ji9) : Int) := oX
   have q423 : (ji9) < (l0.length : Int) := oX
   obtain ⟨ad423, e423, hx423_0⟩ := at_string HR0.out (ji9) p423 q423
   have hw423_0 := hx423_0
   obtain rfl : ad422 = ad423 := (by injection e423)
   replace hx423_0 := hc HB hx423_0
   replace ⟨p423, q423⟩ := eT p423 q423
   refine start_ (n := 17) (S := fun w' => w'.cell? (ad422.add (x4_1).toNat) = some (.string (rdOf ByteArray.empty l0 x4_1)) ∧ w'.cell? (ad422.add ((ji9)).toNat) = some (.string (rdOf ByteArray.empty l0 (ji9)))) (ds := []) (bm 17 0) (by kernel_rfl) rfl rfl ⟨(hd HB hw422_0), (hd HB hw423_0)⟩ (fun hHeld => ?_); refine with_tabW spec_l3Up.tab6 spec_l3Up.bits6 (fun HT_ HW_ => ?_)
   generalize wr.drew = w14 at HO_3 HB hx422_0 hx423_0 hHeld ⊢
   refine pA 0 17 (bm 17 1) HT_ ?_
   refine pA 1 18 (bm 17 3) HT_ ?_
   refine pA 2 19 (bm 17 7) HT_ ?_
   refine pA 3 20 (bm 17 15) HT_ ?_
   refine pA 7 24 (bm 17 143) HT_ ?_
   refine pA 8 25 (bm 17 399) HT_ ?_
   refine pA 9 26 (bm 17 911) HT_ ?_
   refine pA 10 27 (bm 17 1935) HT_ ?_
   refine tA 4 21 (bm 17 1951) HT_ HW_ hHeld ?_
   refine pA 5 22 (bm 17 1983) HT_ ?_
   refine pA 6 23 (bm 17 2047) HT_ ?_
   refine tA 11 28 (bm 17 4095) HT_ HW_ hHeld ?_
   refine pA 12 29 (bm 17 8191) HT_ ?_
   refine oA 13 (some 30) (bm 17 16383) HT_ fun K hK => ?_
   refine goes_ Tryz.func47 (by kernel_rfl) rfl #[.string ((((⟨#[98, 111, 116, 104, 32]⟩ : ByteArray) ++ (rdOf ByteArray.empty l0 x4_1)) ++ (⟨#[32]⟩ : ByteArray)) ++ (rdOf ByteArray.empty l0 (ji9)))] (by rfl) rfl rfl (by (try simp only [List.map_toArray, List.map_cons, List.map_nil]); first | done | (simp only [hji9]; rfl) | rfl | (simp only [List.length_drop, List.length_take]; rfl)) ?_
   with_reducible refine (spec_l1Sum.calls k1 ((((⟨#[98, 111, 116, 104, 32]⟩ : ByteArray) ++ (rdOf ByteArray.empty l0 x4_1)) ++ (⟨#[32]⟩ : ByteArray)) ++ (rdOf ByteArray.empty l0 (ji9))) t424 _ A12.out).mono ?_
   rintro e w15 ⟨rfl, hb⟩
   refine ⟨_, rfl, ?_⟩
   replace HO_3 := rk HO_3 hb
   replace HB := kH HB hb
   (try clear hb)
   (try clear hb2)
   (try clear hk)
   (try clear hi)
   refine hK.out _ _ ⟨(hd HB hw422_0), (hd HB hw423_0)⟩ (fun hHeld => ?_)
   clear hK K
   refine nA (some 30) ?_
   refine oA 14 (some 31) (bm 17 32767) HT_ fun K hK => ?_
   refine value_ (w1 := ?_) (v := ?_) (by rfl) rfl ?_ ?_
   rotate_left 2
   ·go_simp
    constructor
    ·rfl
    ·rfl
   refine hK.out _ _ ⟨ca (hd HB hw422_0), ca (hd HB hw423_0)⟩ (fun hHeld => ?_)
   clear hK K
   refine nA (some 31) ?_
   refine oA 15 (some 32) (bm 17 65535) HT_ fun K hK => ?_
   refine R_append_step Kd.string (w0 := w) w.heap.size (by rfl) (.tmp 17) (.tmp 31) 53 9 (.string ⟨#[]⟩) 16 rfl Tryz.underlying53 info9 rfl (by decide) (by omega) u3 x3_1 t424 [.string t424] (fun _ => True) (fun _ => False) rfl rfl ?aP (fun _ hk => hk.elim) ?aF ?aO ?aB ?aS ?aL ?_
   (case aP => exact rfl)
   (case aB => exact (bl HB))
   (case aF => exact (fun _ _ => trivial))
   (case aO => exact (ra HO_3))
   (case aS => exact (below_size (bl HB)))
   (case aL => have := LMc13.out; omega)
   intro v426 w16 ho hb hg hat
   rw [← Ny425.out] at ho
   have n0_ := am (hb)
   have n1_ := am (ho)
   clear HB
   clear HO_3
   have HB := n0_
   have HO427 := n1_
   clear n0_ n1_
   clear ho hb hg hat
   refine hK.out _ _ ⟨(hd HB hw422_0), (hd HB hw423_0)⟩ (fun hHeld => ?_)
   clear hK K
   refine nA (some 32) ?_
   refine pA 16 3 (bm 17 131071) HT_ ?_
   refine done_ (done_of HT_.out (by kernel_rfl)) ?_
   try go_wp2
   go_roundg k1
   case measure => have := HK1.out; omega
   case rel => exact ⟨(y425), (wrap64 (x4_1 + 2)), xR, H', ⟨xL HK1⟩, ⟨ra HO427⟩, ⟨bl HB⟩⟩
def spec_l3Root.l0 : Nat → List ByteArray → Option (ByteArray)
 | 0, _ => none
 | k + 1, x3 => if (x3.length : Int) > 1 then ((spec_l3Up.f k x3).bind fun t436 => (spec_l3Root.l0 k t436)) else (if 0 < (x3.length : Int) then (some (rdOf ByteArray.empty x3 0)) else (none))
def spec_l3Root.f (k : Nat) (l0 : List ByteArray) : Option (ByteArray) := (spec_l3Row.f k l0).bind fun t432 => (if (t432.length : Int) = 0 then ((spec_l1Sum.f k (⟨#[]⟩ : ByteArray)).bind fun t435 => (some t435)) else (spec_l3Root.l0 k t432))
theorem spec_l3Root.calls (k : Nat) (A0 : Option Addr) (c0 : Nat) (l0 : List ByteArray) (r : ByteArray) (w : World) (hr0 : Kd.C Kd.string w A0 l0.length l0) (hc0 : l0.length ≤ c0) (h : spec_l3Root.f k l0 = some r) :
  Calls Tryz.prog 85 #[.slice A0 l0.length c0] w fun e w' => e = .returned (.string r) ∧ Below w.heap.size w w' := by
 have HR0 := am hr0
 have HC0 := am hc0
 clear hr0 hc0
 have HB := am (Below.refl w.heap.size w)
 have H : ((spec_l3Row.f k l0).bind fun t432 => (if (t432.length : Int) = 0 then ((spec_l1Sum.f k (⟨#[]⟩ : ByteArray)).bind fun t435 => (some t435)) else (spec_l3Root.l0 k t432))) = some r := h
 clear h
 replace ⟨t432, A2, H⟩ := oa H
 go_enter Tryz.func85, Tryz.ntmps85
 go_upto_if 8 with ((with_reducible refine gg ?_); refine gL 5 Tryz.func93 #[.slice A0 l0.length c0] ?_; (with_reducible refine (spec_l3Row.calls k _ _ l0 t432 _ ?side1 ?side2 A2.out).mono ?_); (case side1 => exact cr HR0.out); (case side2 => exact HC0.out); rintro e w5 ⟨v433, rfl, ho0, hb⟩; refine ⟨_, rfl, ?_⟩; have HO434 := am (R_lower ho0 (below_size (bl HB))); replace HB := kH HB hb; (try clear hb); (try clear ho0); obtain ⟨Ao6, co6, rfl⟩ := R_slice HO434.out)
 by_cases c3 : (t432.length : Int) = 0
 ·rw [if_pos c3] at H
  have c3b0 := beq_iff_eq.mpr c3
  have c3b1 := bne_eq_false_iff_eq.mpr c3
  try simp only [c3b0, c3b1, Bool.not_true, Bool.not_false]
  clear c3
  replace ⟨t435, A4, H⟩ := oa H
  obtain rfl := oI H
  go_wp2_with ((with_reducible refine gg ?_); refine gL 9 Tryz.func47 #[.string (⟨#[]⟩ : ByteArray)] ?_; (with_reducible refine (spec_l1Sum.calls k (⟨#[]⟩ : ByteArray) t435 _ A4.out).mono ?_); rintro e w7 ⟨rfl, hb⟩; refine ⟨_, rfl, ?_⟩; replace HO434 := rk HO434 hb; replace HB := kH HB hb; (try clear hb))
  go_ret
  exact ⟨xE, bl HB⟩
 rw [if_neg c3] at H
 have c3b0 := beq_eq_false_iff_ne.mpr c3
 have c3b1 := bne_iff_ne.mpr c3
 have c3b2 : ¬ (t432 = []) := fun h_ => c3 (by rw [h_]; rfl)
 try simp only [c3b0, c3b1, c3b2, Bool.not_true, Bool.not_false]
 have H' := am H
 clear H
 go_wp2
 go_loopg [3] k (fun kq v3 w' => ∃ (x3_1 : List ByteArray), Aside0 (spec_l3Root.l0 kq x3_1 = some r) ∧ Aside0 (kq ≤ k) ∧ Aside0 (Kd.R Kd.string 9 w' w.heap.size (fun _ => True) v3 x3_1) ∧ Aside0 (Below w.heap.size w w'))
 case atStart => exact ⟨(t432), H', ⟨Nat.le_refl _⟩, ⟨ra HO434⟩, ⟨bl HB⟩⟩
 case round =>
  clear H'
  try clear c3 c3b0 c3b1 c3b2
  obtain ⟨x3_1, HA, HK1, HO_3, HB⟩ := hrel
  cases gk with
  | zero => exact absurd HA.out (by simp [spec_l3Root.l0])
  | succ k1 =>
   have H := HA.out
   clear HA
   simp only [spec_l3Root.l0] at H
   by_cases c10 : (x3_1.length : Int) > 1
   rotate_left
   ·rw [if_neg c10] at H
    have c10b0 := df c10
    have c10b1 : decide (1 < x3_1.length) = false := decide_eq_false (by omega)
    clear c10
    replace ⟨c14, H⟩ := ip H
    have c14b0 := dt c14
    have c14b1 : decide (0 < x3_1.length) = true := dt (by omega)
    clear c14
    obtain rfl := oI H
    obtain ⟨Ao15, co15, rfl⟩ := R_slice HO_3.out
    have p439 : 0 ≤ (0 : Int) := (by omega)
    have q439 : 0 < (x3_1.length : Int) := oX
    obtain ⟨ad439, e439, hx439_0⟩ := at_string (R_reads' HO_3.out).2.2 0 p439 q439
    cases e439
    have qi439 : (0 < x3_1.length) = True := eq_true (by omega)
    (try rw [show ((0 : Int)).toNat = 0 from rfl] at hx439_0)
    (try rw [Addr.add_zero'] at hx439_0)
    replace ⟨p439, q439⟩ := eT p439 q439
    go_wp2
    go_ret
    exact ⟨xE, bl HB⟩
   rw [if_pos c10] at H
   have c10b0 := dt c10
   have c10b1 : decide (1 < x3_1.length) = true := dt (by omega)
   clear c10
   replace ⟨t436, A11, H⟩ := oa H
   have H' := am H
   clear H
   obtain ⟨Ao12, co12, rfl⟩ := R_slice HO_3.out
   go_wp2_with ((with_reducible refine gg ?_); refine gL 14 Tryz.func94 #[.slice Ao12 x3_1.length co12] ?_; (with_reducible refine (spec_l3Up.calls k1 _ _ x3_1 t436 _ ?side1 ?side2 A11.out).mono ?_); (case side1 => exact cr (R_reads' HO_3.out).2.2); (case side2 => exact sl HO_3); rintro e w13 ⟨v437, rfl, ho0, hb⟩; refine ⟨_, rfl, ?_⟩; have HO438 := am (R_lower (R_new' ho0 (R_lt (ra HO_3))) (below_size (bl HB))); replace HO_3 := am (R_elder' (ra HO_3) (R_base ho0) hb); replace HB := kH HB hb; (try clear hb); (try clear ho0))
   go_roundg k1
   case measure => have := HK1.out; omega
   case rel => exact ⟨(t436), H', ⟨xL HK1⟩, ⟨rM HO438 (fun _ hk => trivial)⟩, ⟨bl HB⟩⟩
def spec_l4Diff.j0 : Nat → Int → Int → Bool → Option (Int)
 | 0, _, _, _ => none
 | k + 1, x4, x5, x38 => if x38 = true then (some (wrap64 (x4 + 1))) else (if x5 > 60 then (if x4 > 1 then (some (wrap64 (x4 - 1))) else (some x4)) else (some x4))
def spec_l4Diff.f (k : Nat) (l0 : List S24) : Option (Int) := if (l0.length : Int) = 0 then (some 1) else (if 0 ≤ (wrap64 ((l0.length : Int) - 1)) then (if (wrap64 ((l0.length : Int) - 1)) < (l0.length : Int) then (if ((l0.length : Int) % 4) = 0 then (if 0 ≤ (wrap64 ((l0.length : Int) - 4)) then (if (wrap64 ((l0.length : Int) - 4)) < (l0.length : Int) then (if (wrap64 (((rd_T24 l0 (wrap64 ((l0.length : Int) - 1))).f2) - ((rd_T24 l0 (wrap64 ((l0.length : Int) - 4))).f2))) < 20 then (spec_l4Diff.j0 k ((rd_T24 l0 (wrap64 ((l0.length : Int) - 1))).f3) (wrap64 (((rd_T24 l0 (wrap64 ((l0.length : Int) - 1))).f2) - ((rd_T24 l0 (wrap64 ((l0.length : Int) - 4))).f2))) (decide (((rd_T24 l0 (wrap64 ((l0.length : Int) - 1))).f3) < 8))) else (spec_l4Diff.j0 k ((rd_T24 l0 (wrap64 ((l0.length : Int) - 1))).f3) (wrap64 (((rd_T24 l0 (wrap64 ((l0.length : Int) - 1))).f2) - ((rd_T24 l0 (wrap64 ((l0.length : Int) - 4))).f2))) false)) else (none)) else (none)) else (some ((rd_T24 l0 (wrap64 ((l0.length : Int) - 1))).f3))) else (none)) else (none))
theorem spec_l4Diff.calls (k : Nat) (A0 : Option Addr) (c0 : Nat) (l0 : List S24) (r : Int) (w : World) (hr0 : Kd.C k24 w A0 l0.length l0) (hc0 : l0.length ≤ c0) (h : spec_l4Diff.f k l0 = some r) :
  Calls Tryz.prog 86 #[.slice A0 l0.length c0] w fun e w' => e = .returned (.int .i64 r) ∧ Drawn0 w w' := by
 have HR0 := am hr0
 have HC0 := am hc0
 clear hr0 hc0
 have H : (if (l0.length : Int) = 0 then (some 1) else (if 0 ≤ (wrap64 ((l0.length : Int) - 1)) then (if (wrap64 ((l0.length : Int) - 1)) < (l0.length : Int) then (if ((l0.length : Int) % 4) = 0 then (if 0 ≤ (wrap64 ((l0.length : Int) - 4)) then (if (wrap64 ((l0.length : Int) - 4)) < (l0.length : Int) then (if (wrap64 (((rd_T24 l0 (wrap64 ((l0.length : Int) - 1))).f2) - ((rd_T24 l0 (wrap64 ((l0.length : Int) - 4))).f2))) < 20 then (spec_l4Diff.j0 k ((rd_T24 l0 (wrap64 ((l0.length : Int) - 1))).f3) (wrap64 (((rd_T24 l0 (wrap64 ((l0.length : Int) - 1))).f2) - ((rd_T24 l0 (wrap64 ((l0.length : Int) - 4))).f2))) (decide (((rd_T24 l0 (wrap64 ((l0.length : Int) - 1))).f3) < 8))) else (spec_l4Diff.j0 k ((rd_T24 l0 (wrap64 ((l0.length : Int) - 1))).f3) (wrap64 (((rd_T24 l0 (wrap64 ((l0.length : Int) - 1))).f2) - ((rd_T24 l0 (wrap64 ((l0.length : Int) - 4))).f2))) false)) else (none)) else (none)) else (some ((rd_T24 l0 (wrap64 ((l0.length : Int) - 1))).f3))) else (none)) else (none))) = some r := h
 clear h
 by_cases c2 : (l0.length : Int) = 0
 ·rw [if_pos c2] at H
  have c2b0 := beq_iff_eq.mpr c2
  have c2b1 := bne_eq_false_iff_eq.mpr c2
  clear c2
  obtain rfl := oI H
  go_enter Tryz.func86, Tryz.ntmps86
  go_wp2
  repeat (go_quiet (fail); try go_wp2)
  go_ret
  exact ⟨xR, xW⟩
 rw [if_neg c2] at H
 have c2b0 := beq_eq_false_iff_ne.mpr c2
 have c2b1 := bne_iff_ne.mpr c2
 have c2b2 : ¬ (l0 = []) := fun h_ => c2 (by rw [h_]; rfl)
 obtain ⟨ji3, hji3⟩ := je (wrap64 ((l0.length : Int) - 1))
 first | rw [hji3] at H | simp only [hji3] at H
 have hji3w : (IntKind.i64.wrap ((l0.length : Int) - 1)) = ji3 := (i64_w _).trans hji3
 replace ⟨c4b0, H⟩ := ipd H
 replace ⟨c5b0, H⟩ := ipd H
 by_cases c6 : ((l0.length : Int) % 4) = 0
 rotate_left
 ·rw [if_neg c6] at H
  have c6b0 := beq_eq_false_iff_ne.mpr c6
  have c6b1 := bne_iff_ne.mpr c6
  obtain rfl := oI H
  have p440 : 0 ≤ ((ji3) : Int) := oX
  have q440 : (ji3) < (l0.length : Int) := oX
  obtain ⟨ad440, e440, hx440_0, hx440_1, hx440_2, hx440_3, hx440_4⟩ := at_T24 HR0.out (ji3) p440 q440
  cases e440
  replace ⟨p440, q440⟩ := eT p440 q440
  go_enter Tryz.func86, Tryz.ntmps86
  go_wp2
  repeat (go_quiet (fail); try go_wp2)
  go_ret
  exact ⟨by first | rfl | (simp; done) | (simp only [← hji3] <;> (first | rfl | simp)) | (simp [*]; done), xW⟩
 rw [if_pos c6] at H
 have c6b0 := beq_iff_eq.mpr c6
 have c6b1 := bne_eq_false_iff_eq.mpr c6
 clear c6
 obtain ⟨ji7, hji7⟩ := je (wrap64 ((l0.length : Int) - 4))
 first | rw [hji7] at H | simp only [hji7] at H
 have hji7w : (IntKind.i64.wrap ((l0.length : Int) - 4)) = ji7 := (i64_w _).trans hji7
 replace ⟨c8b0, H⟩ := ipd H
 replace ⟨c9b0, H⟩ := ipd H
 have HC10 := am H
 clear H
 have p440 : 0 ≤ ((ji3) : Int) := oX
 have q440 : (ji3) < (l0.length : Int) := oX
 obtain ⟨ad440, e440, hx440_0, hx440_1, hx440_2, hx440_3, hx440_4⟩ := at_T24 HR0.out (ji3) p440 q440
 cases e440
 replace ⟨p440, q440⟩ := eT p440 q440
 have p441 : 0 ≤ ((ji3) : Int) := oX
 have q441 : (ji3) < (l0.length : Int) := oX
 obtain ⟨ad441, e441, hx441_0, hx441_1, hx441_2, hx441_3, hx441_4⟩ := at_T24 HR0.out (ji3) p441 q441
 obtain rfl : ad440 = ad441 := (by injection e441)
 replace ⟨p441, q441⟩ := eT p441 q441
 have p442 : 0 ≤ ((ji7) : Int) := oX
 have q442 : (ji7) < (l0.length : Int) := oX
 obtain ⟨ad442, e442, hx442_0, hx442_1, hx442_2, hx442_3, hx442_4⟩ := at_T24 HR0.out (ji7) p442 q442
 obtain rfl : ad440 = ad442 := (by injection e442)
 replace ⟨p442, q442⟩ := eT p442 q442
 go_enter Tryz.func86, Tryz.ntmps86
 go_upto_region 8 with (fail)
 repeat (go_quiet (fail); go_upto_region 8 with (fail))
 go_cut [38] (fun v38 wc => ∃ (kq : Nat) (x38_9 : Bool), v38 = .bool x38_9 ∧ Aside0 (spec_l4Diff.j0 kq ((rd_T24 l0 (ji3)).f3) (wrap64 (((rd_T24 l0 (ji3)).f2) - ((rd_T24 l0 (ji7)).f2))) x38_9 = some r) ∧ Aside0 (kq ≤ k) ∧ Drawn0 w wc)
 case first =>
  have H := HC10.out
  clear HC10
  by_cases c11 : (wrap64 (((rd_T24 l0 (ji3)).f2) - ((rd_T24 l0 (ji7)).f2))) < 20
  rotate_left
  ·rw [if_neg c11] at H
   have c11b0 := df c11
   clear c11
   (first | rw [c11b0] | rw [c11b1] | (simp only [i64_w, i32_w]; rw [c11b0]) | skip)
   have H' := am H
   clear H
   go_wp2
   repeat (go_quiet (fail); try go_wp2)
   go_meet
   case rel => exact ⟨_, (false), xR, H', ⟨xO⟩, xW⟩
  rw [if_pos c11] at H
  have c11b0 := dt c11
  clear c11
  (first | rw [c11b0] | rw [c11b1] | (simp only [i64_w, i32_w]; rw [c11b0]) | skip)
  have H' := am H
  clear H
  go_wp2
  repeat (go_quiet (fail); try go_wp2)
  go_meet
  case rel => exact ⟨_, (decide (((rd_T24 l0 (ji3)).f3) < 8)), (by first | rfl | (simp; done) | (simp only [← hji3] <;> (first | rfl | simp)) | (simp [*]; done)), H', ⟨xO⟩, xW⟩
 case rest =>
  clear HC10
  try clear c2 c2b0 c2b1 c2b2 c4b0 c5b0 c6 c6b0 c6b1 c8b0 c9b0 hx440_0 hx440_1 hx440_2 hx440_3 hx440_4 hx441_0 hx441_1 hx441_2 hx441_3 hx441_4 hx442_0 hx442_1 hx442_2 hx442_3 hx442_4 p440 p441 p442 q440 q441 q442
  obtain ⟨kq, x38_9, rfl, HA, HJ9, ⟨mc9, rfl⟩⟩ := hcut
  cases kq with
  | zero => exact absurd HA.out (by simp [spec_l4Diff.j0])
  | succ kj9 =>
   have H := HA.out
   clear HA
   simp only [spec_l4Diff.j0] at H
   by_cases c12 : x38_9 = true
   ·subst c12
    rw [if_pos rfl] at H
    obtain rfl := oI H
    go_wp2
    repeat (go_quiet (fail); try go_wp2)
    go_ret
    exact ⟨by first | rfl | (simp; done) | (simp only [← hji3, ← hji7] <;> (first | rfl | simp)) | (simp [*]; done), xW⟩
   replace c12 := bF c12
   subst c12
   rw [if_neg nF] at H
   by_cases c13 : (wrap64 (((rd_T24 l0 (ji3)).f2) - ((rd_T24 l0 (ji7)).f2))) > 60
   rotate_left
   ·rw [if_neg c13] at H
    have c13b0 := df c13
    clear c13
    obtain rfl := oI H
    go_wp2
    repeat (go_quiet (fail); try go_wp2)
    go_ret
    exact ⟨by first | rfl | (simp; done) | (simp only [← hji3, ← hji7] <;> (first | rfl | simp)) | (simp [*]; done), xW⟩
   rw [if_pos c13] at H
   have c13b0 := dt c13
   clear c13
   by_cases c14 : ((rd_T24 l0 (ji3)).f3) > 1
   ·rw [if_pos c14] at H
    have c14b0 := dt c14
    clear c14
    obtain rfl := oI H
    go_wp2
    repeat (go_quiet (fail); try go_wp2)
    go_ret
    exact ⟨by first | rfl | (simp; done) | (simp only [← hji3, ← hji7] <;> (first | rfl | simp)) | (simp [*]; done), xW⟩
   rw [if_neg c14] at H
   have c14b0 := df c14
   clear c14
   obtain rfl := oI H
   go_wp2
   repeat (go_quiet (fail); try go_wp2)
   go_ret
   exact ⟨by first | rfl | (simp; done) | (simp only [← hji3, ← hji7] <;> (first | rfl | simp)) | (simp [*]; done), xW⟩
def spec_l3Sum.f (k : Nat) (a0_0 : ByteArray) (a0_1 : ByteArray) (a0_2 : Int) (a0_3 : Int) (a0_4 : Int) : Option (ByteArray) := (spec_l3Put.f k a0_0 a0_1 a0_2 a0_3 a0_4).bind fun t444 => (if 5 + t444.size ≤ 9223372036854775807 then ((spec_l1Sum.f k ((⟨#[104, 101, 97, 100, 32]⟩ : ByteArray) ++ t444)).bind fun t445 => (some t445)) else (none))
theorem spec_l3Sum.calls (k : Nat) (a0_0 : ByteArray) (a0_1 : ByteArray) (a0_2 : Int) (a0_3 : Int) (a0_4 : Int) (r : ByteArray) (w : World) (h : spec_l3Sum.f k a0_0 a0_1 a0_2 a0_3 a0_4 = some r) :
  Calls Tryz.prog 87 #[.agg #[.string a0_0, .string a0_1, .int .i64 a0_2, .int .i64 a0_3, .int .i64 a0_4]] w fun e w' => e = .returned (.string r) ∧ Below w.heap.size w w' := by
 have hu24 := Tryz.underlying24
 have HB := am (Below.refl w.heap.size w)
 have H : ((spec_l3Put.f k a0_0 a0_1 a0_2 a0_3 a0_4).bind fun t444 => (if 5 + t444.size ≤ 9223372036854775807 then ((spec_l1Sum.f k ((⟨#[104, 101, 97, 100, 32]⟩ : ByteArray) ++ t444)).bind fun t445 => (some t445)) else (none))) = some r := h
 clear h
 replace ⟨t444, A2, H⟩ := oa H
 replace ⟨c3, H⟩ := ip H
 have c3b0 := eq_true c3
 have c3b1 := dt c3
 have c3b2 := nf c3
 replace ⟨t445, A4, H⟩ := oa H
 obtain rfl := oI H
 go_enter Tryz.func87, Tryz.ntmps87
 go_wp2_with ((with_reducible refine gg ?_); first | (refine bE 1 #[.string a0_0, .string a0_1, .int .i64 a0_2, .int .i64 a0_3, .int .i64 a0_4] 24 ?_; intro gb443 hg w5 hbox hb; have BK443 := am (hbox); have GW443 := zB hg HB; have GE443 := zB hg HB; replace HB := kH HB hb; clear hb hbox hg; have hz6 := bc5 BK443) | (refine gL 4 Tryz.func60 #[.agg #[.string a0_0, .string a0_1, .int .i64 a0_2, .int .i64 a0_3, .int .i64 a0_4]] ?_; (with_reducible refine (spec_l3Put.calls k a0_0 a0_1 a0_2 a0_3 a0_4 t444 _ A2.out).mono ?_); rintro e w7 ⟨rfl, hb⟩; refine ⟨_, rfl, ?_⟩; replace BK443 := kP _ BK443 hb; replace HB := kH HB hb; (try clear hb)) | (refine gL 6 Tryz.func47 #[.string ((⟨#[104, 101, 97, 100, 32]⟩ : ByteArray) ++ t444)] ?_; (with_reducible refine (spec_l1Sum.calls k ((⟨#[104, 101, 97, 100, 32]⟩ : ByteArray) ++ t444) t445 _ A4.out).mono ?_); rintro e w8 ⟨rfl, hb⟩; refine ⟨_, rfl, ?_⟩; replace BK443 := kP _ BK443 hb; replace HB := kH HB hb; (try clear hb)))
 go_ret
 exact ⟨xE, xB HB⟩
open Kd
set_option linter.unusedVariables false
set_option linter.unusedSimpArgs false
set_option maxHeartbeats 64000000
set_option maxRecDepth 100000
def spec_l1Head.l0 : Nat → ByteArray → Int → Int → Option (Int)
 | 0, _, _, _ => none
 | k + 1, x0, x3, x4 => if x4 < 8 then (if 0 ≤ x4 then (if x4 < (x0.size : Int) then (if (bt x0 x4) ≥ 97 then (spec_l1Head.l0 k x0 (wrap64 ((wrap64 (x3 * 16)) + ((((bt x0 x4) - 97) % 256) + 10))) (wrap64 (x4 + 1))) else (spec_l1Head.l0 k x0 (wrap64 ((wrap64 (x3 * 16)) + (((bt x0 x4) - 48) % 256))) (wrap64 (x4 + 1)))) else (none)) else (none)) else (some (wrap64 (Int.tdiv x3 2)))
def spec_l1Head.f (k : Nat) (a0 : ByteArray) : Option (Int) := spec_l1Head.l0 k a0 0 0
theorem spec_l1Head.calls (k : Nat) (a0 : ByteArray) (r : Int) (w : World) (h : spec_l1Head.f k a0 = some r) :
  Calls Tryz.prog 120 #[.string a0] w fun e w' => e = .returned (.int .i64 r) ∧ Drawn0 w w' := by
 have H : (spec_l1Head.l0 k a0 0 0) = some r := h
 clear h
 have H' := am H
 clear H
 go_enter Tryz.func120, Tryz.ntmps120
 go_wp2
 go_loopg [3, 4] k (fun kq v3 v4 w' => ∃ (x3_1 : Int) (x4_1 : Int), v3 = .int .i64 x3_1 ∧ v4 = .int .i64 x4_1 ∧ Aside0 (spec_l1Head.l0 kq a0 x3_1 x4_1 = some r) ∧ Aside0 (kq ≤ k) ∧ Drawn0 w w')
 case atStart => exact ⟨(0), (0), xR, xR, H', ⟨Nat.le_refl _⟩, xW⟩
 case round =>
  clear H'
  try clear c1
  obtain ⟨x3_1, x4_1, rfl, rfl, HA, HK1, ⟨m1, rfl⟩⟩ := hrel
  cases gk with
  | zero => exact absurd HA.out (by simp [spec_l1Head.l0])
  | succ k1 =>
   have H := HA.out
   clear HA
   simp only [spec_l1Head.l0] at H
   by_cases c2 : x4_1 < 8
   rotate_left
   ·rw [if_neg c2] at H
    have c2b0 := df c2
    clear c2
    obtain rfl := oI H
    go_wp2
    go_ret
    exact ⟨xR, xW⟩
   rw [if_pos c2] at H
   have c2b0 := dt c2
   clear c2
   replace ⟨c3b0, H⟩ := ipd H
   replace ⟨c4b0, H⟩ := ipd H
   have p5 : 0 ≤ (x4_1 : Int) := oX
   have q5 : x4_1 < (a0.size : Int) := oX
   have hx5 := bt_at a0 x4_1
   replace ⟨p5, q5⟩ := eT p5 q5
   have p6 : 0 ≤ (x4_1 : Int) := oX
   have q6 : x4_1 < (a0.size : Int) := oX
   have hx6 := bt_at a0 x4_1
   replace ⟨p6, q6⟩ := eT p6 q6
   by_cases c7 : (bt a0 x4_1) ≥ 97
   rotate_left
   ·rw [if_neg c7] at H
    have c7b0 := df c7
    clear c7
    have H' := am H
    clear H
    go_wp2
    go_roundg k1
    case measure => have := HK1.out; omega
    case rel => exact ⟨(wrap64 ((wrap64 (x3_1 * 16)) + (((bt a0 x4_1) - 48) % 256))), (wrap64 (x4_1 + 1)), xR, xR, H', ⟨xL HK1⟩, xW⟩
   rw [if_pos c7] at H
   have c7b0 := dt c7
   clear c7
   have H' := am H
   clear H
   have p8 : 0 ≤ (x4_1 : Int) := oX
   have q8 : x4_1 < (a0.size : Int) := oX
   have hx8 := bt_at a0 x4_1
   replace ⟨p8, q8⟩ := eT p8 q8
   go_wp2
   go_roundg k1
   case measure => have := HK1.out; omega
   case rel => exact ⟨(wrap64 ((wrap64 (x3_1 * 16)) + ((((bt a0 x4_1) - 97) % 256) + 10))), (wrap64 (x4_1 + 1)), xR, xR, H', ⟨xL HK1⟩, xW⟩
def spec_l3Meets.f (k : Nat) (a0_0 : ByteArray) (a0_1 : ByteArray) (a0_2 : Int) (a0_3 : Int) (a0_4 : Int) : Option (Bool) := (spec_l3Sum.f k a0_0 a0_1 a0_2 a0_3 a0_4).bind fun t447 => ((spec_l1Head.f k t447).bind fun t448 => (some (decide ((wrap64 ((wrap64 (Int.tdiv t448 65536)) * a0_3)) < 32768))))
def spec_l3Meets.T1 : Bool × List (List Nat × List Nat) := (true, [([], []), ([0], [0]), ([1, 1], [1]), ([2], [2]), ([], []), ([4], [4]), ([3, 5], [3, 5]), ([6], [6]), ([7, 2, 0, 1, 2, 3, 4, 5, 6, 7], [7])])
def spec_l3Meets.B1 : List Nat := [0, 1, 3, 7, 0, 16, 63, 127, 255]
theorem spec_l3Meets.tab1 : rtab .any (opsOf Tryz.f110 1) = spec_l3Meets.T1 := by kernel_rfl
theorem spec_l3Meets.bits1 : waitsOk spec_l3Meets.T1.2 spec_l3Meets.B1 = true := by kernel_rfl
theorem spec_l3Meets.calls (k : Nat) (a0_0 : ByteArray) (a0_1 : ByteArray) (a0_2 : Int) (a0_3 : Int) (a0_4 : Int) (r : Bool) (w : World) (h : spec_l3Meets.f k a0_0 a0_1 a0_2 a0_3 a0_4 = some r) :
  Calls Tryz.prog 110 #[.agg #[.string a0_0, .string a0_1, .int .i64 a0_2, .int .i64 a0_3, .int .i64 a0_4]] w fun e w' => e = .returned (.bool r) ∧ Below w.heap.size w w' := by
 have hu24 := Tryz.underlying24
 have HB := am (Below.refl w.heap.size w)
 have H : ((spec_l3Sum.f k a0_0 a0_1 a0_2 a0_3 a0_4).bind fun t447 => ((spec_l1Head.f k t447).bind fun t448 => (some (decide ((wrap64 ((wrap64 (Int.tdiv t448 65536)) * a0_3)) < 32768))))) = some r := h
 clear h
 replace ⟨t447, A2, H⟩ := oa H
 replace ⟨t448, A3, H⟩ := oa H
 obtain rfl := oI H
 go_enter Tryz.func110, Tryz.ntmps110
 try go_wp2_with ((with_reducible refine gg ?_); first | (refine bE 1 #[.string a0_0, .string a0_1, .int .i64 a0_2, .int .i64 a0_3, .int .i64 a0_4] 24 ?_; intro gb446 hg w4 hbox hb; have BK446 := am (hbox); have GW446 := zB hg HB; have GE446 := zB hg HB; replace HB := kH HB hb; clear hb hbox hg) | (refine store_event (t := 24) (p := 1) (v := ?vo_) (w1 := ?wo_) ?hg ?ho ?hn ?hr ?_; (case ho => rfl); (case hg => rfl); (case hn => rfl); (case hr => go_simp; rfl); intro wq_ hW_; have BQ_ := am hW_; have hzq_ := am hW_; replace hW_ := am hW_))
 replace BK446 := am (blk_drew BK446.out)
 replace HB := am (below_drew1 HB.out)
 (try (clear hzq_ BQ_; obtain ⟨hW_⟩ := hW_; subst hW_))
 refine start_ (n := 9) (S := cs5 gb446 (.string a0_0) (.string a0_1) (.int .i64 a0_2) (.int .i64 a0_3) (.int .i64 a0_4)) (ds := []) (bm 9 0) (by kernel_rfl) rfl rfl (bz5 BK446) (fun hHeld => ?_); refine with_tabW spec_l3Meets.tab1 spec_l3Meets.bits1 (fun HT_ HW_ => ?_)
 generalize w4.drew = w5 at BK446 HB hHeld ⊢
 refine pA 4 7 (bm 9 16) HT_ ?_
 refine tA 0 3 (bm 9 17) HT_ HW_ hHeld ?_
 refine tA 5 8 (bm 9 49) HT_ HW_ hHeld ?_
 refine oA 1 (some 4) (bm 9 51) HT_ fun K hK => ?_
 refine gA Tryz.func87 #[.agg #[.string a0_0, .string a0_1, .int .i64 a0_2, .int .i64 a0_3, .int .i64 a0_4]] ?_
 with_reducible refine (spec_l3Sum.calls k a0_0 a0_1 a0_2 a0_3 a0_4 t447 _ A2.out).mono ?_
 rintro e w6 ⟨rfl, hb⟩
 refine ⟨_, rfl, ?_⟩
 replace BK446 := kP _ BK446 hb
 replace HB := kH HB hb
 (try clear hb)
 (try clear hb2)
 (try clear hk)
 (try clear hi)
 refine hK.out _ _ (bz5 BK446) (fun hHeld => ?_)
 clear hK K
 refine nA (some 4) ?_
 refine oA 2 (some 5) (bm 9 55) HT_ fun K hK => ?_
 refine gA Tryz.func120 #[.string t447] ?_
 with_reducible refine (spec_l1Head.calls k t447 t448 _ A3.out).mono ?_
 rintro e w' ⟨rfl, ⟨nd, rfl⟩⟩
 refine ⟨_, rfl, ?_⟩
 refine hK.out _ _ (bz5 BK446) (fun hHeld => ?_)
 clear hK K
 refine nA (some 5) ?_
 refine pA 3 6 (bm 9 63) HT_ ?_
 refine pA 6 9 (bm 9 127) HT_ ?_
 refine pA 7 10 (bm 9 255) HT_ ?_
 refine pA 8 2 (bm 9 511) HT_ ?_
 refine done_ (done_of HT_.out (by kernel_rfl)) ?_
 try go_wp2
 (try (clear hzq_ BQ_; obtain ⟨hW_⟩ := hW_; subst hW_))
 go_ret
 exact ⟨xE, xB HB⟩
def spec_l3Mine.l0 : Nat → ByteArray → ByteArray → Int → Int → Int → Option (ByteArray × ByteArray × Int × Int × Int × Bool)
 | 0, _, _, _, _, _ => none
 | k + 1, x450000, x450001, x450002, x450003, x450004 => if x450004 ≤ 400 then ((spec_l3Meets.f k x450000 x450001 x450002 x450003 x450004).bind fun t451 => (if t451 = true then (some (x450000, x450001, x450002, x450003, x450004, true)) else (spec_l3Mine.l0 k x450000 x450001 x450002 x450003 (wrap64 (x450004 + 1))))) else (some ((⟨#[]⟩ : ByteArray), (⟨#[]⟩ : ByteArray), 0, 0, 0, false))
def spec_l3Mine.f (k : Nat) (a0_0 : ByteArray) (a0_1 : ByteArray) (a0_2 : Int) (a0_3 : Int) (a0_4 : Int) : Option (ByteArray × ByteArray × Int × Int × Int × Bool) := spec_l3Mine.l0 k a0_0 a0_1 a0_2 a0_3 0
theorem spec_l3Mine.calls (k : Nat) (a0_0 : ByteArray) (a0_1 : ByteArray) (a0_2 : Int) (a0_3 : Int) (a0_4 : Int) (r1 : ByteArray) (r2 : ByteArray) (r3 : Int) (r4 : Int) (r5 : Int) (r6 : Bool) (w : World) (h : spec_l3Mine.f k a0_0 a0_1 a0_2 a0_3 a0_4 = some (r1, r2, r3, r4, r5, r6)) :
  Calls Tryz.prog 88 #[.agg #[.string a0_0, .string a0_1, .int .i64 a0_2, .int .i64 a0_3, .int .i64 a0_4]] w fun e w' => e = .returned (.tuple #[.agg #[.string r1, .string r2, .int .i64 r3, .int .i64 r4, .int .i64 r5], .bool r6]) ∧ Below w.heap.size w w' := by
 have hu24 := Tryz.underlying24
 have HB := am (Below.refl w.heap.size w)
 have H : (spec_l3Mine.l0 k a0_0 a0_1 a0_2 a0_3 0) = some (r1, r2, r3, r4, r5, r6) := h
 clear h
 have H' := am H
 clear H
 go_enter Tryz.func88, Tryz.ntmps88
 go_wp2_with ((with_reducible refine gg ?_); first | (refine bE 1 #[.string a0_0, .string a0_1, .int .i64 a0_2, .int .i64 a0_3, .int .i64 a0_4] 24 ?_; intro gb449 hg w2 hbox hb; have BK449 := am (hbox); have GW449 := zB hg HB; have GE449 := zB hg HB; replace HB := kH HB hb; clear hb hbox hg) | (refine bE 2 #[.string (⟨#[]⟩ : ByteArray), .string (⟨#[]⟩ : ByteArray), .int .i64 0, .int .i64 0, .int .i64 0] 24 ?_; intro gb450 hg w3 hbox hb; have BK450 := am (hbox); have GW450 := zB hg HB; have GE450 := zB hg HB; replace HB := kH HB hb; have NB449_450 := nl hg (kb BK449); have NB450_449 := ng hg (kb BK449); replace BK449 := kP _ BK449 hb; clear hb hbox hg; have hnb4 := NB449_450.out; have hnc4 := NB450_449.out; have hz5 := bc5 BK449))
 go_loopg [] k (fun kq w' => ∃ (x450004_1 : Int) (x451000_1 : ByteArray) (x451001_1 : ByteArray) (x451002_1 : Int) (x451003_1 : Int) (x451004_1 : Int), Aside0 (spec_l3Mine.l0 kq a0_0 a0_1 a0_2 a0_3 x450004_1 = some (r1, r2, r3, r4, r5, r6)) ∧ Aside0 (kq ≤ k) ∧ Aside0 (w'.heap[gb449]? = some (.cells #[.string a0_0, .string a0_1, .int .i64 a0_2, .int .i64 a0_3, .int .i64 x450004_1] 24 (0, 0))) ∧ Aside0 (w'.heap[gb450]? = some (.cells #[.string x451000_1, .string x451001_1, .int .i64 x451002_1, .int .i64 x451003_1, .int .i64 x451004_1] 24 (0, 0))) ∧ Aside0 (Below w.heap.size w w'))
 case atStart => exact ⟨(0), ((⟨#[]⟩ : ByteArray)), ((⟨#[]⟩ : ByteArray)), (0), (0), (0), H', ⟨Nat.le_refl _⟩, ⟨fb BK449⟩, ⟨fb BK450⟩, ⟨xB HB⟩⟩
 case round =>
  clear H'
  try clear hz5
  obtain ⟨x450004_1, x451000_1, x451001_1, x451002_1, x451003_1, x451004_1, HA, HK1, BK449, BK450, HB⟩ := hrel
  cases gk with
  | zero => exact absurd HA.out (by simp [spec_l3Mine.l0])
  | succ k1 =>
   have H := HA.out
   clear HA
   simp only [spec_l3Mine.l0] at H
   by_cases c6 : x450004_1 ≤ 400
   rotate_left
   ·rw [if_neg c6] at H
    have c6b0 := df c6
    clear c6
    simp only [Option.some.injEq, Prod.mk.injEq] at H
    obtain ⟨rfl, rfl, rfl, rfl, rfl, rfl⟩ := H
    have hnb18 := NB449_450.out
    have hnc18 := NB450_449.out
    have hz19 := bc5 BK449
    have hz20 := bc5 BK450
    go_wp2
    refine bodyPost_ret (results_ct rfl _ _ gb450 24 #[.string (⟨#[]⟩ : ByteArray), .string (⟨#[]⟩ : ByteArray), .int .i64 0, .int .i64 0, .int .i64 0] (0, 0) _ rfl (fb BK450) Tryz.underlying24 rfl (by kernel_rfl)) rfl ?_
    exact ⟨xE, xB HB⟩
   rw [if_pos c6] at H
   have c6b0 := dt c6
   clear c6
   replace ⟨t451, A7, H⟩ := oa H
   have hnb9 := NB449_450.out
   have hnc9 := NB450_449.out
   have hz10 := bc5 BK449
   go_upto_if 13 with ((with_reducible refine gg ?_); refine gL 13 Tryz.func110 #[.agg #[.string a0_0, .string a0_1, .int .i64 a0_2, .int .i64 a0_3, .int .i64 x450004_1]] ?_; (with_reducible refine (spec_l3Meets.calls k1 a0_0 a0_1 a0_2 a0_3 x450004_1 t451 _ A7.out).mono ?_); rintro e w11 ⟨rfl, hb⟩; refine ⟨_, rfl, ?_⟩; replace BK449 := kP _ BK449 hb; replace BK450 := kP _ BK450 hb; replace HB := kH HB hb; (try clear hb); have hz12 := bc5 BK449)
   by_cases c8 : t451 = true
   rotate_left
   ·replace c8 := bF c8
    subst c8
    try simp only [Bool.not_true, Bool.not_false]
    rw [if_neg nF] at H
    have H' := am H
    clear H
    go_wp2
    go_roundg k1
    case measure => have := HK1.out; omega
    case rel => exact ⟨(wrap64 (x450004_1 + 1)), (x451000_1), (x451001_1), (x451002_1), (x451003_1), (x451004_1), H', ⟨xL HK1⟩, ⟨fb BK449⟩, ⟨fb BK450⟩, ⟨xB HB⟩⟩
   subst c8
   try simp only [Bool.not_true, Bool.not_false]
   rw [if_pos rfl] at H
   simp only [Option.some.injEq, Prod.mk.injEq] at H
   obtain ⟨rfl, rfl, rfl, rfl, rfl, rfl⟩ := H
   have hz13 := bc5 BK450
   go_wp2
   refine bodyPost_ret (results_ct rfl _ _ gb450 24 #[.string a0_0, .string a0_1, .int .i64 a0_2, .int .i64 a0_3, .int .i64 x450004_1] (0, 0) _ rfl (fb BK450) Tryz.underlying24 rfl (by kernel_rfl)) rfl ?_
   exact ⟨xE, xB HB⟩
def spec_l4Copy.l0 : Nat → List S82 → List S82 → Int → Option (List S82)
 | 0, _, _, _ => none
 | k + 1, x0, x3, x4 => if x4 < (x0.length : Int) then (if 0 ≤ x4 then ((some (([] : List ByteArray) : List ByteArray)).bind fun y456 => (if y456.length + ((rd_T82 x0 x4).f1).length < 8796093022208 then (if x3.length < 1759218604441 then (spec_l4Copy.l0 k x0 (x3 ++ [(⟨(⟨(rd_T82 x0 x4).f0.f0, (rd_T82 x0 x4).f0.f1, (rd_T82 x0 x4).f0.f2, (rd_T82 x0 x4).f0.f3, (rd_T82 x0 x4).f0.f4⟩ : S24), (y456 ++ ((rd_T82 x0 x4).f1))⟩ : S82)]) (wrap64 (x4 + 1))) else (none)) else (none))) else (none)) else (some x3)
def spec_l4Copy.f (k : Nat) (l0 : List S82) : Option (List S82) := spec_l4Copy.l0 k l0 (([] : List S82)) 0
def spec_l4Copy.T5 : Bool × List (List Nat × List Nat) := (true, [([], []), ([], []), ([], []), ([1, 2], [1, 2]), ([3], [3]), ([4], [4]), ([], []), ([], []), ([], []), ([7, 8], [7, 8]), ([9], [9]), ([10], [10]), ([6, 11], [6, 11]), ([5, 12], [5, 12]), ([13], [13]), ([0, 14, 12], [0, 14]), ([15, 15, 0, 1, 2, 3, 4, 5, 6, 7, 8, 9, 10, 11, 12, 13, 14, 15], [0, 15])])
def spec_l4Copy.B5 : List Nat := [0, 0, 0, 6, 14, 30, 0, 0, 0, 384, 896, 1920, 4032, 8190, 16382, 32767, 65535]
theorem spec_l4Copy.tab5 : rtab .any (opsOf Tryz.f89 5) = spec_l4Copy.T5 := by kernel_rfl
theorem spec_l4Copy.bits5 : waitsOk spec_l4Copy.T5.2 spec_l4Copy.B5 = true := by kernel_rfl
theorem spec_l4Copy.calls (k : Nat) (A0 : Option Addr) (c0 : Nat) (l0 : List S82) (r : List S82) (w : World) (hr0 : Kd.C k82 w A0 l0.length l0) (hc0 : l0.length ≤ c0) (h : spec_l4Copy.f k l0 = some r) :
  Calls Tryz.prog 89 #[.slice A0 l0.length c0] w fun e w' => ∃ v0_ : Value, e = .returned (v0_) ∧ Kd.S k82 82 w' w.heap.size (fun _ => True) v0_ r ∧ Below w.heap.size w w' := by
 have hu24 := Tryz.underlying24
 have hu82 := Tryz.underlying82
 have HR0 := am hr0
 have HC0 := am hc0
 clear hr0 hc0
 have HB := am (Below.refl w.heap.size w)
 have H : (spec_l4Copy.l0 k l0 (([] : List S82)) 0) = some r := h
 clear h
 obtain ⟨y452, Ny452⟩ := yA (([] : List S82) : List S82)
 rw [← Ny452.out] at H
 have H' := am H
 clear H
 go_enter Tryz.func89, Tryz.ntmps89
 go_wp2_with ((with_reducible refine gate_dst (N := 5) rfl ?_); refine S_lit k82 _ 82 ?hg (N := 5) ?hd (xs := ([] : List S82)) (inner := []) (ok := fun _ => True) (okp := fun _ => True) ?hr ?hp (fun _ hk => hk) trivial (Below.refl _ _) (Nat.le_refl _) (by simp) ?_; (case hd => rfl); (case hg => rfl); (case hr => first | (go_simp; done) | (go_simp; rfl)); (case hp => exact xP); intro v453 w2 ho3 hb hg_ hnew_; clear hg_ hnew_; (first | rw [← Ny452.out] at ho3 | (simp only [Int.reduceToNat] at ho3; rw [← Ny452.out] at ho3)); have HO454 := am (S_lower ho3 (below_size (bl HB))); replace HB := kH HB hb; clear hb ho3)
 go_loopg [3, 4] k (fun kq v3 v4 w' => ∃ (x3_1 : List S82) (x4_1 : Int), v4 = .int .i64 x4_1 ∧ Aside0 (spec_l4Copy.l0 kq l0 x3_1 x4_1 = some r) ∧ Aside0 (kq ≤ k) ∧ Aside0 (Kd.S k82 82 w' w.heap.size (fun _ => True) v3 x3_1) ∧ Aside0 (Below w.heap.size w w'))
 case atStart => exact ⟨(y452), (0), xR, H', ⟨Nat.le_refl _⟩, ⟨sx HO454⟩, ⟨bl HB⟩⟩
 case round =>
  clear H'
  try clear p2
  obtain ⟨x3_1, x4_1, rfl, HA, HK1, HO_3, HB⟩ := hrel
  cases gk with
  | zero => exact absurd HA.out (by simp [spec_l4Copy.l0])
  | succ k1 =>
   have H := HA.out
   clear HA
   simp only [spec_l4Copy.l0] at H
   by_cases c4 : x4_1 < (l0.length : Int)
   rotate_left
   ·rw [if_neg c4] at H
    have c4b0 := df c4
    clear c4
    obtain rfl := oI H
    go_wp2
    go_ret
    exact ⟨_, xE, sx HO_3, bl HB⟩
   rw [if_pos c4] at H
   have c4b0 := dt c4
   clear c4
   replace ⟨c5b0, H⟩ := ipd H
   obtain ⟨y456, Ny456⟩ := yA (([] : List ByteArray) : List ByteArray)
   rw [← Ny456.out] at H
   replace ⟨LMc6, H⟩ := ipa H
   obtain ⟨y460, Ny460⟩ := yA (y456 ++ ((rd_T82 l0 x4_1).f1) : List ByteArray)
   rw [← Ny460.out] at H
   replace ⟨LMc7, H⟩ := ipa H
   obtain ⟨y463, Ny463⟩ := yA (x3_1 ++ [(⟨(⟨(rd_T82 l0 x4_1).f0.f0, (rd_T82 l0 x4_1).f0.f1, (rd_T82 l0 x4_1).f0.f2, (rd_T82 l0 x4_1).f0.f3, (rd_T82 l0 x4_1).f0.f4⟩ : S24), y460⟩ : S82)] : List S82)
   rw [← Ny463.out] at H
   have H' := am H
   clear H
   try go_wp2
   replace HO_3 := am (S_drew HO_3.out)
   replace HB := am (below_drew1 HB.out)
   have p455 : 0 ≤ (x4_1 : Int) := oX
   have q455 : x4_1 < (l0.length : Int) := oX
   obtain ⟨ad455, A455_5, c455_5, e455, hx455_0, hx455_1, hx455_2, hx455_3, hx455_4, hx455_5, hl455_5, hi455_5⟩ := at_T82 HR0.out x4_1 p455 q455
   have hw455_5 := hx455_5
   have hw455_4 := hx455_4
   have hw455_3 := hx455_3
   have hw455_2 := hx455_2
   have hw455_1 := hx455_1
   have hw455_0 := hx455_0
   cases e455
   replace hx455_0 := hc HB hx455_0
   replace hx455_1 := hc HB hx455_1
   replace hx455_2 := hc HB hx455_2
   replace hx455_3 := hc HB hx455_3
   replace hx455_4 := hc HB hx455_4
   replace hx455_5 := hc HB hx455_5
   have HR455_5 := am hi455_5
   have HC455_5 := am hl455_5
   clear hi455_5 hl455_5
   replace ⟨p455, q455⟩ := eT p455 q455
   have p459 : 0 ≤ (x4_1 : Int) := oX
   have q459 : x4_1 < (l0.length : Int) := oX
   obtain ⟨ad459, A459_5, c459_5, e459, hx459_0, hx459_1, hx459_2, hx459_3, hx459_4, hx459_5, hl459_5, hi459_5⟩ := at_T82 HR0.out x4_1 p459 q459
   have hw459_5 := hx459_5
   have hw459_4 := hx459_4
   have hw459_3 := hx459_3
   have hw459_2 := hx459_2
   have hw459_1 := hx459_1
   have hw459_0 := hx459_0
   obtain rfl : ad455 = ad459 := (by injection e459)
   replace hx459_0 := hc HB hx459_0
   replace hx459_1 := hc HB hx459_1
   replace hx459_2 := hc HB hx459_2
   replace hx459_3 := hc HB hx459_3
   replace hx459_4 := hc HB hx459_4
   replace hx459_5 := hc HB hx459_5
   have HR459_5 := am hi459_5
   have HC459_5 := am hl459_5
   clear hi459_5 hl459_5
   replace ⟨p459, q459⟩ := eT p459 q459
   have ea_ := Option.some.inj (hx455_5.symm.trans hx459_5)
   injection ea_ with ea_ en_ ec_
   subst ea_
   subst ec_
   clear en_
   refine start_ (n := 17) (S := fun w' => w'.cell? (ad455.add ((x4_1).toNat * 6)) = some (.string ((rd_T82 l0 x4_1).f0.f0)) ∧ w'.cell? ⟨(ad455.add ((x4_1).toNat * 6)).block, (ad455.add ((x4_1).toNat * 6)).off + 1, none⟩ = some (.string ((rd_T82 l0 x4_1).f0.f1)) ∧ w'.cell? ⟨(ad455.add ((x4_1).toNat * 6)).block, (ad455.add ((x4_1).toNat * 6)).off + 2, none⟩ = some (.int .i64 ((rd_T82 l0 x4_1).f0.f2)) ∧ w'.cell? ⟨(ad455.add ((x4_1).toNat * 6)).block, (ad455.add ((x4_1).toNat * 6)).off + 3, none⟩ = some (.int .i64 ((rd_T82 l0 x4_1).f0.f3)) ∧ w'.cell? ⟨(ad455.add ((x4_1).toNat * 6)).block, (ad455.add ((x4_1).toNat * 6)).off + 4, none⟩ = some (.int .i64 ((rd_T82 l0 x4_1).f0.f4)) ∧ w'.cell? ⟨(ad455.add ((x4_1).toNat * 6)).block, (ad455.add ((x4_1).toNat * 6)).off + 5, none⟩ = some (.slice A455_5 ((rd_T82 l0 x4_1).f1).length c455_5) ∧ w'.cell? (ad455.add ((x4_1).toNat * 6)) = some (.string ((rd_T82 l0 x4_1).f0.f0)) ∧ w'.cell? ⟨(ad455.add ((x4_1).toNat * 6)).block, (ad455.add ((x4_1).toNat * 6)).off + 1, none⟩ = some (.string ((rd_T82 l0 x4_1).f0.f1)) ∧ w'.cell? ⟨(ad455.add ((x4_1).toNat * 6)).block, (ad455.add ((x4_1).toNat * 6)).off + 2, none⟩ = some (.int .i64 ((rd_T82 l0 x4_1).f0.f2)) ∧ w'.cell? ⟨(ad455.add ((x4_1).toNat * 6)).block, (ad455.add ((x4_1).toNat * 6)).off + 3, none⟩ = some (.int .i64 ((rd_T82 l0 x4_1).f0.f3)) ∧ w'.cell? ⟨(ad455.add ((x4_1).toNat * 6)).block, (ad455.add ((x4_1).toNat * 6)).off + 4, none⟩ = some (.int .i64 ((rd_T82 l0 x4_1).f0.f4)) ∧ w'.cell? ⟨(ad455.add ((x4_1).toNat * 6)).block, (ad455.add ((x4_1).toNat * 6)).off + 5, none⟩ = some (.slice A455_5 ((rd_T82 l0 x4_1).f1).length c455_5)) (ds := []) (bm 17 0) (by kernel_rfl) rfl rfl ⟨(hd HB hw455_0), (hd HB hw455_1), (hd HB hw455_2), (hd HB hw455_3), (hd HB hw455_4), (hd HB hw455_5), (hd HB hw459_0), (hd HB hw459_1), (hd HB hw459_2), (hd HB hw459_3), (hd HB hw459_4), (hd HB hw459_5)⟩ (fun hHeld => ?_); refine with_tabW spec_l4Copy.tab5 spec_l4Copy.bits5 (fun HT_ HW_ => ?_)
   generalize wr.drew = w8 at HO_3 HB HR455_5 HR459_5 hx455_0 hx455_1 hx455_2 hx455_3 hx455_4 hx455_5 hx459_0 hx459_1 hx459_2 hx459_3 hx459_4 hx459_5 hHeld ⊢
   refine pA 0 12 (bm 17 1) HT_ ?_
   refine pA 1 13 (bm 17 3) HT_ ?_
   refine pA 2 14 (bm 17 7) HT_ ?_
   refine pA 3 15 (bm 17 15) HT_ ?_
   refine pA 4 16 (bm 17 31) HT_ ?_
   refine pA 7 19 (bm 17 159) HT_ ?_
   refine pA 8 20 (bm 17 415) HT_ ?_
   refine pA 9 21 (bm 17 927) HT_ ?_
   refine pA 10 22 (bm 17 1951) HT_ ?_
   refine tA 5 17 (bm 17 1983) HT_ HW_ hHeld ?_
   refine tA 11 23 (bm 17 4031) HT_ HW_ hHeld ?_
   refine oA 6 (some 18) (bm 17 4095) HT_ fun K hK => ?_
   refine R_lit_step Kd.string _ 9 ?hg (N := 18) ?hd (xs := ([] : List ByteArray)) (inner := []) (ok := fun _ => True) (okp := fun _ => True) ?hr ?hp (fun _ hk => hk) trivial (Below.refl _ _) (Nat.le_refl _) (by simp) ?_; (case hd => rfl); (case hg => rfl); (case hr => first | (go_simp; done) | (go_simp; rfl)); (case hp => exact (Reps.none _ _))
   intro v457 w9 ho10 hb hg_ hnew_
   clear hg_ hnew_
   (first | rw [← Ny456.out] at ho10 | (simp only [Int.reduceToNat] at ho10; rw [← Ny456.out] at ho10))
   replace HO_3 := am (S_elder' (sx HO_3) (R_base ho10) hb)
   have HO458 := am (R_lower ho10 (below_size (bl HB)))
   replace HB := kH HB hb
   clear hb ho10
   refine hK.out _ _ ⟨(hd HB hw455_0), (hd HB hw455_1), (hd HB hw455_2), (hd HB hw455_3), (hd HB hw455_4), (hd HB hw455_5), (hd HB hw459_0), (hd HB hw459_1), (hd HB hw459_2), (hd HB hw459_3), (hd HB hw459_4), (hd HB hw459_5)⟩ (fun hHeld => ?_)
   clear hK K
   refine nA (some 18) ?_
   refine oA 12 (some 24) (bm 17 8191) HT_ fun K hK => ?_
   refine R_append_rows_step Kd.string (w0 := w) w.heap.size (by rfl) (.tmp 18) (.tmp 23) 53 9 (.string ⟨#[]⟩) 16 rfl Tryz.underlying53 info9 rfl (by decide) (by omega) v457 y456 ((rd_T82 l0 x4_1).f1) _ _ _ (fun _ => True) (fun _ => False) rfl rfl ?aO ?aR (fun _ _ h => h) (fun _ h => h.elim) ?aF ?aB ?aS ?aL ?_
   (case aR => exact cb HR459_5 HB)
   (case aB => exact (bl HB))
   (case aF => exact (fun _ _ => trivial))
   (case aO => exact (ra HO458))
   (case aS => exact (below_size (bl HB)))
   (case aL => have := LMc6.out; omega)
   intro v461 w11 ho hb hg hat
   rw [← Ny460.out] at ho
   have n0_ := am (S_after (ok := (fun _ => True)) (sx HO_3) hg hat)
   have n1_ := am (hb)
   have n2_ := am (ho)
   clear HO_3
   clear HB
   clear HO458
   have HO_3 := n0_
   have HB := n1_
   have HO462 := n2_
   clear n0_ n1_ n2_
   clear ho hb hg hat
   obtain ⟨Ao12, co12, eo12⟩ := R_slice HO462.out
   (first | subst eo12 | (obtain ⟨f4_, f5_⟩ := eS eo12; subst f4_ f5_))
   refine hK.out _ _ ⟨(hd HB hw455_0), (hd HB hw455_1), (hd HB hw455_2), (hd HB hw455_3), (hd HB hw455_4), (hd HB hw455_5), (hd HB hw459_0), (hd HB hw459_1), (hd HB hw459_2), (hd HB hw459_3), (hd HB hw459_4), (hd HB hw459_5)⟩ (fun hHeld => ?_)
   clear hK K
   refine nA (some 24) ?_
   refine pA 13 25 (bm 17 16383) HT_ ?_
   refine oA 14 (some 26) (bm 17 32767) HT_ fun K hK => ?_
   refine value_ (w1 := ?_) (v := ?_) (by rfl) rfl ?_ ?_
   rotate_left 2
   ·go_simp
    constructor
    ·rfl
    ·rfl
   refine hK.out _ _ ⟨ca (hd HB hw455_0), ca (hd HB hw455_1), ca (hd HB hw455_2), ca (hd HB hw455_3), ca (hd HB hw455_4), ca (hd HB hw455_5), ca (hd HB hw459_0), ca (hd HB hw459_1), ca (hd HB hw459_2), ca (hd HB hw459_3), ca (hd HB hw459_4), ca (hd HB hw459_5)⟩ (fun hHeld => ?_)
   clear hK K
   refine nA (some 26) ?_
   refine oA 15 (some 27) (bm 17 65535) HT_ fun K hK => ?_
   refine S_append_step k82 (w0 := w) w.heap.size (by rfl) (.tmp 12) (.tmp 26) 79 82 (.agg #[(.string ⟨#[]⟩), (.string ⟨#[]⟩), (.int .i64 0), (.int .i64 0), (.int .i64 0), (.slice none 0 0)]) 80 rfl Tryz.underlying79 info82 rfl (by decide) (by omega) u3 x3_1 (⟨(⟨(rd_T82 l0 x4_1).f0.f0, (rd_T82 l0 x4_1).f0.f1, (rd_T82 l0 x4_1).f0.f2, (rd_T82 l0 x4_1).f0.f3, (rd_T82 l0 x4_1).f0.f4⟩ : S24), y460⟩ : S82) [.string ((rd_T82 l0 x4_1).f0.f0), .string ((rd_T82 l0 x4_1).f0.f1), .int .i64 ((rd_T82 l0 x4_1).f0.f2), .int .i64 ((rd_T82 l0 x4_1).f0.f3), .int .i64 ((rd_T82 l0 x4_1).f0.f4), .slice Ao12 y460.length co12] (fun _ => True) (fun k_ => some k_ = (.slice Ao12 y460.length co12 : Value).ownBlock) rfl rfl ?aP (fun k_ hk_ => ((R_mono (ok' := fun k_ => ((fun _ => True)) k_ ∧ some k_ ≠ (u3 : Value).ownBlock) (R_apart' (HO462.out) (S_typed HO_3.out) (by decide)) (fun k_ hk => ⟨trivial, hk.2⟩))).1 k_ hk_.symm) ?aF ?aO ?aB ?aS ?aL ?_
   (case aP => exact k82_mkM _ _ _ (⟨(⟨(rd_T82 l0 x4_1).f0.f0, (rd_T82 l0 x4_1).f0.f1, (rd_T82 l0 x4_1).f0.f2, (rd_T82 l0 x4_1).f0.f3, (rd_T82 l0 x4_1).f0.f4⟩ : S24), y460⟩ : S82) (R_mono (R_tight rfl (R_mono (ok' := fun k_ => ((fun _ => True)) k_ ∧ some k_ ≠ (u3 : Value).ownBlock) (R_apart' (HO462.out) (S_typed HO_3.out) (by decide)) (fun k_ hk => ⟨trivial, hk.2⟩))) (fun _ h_ => h_)))
   (case aB => exact (bl HB))
   (case aF => exact (fun _ _ => trivial))
   (case aO => exact (by (with_reducible repeat (first | apply S_alloc | apply S_drewN | apply S_drew)); exact S_mono HO_3.out (fun k_ hk => ⟨trivial, fun e_ => hk.2 e_⟩)))
   (case aS => exact (below_size (bl HB)))
   (case aL => have := LMc7.out; omega)
   intro v464 w13 ho hb hg hat
   rw [← Ny463.out] at ho
   have n0_ := am (hb)
   have n1_ := am (ho)
   clear HB
   clear HO_3
   clear HO462
   have HB := n0_
   have HO465 := n1_
   clear n0_ n1_
   clear ho hb hg hat
   refine hK.out _ _ ⟨(hd HB hw455_0), (hd HB hw455_1), (hd HB hw455_2), (hd HB hw455_3), (hd HB hw455_4), (hd HB hw455_5), (hd HB hw459_0), (hd HB hw459_1), (hd HB hw459_2), (hd HB hw459_3), (hd HB hw459_4), (hd HB hw459_5)⟩ (fun hHeld => ?_)
   clear hK K
   refine nA (some 27) ?_
   refine pA 16 3 (bm 17 131071) HT_ ?_
   refine done_ (done_of HT_.out (by kernel_rfl)) ?_
   try go_wp2
   go_roundg k1
   case measure => have := HK1.out; omega
   case rel => exact ⟨(y463), (wrap64 (x4_1 + 1)), xR, H', ⟨xL HK1⟩, ⟨sx HO465⟩, ⟨bl HB⟩⟩

end Go.Proofs.YtgjljbaadglpnaaGreatDoor.PFnPaidGet
