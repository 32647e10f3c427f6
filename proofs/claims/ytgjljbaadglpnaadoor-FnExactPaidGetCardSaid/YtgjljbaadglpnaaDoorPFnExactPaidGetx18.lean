/- Functions of the program and what each answers: the kit's print, shortened (wip/press2.py). -/
import Derived.Test.YtgjljbaadglpnaaDoorPFnExactPaidGetx0
import Derived.Test.YtgjljbaadglpnaaDoorPFnExactPaidGetx13
import Derived.Test.YtgjljbaadglpnaaDoorPFnExactPaidGetx17
namespace Go.Proofs.YtgjljbaadglpnaaDoor.PFnExactPaidGet
open Go.Proofs.YtgjljbaadglpnaaDoor.Sq Go.RowKit Go.Proofs.YtgjljbaadglpnaaDoorW.PrintWords Go.Proofs.YtgjljbaadglpnaaDoorW.PrintLast Go.Proofs.YtgjljbaadglpnaaDoorW.PrintMore
attribute [local go_sem] max2_int min2_int max_two min_two max_three min_three max_four min_four   -- for this text's walks alone
set_option linter.unusedVariables false
set_option linter.unusedSimpArgs false

/-! ### impl_peaksGet: function 35 -/
def impl_peaksGet.l0 : Nat → List (S93) → List ByteArray → Int → Int → Option ((List (S93)) × Bool)
 | 0, _, _, _, _ => none
 | k + 1, x7, x23, x24, x25 => if x25 < x24 then (if 0 ≤ x25 then (if x25 < (x23.length : Int) then ((strings_Split.f (rdOf ByteArray.empty x23 x25) (⟨#[58]⟩ : ByteArray)).bind fun t322 => (if (t322.length : Int) = 3 then (if 1 < (t322.length : Int) then ((impl_number.f k (rdOf ByteArray.empty t322 1)).bind fun bt326 => (if 2 < (t322.length : Int) then ((impl_number.f k (rdOf ByteArray.empty t322 2)).bind fun bt329 => (if bt326.2 = true then (if bt329.2 = true then (if 0 < (t322.length : Int) then (if x7.length < 4398046511104 then (impl_peaksGet.l0 k (x7 ++ [(⟨rdOf ByteArray.empty t322 0, bt326.1, bt329.1⟩ : S93)]) x23 x24 (wrap64 (x25 + 1))) else (none)) else (none)) else (some (([] : List (S93)), false))) else (some (([] : List (S93)), false)))) else (none))) else (none)) else (some (([] : List (S93)), false)))) else (none)) else (none)) else ((impl_Peak.f x7).bind fun t318 => (some (t318, true)))
def impl_peaksGet.f (k : Nat) (a0 : ByteArray) (a1 : ByteArray) : Option ((List (S93)) × Bool) := (strings_Split.f a1 (⟨#[32]⟩ : ByteArray)).bind fun t310 => (if 0 < (t310.length : Int) then (if (rdOf ByteArray.empty t310 0).toList = a0.toList then (if 1 ≤ (t310.length : Int) then ((some (t310.drop 1 : List ByteArray)).bind fun y314 => (impl_peaksGet.l0 k ([] : List (S93)) y314 (y314.length : Int) 0)) else (none)) else (some (([] : List (S93)), false))) else (none))
theorem impl_peaksGet.mono_l : ∀ k, (∀ y0 y1 y2 y3, LeO (impl_peaksGet.l0 k y0 y1 y2 y3) (impl_peaksGet.l0 (k + 1) y0 y1 y2 y3))
 | 0 => fun _ _ _ _ r h => by simp [impl_peaksGet.l0] at h
 | k + 1 => by
  have ih0 := impl_peaksGet.mono_l k
  ·intro y0 y1 y2 y3
   unfold impl_peaksGet.l0
   exact mo2 ih0 impl_number.mono
theorem impl_peaksGet.mono : ∀ a0 a1 k, LeO (impl_peaksGet.f k a0 a1) (impl_peaksGet.f (k + 1) a0 a1) := by
 intro a0 a1 k
 have ih0 := impl_peaksGet.mono_l k
 unfold impl_peaksGet.f
 exact mo2 ih0 impl_number.mono
set_option maxHeartbeats 64000000 in
set_option maxRecDepth 100000 in
theorem impl_peaksGet.calls (k : Nat) (a0 : ByteArray) (a1 : ByteArray) (r1 : List (S93)) (r2 : Bool) (w : World) (h : impl_peaksGet.f k a0 a1 = some (r1, r2)) (PQM_ : Aside0 (Sh.HasM w)) :
  Calls Tryd.prog 35 #[.string a0, .string a1] w fun e w' => ∃ v0_ : Value, e = .returned (.tuple #[v0_, .bool r2]) ∧ Kd.R k93 93 w' w.heap.size (fun _ => True) v0_ r1 ∧ Below w.heap.size w w' := by
 have hu93 := Tryd.underlying93
 have HB := Aside0.mk (Below.refl w.heap.size w)
 have H : ((strings_Split.f a1 (⟨#[32]⟩ : ByteArray)).bind fun t310 => (if 0 < (t310.length : Int) then (if (rdOf ByteArray.empty t310 0).toList = a0.toList then (if 1 ≤ (t310.length : Int) then ((some (t310.drop 1 : List ByteArray)).bind fun y314 => (impl_peaksGet.l0 k ([] : List (S93)) y314 (y314.length : Int) 0)) else (none)) else (some (([] : List (S93)), false))) else (none))) = some (r1, r2) := h
 clear h
 replace H := oa H
 obtain ⟨t310, A3, H⟩ := H
 replace H := ip H
 obtain ⟨c4, H⟩ := H
 have c4b0 := decide_eq_true c4
 have c4b1 : decide (0 < t310.length) = true := decide_eq_true (by omega)
 clear c4
 go_enter Tryd.func35, Tryd.ntmps35
 go_upto_if 21 with ((with_reducible refine gg ?_); refine gL 16 Tryd.func32 #[.string a1, .string (⟨#[32]⟩ : ByteArray)] ?_; (with_reducible refine (strings_Split.calls a1 (⟨#[32]⟩ : ByteArray) t310 _ A3.out (Aside0.mk (Sh.hasM_of PQM_ (bl HB)))).mono ?_); rintro e w7 ⟨v311, rfl, ho0, hb⟩; refine ⟨_, rfl, ?_⟩; have HO312 := am (Kd.R_lower ho0 (below_size (bl HB))); replace HB := kH HB hb; (try clear hb); (try clear ho0); obtain ⟨Ao8, co8, eo8⟩ := Kd.R_slice HO312.out; subst eo8; have p313 : 0 ≤ (0 : Int) := (by omega); have q313 : 0 < (t310.length : Int) := of_decide_eq_true xA; obtain ⟨ad313, e313, hx313_0⟩ := Kd.at_string (Kd.R_reads' HO312.out).2.2 0 p313 q313; cases e313; have qi313 : (0 < t310.length) = True := eq_true (by omega); (try rw [show ((0 : Int)).toNat = 0 from rfl] at hx313_0); (try rw [Addr.add_zero'] at hx313_0); replace p313 := eq_true p313; replace q313 := eq_true q313)
 by_cases c5 : (rdOf ByteArray.empty t310 0).toList = a0.toList
 rotate_left
 ·rw [if_neg c5] at H
  have c5b0 := beq_eq_false_iff_ne.mpr c5
  have c5b1 := bne_iff_ne.mpr c5
  try simp only [c5b0, c5b1]
  simp only [Option.some.injEq, Prod.mk.injEq] at H
  obtain ⟨rfl, rfl⟩ := H
  go_wp2
  go_ret2
  exact ⟨_, xE, xN, bl HB⟩
 rw [if_pos c5] at H
 have c5b0 := beq_iff_eq.mpr c5
 have c5b1 := bne_eq_false_iff_eq.mpr c5
 try simp only [c5b0, c5b1]
 clear c5
 replace H := ip H
 obtain ⟨c6, H⟩ := H
 have c6b0 := eq_true c6
 have c6b1 := decide_eq_true c6
 clear c6
 obtain ⟨y314, Ny314⟩ := yA (t310.drop 1 : List ByteArray)
 rw [← Ny314.out] at H
 have H' := Aside0.mk H
 clear H
 have q9 : (1 : Int) ≤ ((t310.length : Int) : Int) := of_decide_eq_true xA
 obtain ⟨i09, hi09, _, hsz9, _⟩ := info_parts info9
 have hroom9 : t310.length ≤ co8 := (Kd.R_reads' HO312.out).2.1
 have hC9 : Kd.C Kd.string _ (some ad313) t310.length t310 := (Kd.R_reads' HO312.out).2.2
 have hcut9 := cut_from (P := Tryd.prog) 56 9 .i64 Tryd.underlying56 hi09 1 hsz9 (some ad313) t310.length co8 1 (by omega) q9
 have hr9 := Kd.C_drop (m := (1 : Int).toNat) (c := co8) hC9 (by omega) hroom9
 obtain ⟨A9, hA9⟩ : ∃ A1, A1 = (if co8 = (1 : Int).toNat then (some ad313) else ((some ad313) : Option Addr).map (·.add ((1 : Int).toNat * 1))) := ⟨_, rfl⟩
 obtain ⟨c9, hc9⟩ : ∃ c1, c1 = co8 - (1 : Int).toNat := ⟨_, rfl⟩
 have hy9 : y314.length = t310.length - (1 : Int).toNat := (by rw [Ny314.out, List.length_drop] <;> omega)
 rw [show (t310).drop (1 : Int).toNat = y314 from Ny314.out.symm] at hr9
 replace hr9 : Kd.C Kd.string _ A9 y314.length y314 := (by rw [hA9]; exact hr9)
 rw [← hy9, ← hA9, ← hc9] at hcut9
 have HR317 := Aside0.mk hr9
 have HC317 := Aside0.mk (show y314.length ≤ c9 from by rw [hy9, hc9]; exact Nat.sub_le_sub_right hroom9 _)
 clear hr9 hC9 hroom9 hi09 hsz9 hc9
 have KY9 := Aside0.mk hy9
 have KA9 := Aside0.mk hA9
 clear hy9 hA9
 have KL9 := Aside0.mk (show 1 ≤ t310.length from by omega)
 replace q9 := eq_true q9
 go_wp2
 have HBw := HB
 replace PQM_ := Aside0.mk (Sh.hasM_of PQM_ HB.out)
 clear HB
 have HB := Aside0.mk (Below.refl w7.heap.size w7)
 go_loopg [7, 25] k (fun kq v7 v25 w' => ∃ (x7_1 : List (S93)) (x25_1 : Int), v25 = .int .i64 x25_1 ∧ Aside0 (impl_peaksGet.l0 kq x7_1 y314 (y314.length : Int) x25_1 = some (r1, r2)) ∧ Aside0 (kq ≤ k) ∧ Aside0 (Kd.R k93 93 w' w7.heap.size (fun _ => True) v7 x7_1) ∧ Aside0 (Below w7.heap.size w7 w'))
 case atStart => exact ⟨(([] : List (S93))), (0), xR, H', ⟨Nat.le_refl _⟩, ⟨xN⟩, ⟨bl HB⟩⟩
 case round =>
  clear H'
  try clear c1
  try clear p2
  try clear c3
  try clear p3
  try clear q3
  try clear hx3
  try clear qi3
  try clear c4
  try clear c4b0
  try clear c4b1
  try clear c5
  try clear c5b0
  try clear c5b1
  try clear c6
  try clear c6b0
  try clear c6b1
  try clear c9
  try clear q9
  try clear hx313_0
  try clear p313
  try clear q313
  try clear q9
  obtain ⟨x7_1, x25_1, rfl, HA, HK1, HO_7, HB⟩ := hrel
  cases gk with
  | zero => exact absurd HA.out (by simp [impl_peaksGet.l0])
  | succ k1 =>
   have H := HA.out
   clear HA
   simp only [impl_peaksGet.l0] at H
   by_cases c10 : x25_1 < (y314.length : Int)
   rotate_left
   ·rw [if_neg c10] at H
    have c10b0 := decide_eq_false c10
    clear c10
    replace H := oa H
    obtain ⟨t318, A32, H⟩ := H
    simp only [Option.some.injEq, Prod.mk.injEq] at H
    obtain ⟨rfl, rfl⟩ := H
    obtain ⟨Ao33, co33, eo33⟩ := Kd.R_slice HO_7.out
    subst eo33
    go_wp2_with ((with_reducible refine gg ?_); refine gL 65 Tryd.func68 #[.slice Ao33 x7_1.length co33] ?_; (with_reducible refine (impl_Peak.calls _ _ x7_1 t318 _ ?side1 ?side2 A32.out).mono ?_); (case side1 => exact cr (Kd.R_reads' HO_7.out).2.2); (case side2 => exact (Kd.R_reads' HO_7.out).2.1); rintro e w34 ⟨v319, rfl, ho0, hb⟩; refine ⟨_, rfl, ?_⟩; have HO320 := am (Kd.R_lower (Kd.R_new' ho0 (Kd.R_lt (ra HO_7))) (below_size (bl HB))); replace HO_7 := am (Kd.R_elder' (ra HO_7) (Kd.R_base ho0) hb); replace HB := kH HB hb; (try clear hb); (try clear ho0))
    go_ret2
    exact ⟨_, xE, Kd.R_lower (rM HO320 (fun _ hk => trivial)) (below_size HBw.out), below_step HBw.out (bl HB)⟩
   rw [if_pos c10] at H
   have c10b0 := decide_eq_true c10
   clear c10
   replace H := ipd H
   obtain ⟨c11b0, H⟩ := H
   replace H := ipd H
   obtain ⟨c12b0, H⟩ := H
   replace H := oa H
   obtain ⟨t322, A13, H⟩ := H
   have p321 : 0 ≤ (x25_1 : Int) := of_decide_eq_true xA
   have q321 : x25_1 < (y314.length : Int) := of_decide_eq_true xA
   obtain ⟨ad321, e321, hx321_0⟩ := Kd.at_string HR317.out x25_1 p321 q321
   cases e321
   replace hx321_0 := hc HB hx321_0
   replace p321 := eq_true p321
   replace q321 := eq_true q321
   go_upto_if 33 with ((with_reducible refine gg ?_); refine gL 30 Tryd.func32 #[.string (rdOf ByteArray.empty y314 x25_1), .string (⟨#[58]⟩ : ByteArray)] ?_; (with_reducible refine (strings_Split.calls (rdOf ByteArray.empty y314 x25_1) (⟨#[58]⟩ : ByteArray) t322 _ A13.out (Aside0.mk (Sh.hasM_of PQM_ (bl HB)))).mono ?_); rintro e w23 ⟨v323, rfl, ho0, hb⟩; refine ⟨_, rfl, ?_⟩; replace HO_7 := rk HO_7 hb; have HO324 := am (Kd.R_lower ho0 (below_size (bl HB))); replace HB := kH HB hb; (try clear hb); (try clear ho0); obtain ⟨Ao24, co24, eo24⟩ := Kd.R_slice HO324.out; subst eo24)
   by_cases c14 : (t322.length : Int) = 3
   rotate_left
   ·rw [if_neg c14] at H
    have c14b0 := beq_eq_false_iff_ne.mpr c14
    have c14b1 := bne_iff_ne.mpr c14
    try simp only [c14b0, c14b1]
    simp only [Option.some.injEq, Prod.mk.injEq] at H
    obtain ⟨rfl, rfl⟩ := H
    go_wp2
    go_ret2
    exact ⟨_, xE, xN, below_step HBw.out (bl HB)⟩
   rw [if_pos c14] at H
   have c14b0 := beq_iff_eq.mpr c14
   have c14b1 := bne_eq_false_iff_eq.mpr c14
   try simp only [c14b0, c14b1]
   clear c14
   replace H := ip H
   obtain ⟨c15, H⟩ := H
   have c15b0 := decide_eq_true c15
   have c15b1 : decide (1 < t322.length) = true := decide_eq_true (by omega)
   clear c15
   replace H := Option.bind_eq_some_iff.mp H
   obtain ⟨⟨t326, t327⟩, A160, H⟩ := H
   have A16 := Aside0.mk A160
   clear A160
   replace H := ip H
   obtain ⟨c17, H⟩ := H
   have c17b0 := decide_eq_true c17
   have c17b1 : decide (2 < t322.length) = true := decide_eq_true (by omega)
   clear c17
   replace H := Option.bind_eq_some_iff.mp H
   obtain ⟨⟨t329, t330⟩, A180, H⟩ := H
   have A18 := Aside0.mk A180
   clear A180
   have p325 : 0 ≤ (1 : Int) := (by omega)
   have q325 : 1 < (t322.length : Int) := of_decide_eq_true xA
   obtain ⟨ad325, e325, hx325_0⟩ := Kd.at_string (Kd.R_reads' HO324.out).2.2 1 p325 q325
   cases e325
   (try simp only [show (1 : Int).toNat = 1 from rfl, Nat.reduceMul, Nat.reduceEqDiff, Go.Addr.add, ↓reduceIte] at hx325_0)
   have qi325 : (1 < t322.length) = True := eq_true (by omega)
   (try rw [show ((1 : Int)).toNat = 1 from rfl] at hx325_0)
   replace p325 := eq_true p325
   replace q325 := eq_true q325
   go_upto_region 13 with ((with_reducible refine gg ?_); first | (refine gL 38 Tryd.func34 #[.string (rdOf ByteArray.empty t322 1)] ?_; (with_reducible refine (impl_number.calls k1 (rdOf ByteArray.empty t322 1) t326 t327 _ A16.out).mono ?_); rintro e w' ⟨rfl, ⟨nd, rfl⟩⟩; refine ⟨_, rfl, ?_⟩; have p328 : 0 ≤ (2 : Int) := (by omega); have q328 : 2 < (t322.length : Int) := of_decide_eq_true xA; obtain ⟨ad328, e328, hx328_0⟩ := Kd.at_string (Kd.R_reads' HO324.out).2.2 2 p328 q328; obtain rfl : ad325 = ad328 := (by injection e328); (try simp only [show (2 : Int).toNat = 2 from rfl, Nat.reduceMul, Nat.reduceEqDiff, Go.Addr.add, ↓reduceIte] at hx328_0); have qi328 : (2 < t322.length) = True := eq_true (by omega); (try rw [show ((2 : Int)).toNat = 2 from rfl] at hx328_0); replace p328 := eq_true p328; replace q328 := eq_true q328) | (refine gL 45 Tryd.func34 #[.string (rdOf ByteArray.empty t322 2)] ?_; (with_reducible refine (impl_number.calls k1 (rdOf ByteArray.empty t322 2) t329 t330 _ A18.out).mono ?_); rintro e w' ⟨rfl, ⟨nd, rfl⟩⟩; refine ⟨_, rfl, ?_⟩))
   by_cases c19 : t327 = true
   rotate_left
   ·replace c19 := Bool.eq_false_iff.mpr c19
    subst c19
    try simp only [Bool.not_true, Bool.not_false]
    rw [if_neg (show ¬ (false = true) by decide)] at H
    simp only [Option.some.injEq, Prod.mk.injEq] at H
    obtain ⟨rfl, rfl⟩ := H
    go_wp2
    go_ret2
    exact ⟨_, xE, xN, below_step HBw.out (bl HB)⟩
   subst c19
   try simp only [Bool.not_true, Bool.not_false]
   rw [if_pos rfl] at H
   by_cases c20 : t330 = true
   rotate_left
   ·replace c20 := Bool.eq_false_iff.mpr c20
    subst c20
    rw [if_neg (show ¬ (false = true) by decide)] at H
    simp only [Option.some.injEq, Prod.mk.injEq] at H
    obtain ⟨rfl, rfl⟩ := H
    go_wp2
    go_ret2
    exact ⟨_, xE, xN, below_step HBw.out (bl HB)⟩
   subst c20
   rw [if_pos rfl] at H
   replace H := ip H
   obtain ⟨c21, H⟩ := H
   have c21b0 := decide_eq_true c21
   have c21b1 : decide (0 < t322.length) = true := decide_eq_true (by omega)
   clear c21
   replace H := ipa H
   obtain ⟨LMc22, H⟩ := H
   obtain ⟨y332, Ny332⟩ := yA (x7_1 ++ [(⟨rdOf ByteArray.empty t322 0, t326, t329⟩ : S93)] : List (S93))
   rw [← Ny332.out] at H
   have H' := Aside0.mk H
   clear H
   have p331 : 0 ≤ (0 : Int) := (by omega)
   have q331 : 0 < (t322.length : Int) := of_decide_eq_true xA
   obtain ⟨ad331, e331, hx331_0⟩ := Kd.at_string (Kd.R_reads' HO324.out).2.2 0 p331 q331
   obtain rfl : ad325 = ad331 := (by injection e331)
   have qi331 : (0 < t322.length) = True := eq_true (by omega)
   (try rw [show ((0 : Int)).toNat = 0 from rfl] at hx331_0)
   (try rw [Addr.add_zero'] at hx331_0)
   replace p331 := eq_true p331
   replace q331 := eq_true q331
   go_wp2_with ((with_reducible refine gate_builtin (b := .append) (xs := #[.tmp 54, .tmp 61]) rfl ?_); at_builtin; refine Kd.R_append k93 (w0 := w7) w7.heap.size rfl (.tmp 54) (.tmp 61) 24 93 (.agg #[(.string ⟨#[]⟩), (.int .i64 0), (.int .i64 0)]) 32 rfl Tryd.underlying24 info93 rfl (by decide) (by omega) u7 x7_1 (⟨rdOf ByteArray.empty t322 0, t326, t329⟩ : S93) [.string (rdOf ByteArray.empty t322 0), .int .i64 t326, .int .i64 t329] (fun _ => True) (fun _ => False) rfl rfl ?aP (fun _ hk => hk.elim) ?aF ?aO ?aB ?aS ?aL ?_; (case aP => exact k93_mkM _ _ _ (⟨rdOf ByteArray.empty t322 0, t326, t329⟩ : S93)); (case aB => exact (bl HB)); (case aF => exact (fun _ _ => trivial)); (case aO => exact (ra HO_7)); (case aS => exact (below_size (bl HB))); (case aL => have := LMc22.out; omega); intro v333 w25 ho hb hg hat; rw [← Ny332.out] at ho; have n0_ := Aside0.mk (Kd.R_over' (ra HO324) (Kd.R_typed (ra HO_7)) (by decide) hg); have n1_ := Aside0.mk (hb); have n2_ := Aside0.mk (ho); clear HO324; clear HB; clear HO_7; have HO324 := n0_; have HB := n1_; have HO334 := n2_; clear n0_ n1_ n2_; clear ho hb hg hat)
   go_roundg k1
   case measure => have := HK1.out; omega
   case rel => exact ⟨(y332), (wrap64 (x25_1 + 1)), xR, H', ⟨xL HK1⟩, ⟨ra HO334⟩, ⟨bl HB⟩⟩

/-! ### impl_Side: function 69, by hand -/
def impl_Side.f (l0 : List S85) : Option (List S85) := if l0.length ≤ 1000000000 then some l0 else none
set_option maxHeartbeats 64000000 in
set_option maxRecDepth 100000 in
theorem impl_Side.nil (A0 : Option Addr) (c0 : Nat) (w : World) : Calls Tryd.prog 69 #[.slice A0 0 c0] w fun e w' => e = .returned (.slice none 0 0) ∧ w = w' := by
 go_enter Tryd.func69, Tryd.ntmps69
 go_wp2
 go_ret
 exact ⟨rfl, rfl⟩
set_option maxHeartbeats 64000000 in
set_option maxRecDepth 100000 in
theorem impl_Side.calls (A0 : Option Addr) (c0 : Nat) (l0 : List S85) (r : List S85) (w : World) (hr0 : Kd.C k85 w A0 l0.length l0) (hc0 : l0.length ≤ c0) (h : impl_Side.f l0 = some r) :
  Calls Tryd.prog 69 #[.slice A0 l0.length c0] w fun e w' => ∃ v0_ : Value, e = .returned v0_ ∧ Kd.R k85 85 w' w.heap.size (fun _ => True) v0_ r ∧ Below w.heap.size w w' := by
 unfold impl_Side.f at h
 by_cases hm : l0.length ≤ 1000000000
 rotate_left
 ·rw [if_neg hm] at h
  exact absurd h (by simp)
 rw [if_pos hm] at h
 obtain rfl := Option.some.inj h
 clear h
 rcases Nat.eq_zero_or_pos l0.length with h0 | h0
 ·obtain rfl : l0 = [] := List.eq_nil_of_length_eq_zero h0
  refine (impl_Side.nil A0 c0 w).mono ?_
  rintro e w' ⟨rfl, rfl⟩
  exact ⟨_, rfl, Kd.R_nil _ _ _ _ _, Below.refl _ _⟩
 ·obtain ⟨ad, rfl, _⟩ := hr0.2.2 h0
  have hsrc := Go.Proofs.YtgjljbaadglpnaaDoor.Cp.flat_src (fun x : S85 => [Value.string x.f0, .bool x.f1]) 2 rfl (fun _ => rfl) (by decide) (fun x c hk => k85_open hk) hr0 h0
  have hlen : ((l0.length : Int) == 0) = false := beq_eq_false_iff_ne.2 (by omega)
  have HS := Aside0.mk hsrc
  clear hsrc hr0
  go_enter Tryd.func69, Tryd.ntmps69
  go_wp2_with (first | ((with_reducible refine gate_dst (N := 9) rfl ?_); refine Kd.R_make k85 _ 85 rfl (N := 9) rfl 27 _ _ rfl (l0.length : Int) rfl rfl Tryd.underlying27 (.agg #[(.string ⟨#[]⟩), (.bool false)]) 24 (by kernel_rfl) rfl (by decide) (by omega) z85 (ok := fun _ => True) (okp := fun _ => True) (k85_mkM _ _ _ z85) (fun _ hk => hk) trivial (by omega) (by rw [Int.toNat_natCast]; omega) (Below.refl _ _) (Nat.le_refl _) ?_; intro v9 w4 ho5 hb hg_ hnew_; clear hg_ hnew_; obtain ⟨g, cap, cur, rfl, hbg, HF⟩ := Go.Proofs.YtgjljbaadglpnaaDoor.Cp.made_form ho5 h0; have HB := Aside0.mk hb; clear ho5 hb) | ((with_reducible refine gate_builtin (b := .copy) (xs := #[.tmp 10, .tmp 11]) rfl ?_); refine Go.Proofs.YtgjljbaadglpnaaDoor.Cp.wpList_copy_many rfl (.tmp 10) (.tmp 11) 27 27 rfl 85 Tryd.underlying27 2 (by kernel_rfl) g l0.length cap c0 ad rfl rfl cur 85 HF.out.1 (l0.flatMap fun x : S85 => [Value.string x.f0, .bool x.f1]) (Go.Proofs.YtgjljbaadglpnaaDoor.Cp.flat_len _ 2 (fun _ => rfl) l0) (fun j v hj => pw_cell_below HB.out (HS.out j v hj)) (by rw [Go.Proofs.YtgjljbaadglpnaaDoor.Cp.flat_len _ 2 (fun _ => rfl) l0, HF.out.2.2.2]; exact Nat.mul_le_mul_right _ HF.out.2.1) (Go.Proofs.YtgjljbaadglpnaaDoor.Cp.flat_one _ (fun x v hv => by simp only [List.mem_cons, List.not_mem_nil, or_false] at hv; rcases hv with rfl | rfl <;> rfl) l0) w.heap.size w HB.out hbg ?_; intro w5 hh5 hb5; have HH := Aside0.mk hh5; have HB5 := Aside0.mk hb5; clear hh5 hb5))
  go_ret
  exact ⟨_, rfl, Go.Proofs.YtgjljbaadglpnaaDoor.Cp.copied_row (fun x : S85 => [Value.string x.f0, .bool x.f1]) (by decide) (fun _ => rfl) (fun x => k85_mkM _ _ _ x) HF.out hbg HH.out, HB5.out⟩
/-! ### impl_sidesGet: function 36 -/
def impl_sidesGet.l0 : Nat → List (S85) → List ByteArray → Int → Int → Option ((List (S85)) × Bool)
 | 0, _, _, _, _ => none
 | k + 1, x5, x15, x16, x17 => if x17 < x16 then (if 0 ≤ x17 then (if x17 < (x15.length : Int) then (if (rdOf ByteArray.empty x15 x17).toList = ([] : List UInt8) then (some (([] : List (S85)), false)) else (if 0 < ((rdOf ByteArray.empty x15 x17).size : Int) then (if (bt (rdOf ByteArray.empty x15 x17) 0) = 108 then (if 1 ≤ ((rdOf ByteArray.empty x15 x17).size : Int) then (if x5.length < 5864062014805 then (impl_sidesGet.l0 k (x5 ++ [(⟨(rdOf ByteArray.empty x15 x17).extract 1 (rdOf ByteArray.empty x15 x17).size, ((bt (rdOf ByteArray.empty x15 x17) 0) == 108)⟩ : S85)]) x15 x16 (wrap64 (x17 + 1))) else (none)) else (none)) else (if (bt (rdOf ByteArray.empty x15 x17) 0) = 114 then (if 1 ≤ ((rdOf ByteArray.empty x15 x17).size : Int) then (if x5.length < 5864062014805 then (impl_sidesGet.l0 k (x5 ++ [(⟨(rdOf ByteArray.empty x15 x17).extract 1 (rdOf ByteArray.empty x15 x17).size, ((bt (rdOf ByteArray.empty x15 x17) 0) == 108)⟩ : S85)]) x15 x16 (wrap64 (x17 + 1))) else (none)) else (none)) else (some (([] : List (S85)), false)))) else (none))) else (none)) else (none)) else ((impl_Side.f x5).bind fun t350 => (some (t350, true)))
def impl_sidesGet.f (k : Nat) (a0 : ByteArray) : Option ((List (S85)) × Bool) := (strings_Split.f a0 (⟨#[32]⟩ : ByteArray)).bind fun t335 => (if 0 < (t335.length : Int) then (if (rdOf ByteArray.empty t335 0).toList = ([115, 105, 100, 101, 115] : List UInt8) then (if 1 ≤ (t335.length : Int) then ((some (t335.drop 1 : List ByteArray)).bind fun y339 => (impl_sidesGet.l0 k ([] : List (S85)) y339 (y339.length : Int) 0)) else (none)) else (some (([] : List (S85)), false))) else (none))
theorem impl_sidesGet.mono_l : ∀ k, (∀ y0 y1 y2 y3, LeO (impl_sidesGet.l0 k y0 y1 y2 y3) (impl_sidesGet.l0 (k + 1) y0 y1 y2 y3))
 | 0 => fun _ _ _ _ r h => by simp [impl_sidesGet.l0] at h
 | k + 1 => by
  have ih0 := impl_sidesGet.mono_l k
  ·intro y0 y1 y2 y3
   unfold impl_sidesGet.l0
   exact mo1 ih0
theorem impl_sidesGet.mono : ∀ a0 k, LeO (impl_sidesGet.f k a0) (impl_sidesGet.f (k + 1) a0) := by
 intro a0 k
 have ih0 := impl_sidesGet.mono_l k
 unfold impl_sidesGet.f
 exact mo1 ih0
def impl_sidesGet.T10 : Bool × List (List Nat × List Nat) := (true, [([], []), ([], []), ([1], [1]), ([], []), ([3], [3]), ([4], [4]), ([2, 5], [2, 5]), ([6], [6]), ([0, 7], [0, 7]), ([8, 8, 0, 1, 2, 3, 4, 5, 6, 7, 8], [0, 8])])
def impl_sidesGet.B10 : List Nat := [0, 0, 2, 0, 8, 24, 62, 126, 255, 511]
theorem impl_sidesGet.tab10 : rtab .any (opsOf Tryd.f36 10) = impl_sidesGet.T10 := by kernel_rfl
theorem impl_sidesGet.bits10 : waitsOk impl_sidesGet.T10.2 impl_sidesGet.B10 = true := by kernel_rfl
set_option maxHeartbeats 64000000 in
set_option maxRecDepth 100000 in
theorem impl_sidesGet.calls (k : Nat) (a0 : ByteArray) (r1 : List (S85)) (r2 : Bool) (w : World) (h : impl_sidesGet.f k a0 = some (r1, r2)) (PQM_ : Aside0 (Sh.HasM w)) :
  Calls Tryd.prog 36 #[.string a0] w fun e w' => ∃ v0_ : Value, e = .returned (.tuple #[v0_, .bool r2]) ∧ Kd.R k85 85 w' w.heap.size (fun _ => True) v0_ r1 ∧ Below w.heap.size w w' := by
 have hu85 := Tryd.underlying85
 have HB := Aside0.mk (Below.refl w.heap.size w)
 have H : ((strings_Split.f a0 (⟨#[32]⟩ : ByteArray)).bind fun t335 => (if 0 < (t335.length : Int) then (if (rdOf ByteArray.empty t335 0).toList = ([115, 105, 100, 101, 115] : List UInt8) then (if 1 ≤ (t335.length : Int) then ((some (t335.drop 1 : List ByteArray)).bind fun y339 => (impl_sidesGet.l0 k ([] : List (S85)) y339 (y339.length : Int) 0)) else (none)) else (some (([] : List (S85)), false))) else (none))) = some (r1, r2) := h
 clear h
 replace H := oa H
 obtain ⟨t335, A2, H⟩ := H
 replace H := ip H
 obtain ⟨c3, H⟩ := H
 have c3b0 := decide_eq_true c3
 have c3b1 : decide (0 < t335.length) = true := decide_eq_true (by omega)
 clear c3
 go_enter Tryd.func36, Tryd.ntmps36
 go_upto_if 13 with ((with_reducible refine gg ?_); refine gL 9 Tryd.func32 #[.string a0, .string (⟨#[32]⟩ : ByteArray)] ?_; (with_reducible refine (strings_Split.calls a0 (⟨#[32]⟩ : ByteArray) t335 _ A2.out (Aside0.mk (Sh.hasM_of PQM_ (bl HB)))).mono ?_); rintro e w6 ⟨v336, rfl, ho0, hb⟩; refine ⟨_, rfl, ?_⟩; have HO337 := am (Kd.R_lower ho0 (below_size (bl HB))); replace HB := kH HB hb; (try clear hb); (try clear ho0); obtain ⟨Ao7, co7, eo7⟩ := Kd.R_slice HO337.out; subst eo7; have p338 : 0 ≤ (0 : Int) := (by omega); have q338 : 0 < (t335.length : Int) := of_decide_eq_true xA; obtain ⟨ad338, e338, hx338_0⟩ := Kd.at_string (Kd.R_reads' HO337.out).2.2 0 p338 q338; cases e338; have qi338 : (0 < t335.length) = True := eq_true (by omega); (try rw [show ((0 : Int)).toNat = 0 from rfl] at hx338_0); (try rw [Addr.add_zero'] at hx338_0); replace p338 := eq_true p338; replace q338 := eq_true q338)
 by_cases c4 : (rdOf ByteArray.empty t335 0).toList = ([115, 105, 100, 101, 115] : List UInt8)
 rotate_left
 ·rw [if_neg c4] at H
  have c4b0 := beq_eq_false_iff_ne.mpr c4
  have c4b1 := bne_iff_ne.mpr c4
  try simp only [c4b0, c4b1]
  simp only [Option.some.injEq, Prod.mk.injEq] at H
  obtain ⟨rfl, rfl⟩ := H
  go_wp2
  go_ret2
  exact ⟨_, xE, xN, bl HB⟩
 rw [if_pos c4] at H
 have c4b0 := beq_iff_eq.mpr c4
 have c4b1 := bne_eq_false_iff_eq.mpr c4
 try simp only [c4b0, c4b1]
 clear c4
 replace H := ip H
 obtain ⟨c5, H⟩ := H
 have c5b0 := eq_true c5
 have c5b1 := decide_eq_true c5
 clear c5
 obtain ⟨y339, Ny339⟩ := yA (t335.drop 1 : List ByteArray)
 rw [← Ny339.out] at H
 have H' := Aside0.mk H
 clear H
 have q8 : (1 : Int) ≤ ((t335.length : Int) : Int) := of_decide_eq_true xA
 obtain ⟨i08, hi08, _, hsz8, _⟩ := info_parts info9
 have hroom8 : t335.length ≤ co7 := (Kd.R_reads' HO337.out).2.1
 have hC8 : Kd.C Kd.string _ (some ad338) t335.length t335 := (Kd.R_reads' HO337.out).2.2
 have hcut8 := cut_from (P := Tryd.prog) 56 9 .i64 Tryd.underlying56 hi08 1 hsz8 (some ad338) t335.length co7 1 (by omega) q8
 have hr8 := Kd.C_drop (m := (1 : Int).toNat) (c := co7) hC8 (by omega) hroom8
 obtain ⟨A8, hA8⟩ : ∃ A1, A1 = (if co7 = (1 : Int).toNat then (some ad338) else ((some ad338) : Option Addr).map (·.add ((1 : Int).toNat * 1))) := ⟨_, rfl⟩
 obtain ⟨c8, hc8⟩ : ∃ c1, c1 = co7 - (1 : Int).toNat := ⟨_, rfl⟩
 have hy8 : y339.length = t335.length - (1 : Int).toNat := (by rw [Ny339.out, List.length_drop] <;> omega)
 rw [show (t335).drop (1 : Int).toNat = y339 from Ny339.out.symm] at hr8
 replace hr8 : Kd.C Kd.string _ A8 y339.length y339 := (by rw [hA8]; exact hr8)
 rw [← hy8, ← hA8, ← hc8] at hcut8
 have HR342 := Aside0.mk hr8
 have HC342 := Aside0.mk (show y339.length ≤ c8 from by rw [hy8, hc8]; exact Nat.sub_le_sub_right hroom8 _)
 clear hr8 hC8 hroom8 hi08 hsz8 hc8
 have KY8 := Aside0.mk hy8
 have KA8 := Aside0.mk hA8
 clear hy8 hA8
 have KL8 := Aside0.mk (show 1 ≤ t335.length from by omega)
 replace q8 := eq_true q8
 go_wp2
 have HBw := HB
 replace PQM_ := Aside0.mk (Sh.hasM_of PQM_ HB.out)
 clear HB
 have HB := Aside0.mk (Below.refl w6.heap.size w6)
 go_loopg [5, 17] k (fun kq v5 v17 w' => ∃ (x5_1 : List (S85)) (x17_1 : Int), v17 = .int .i64 x17_1 ∧ Aside0 (impl_sidesGet.l0 kq x5_1 y339 (y339.length : Int) x17_1 = some (r1, r2)) ∧ Aside0 (kq ≤ k) ∧ Aside0 (Kd.R k85 85 w' w6.heap.size (fun _ => True) v5 x5_1) ∧ Aside0 (Below w6.heap.size w6 w'))
 case atStart => exact ⟨(([] : List (S85))), (0), xR, H', ⟨Nat.le_refl _⟩, ⟨xN⟩, ⟨bl HB⟩⟩
 case round =>
  clear H'
  try clear c1
  try clear p2
  try clear c3
  try clear c3b0
  try clear c3b1
  try clear p3
  try clear q3
  try clear hx3
  try clear qi3
  try clear c4
  try clear c4b0
  try clear c4b1
  try clear c5
  try clear c5b0
  try clear c5b1
  try clear c8
  try clear q8
  try clear hx338_0
  try clear p338
  try clear q338
  try clear q8
  obtain ⟨x5_1, x17_1, rfl, HA, HK1, HO_5, HB⟩ := hrel
  cases gk with
  | zero => exact absurd HA.out (by simp [impl_sidesGet.l0])
  | succ k1 =>
   have H := HA.out
   clear HA
   simp only [impl_sidesGet.l0] at H
   by_cases c9 : x17_1 < (y339.length : Int)
   rotate_left
   ·rw [if_neg c9] at H
    have c9b0 := decide_eq_false c9
    clear c9
    replace H := oa H
    obtain ⟨t350, A28, H⟩ := H
    simp only [Option.some.injEq, Prod.mk.injEq] at H
    obtain ⟨rfl, rfl⟩ := H
    obtain ⟨Ao29, co29, eo29⟩ := Kd.R_slice HO_5.out
    subst eo29
    go_wp2_with ((with_reducible refine gg ?_); refine gL 44 Tryd.func69 #[.slice Ao29 x5_1.length co29] ?_; (with_reducible refine (impl_Side.calls _ _ x5_1 t350 _ ?side1 ?side2 A28.out).mono ?_); (case side1 => exact cr (Kd.R_reads' HO_5.out).2.2); (case side2 => exact (Kd.R_reads' HO_5.out).2.1); rintro e w30 ⟨v351, rfl, ho0, hb⟩; refine ⟨_, rfl, ?_⟩; have HO352 := am (Kd.R_lower (Kd.R_new' ho0 (Kd.R_lt (ra HO_5))) (below_size (bl HB))); replace HO_5 := am (Kd.R_elder' (ra HO_5) (Kd.R_base ho0) hb); replace HB := kH HB hb; (try clear hb); (try clear ho0))
    go_ret2
    exact ⟨_, xE, Kd.R_lower (rM HO352 (fun _ hk => trivial)) (below_size HBw.out), below_step HBw.out (bl HB)⟩
   rw [if_pos c9] at H
   have c9b0 := decide_eq_true c9
   clear c9
   replace H := ipd H
   obtain ⟨c10b0, H⟩ := H
   replace H := ipd H
   obtain ⟨c11b0, H⟩ := H
   have p343 : 0 ≤ (x17_1 : Int) := of_decide_eq_true xA
   have q343 : x17_1 < (y339.length : Int) := of_decide_eq_true xA
   obtain ⟨ad343, e343, hx343_0⟩ := Kd.at_string HR342.out x17_1 p343 q343
   cases e343
   replace hx343_0 := hc HB hx343_0
   replace p343 := eq_true p343
   replace q343 := eq_true q343
   by_cases c12 : (rdOf ByteArray.empty y339 x17_1).toList = ([] : List UInt8)
   ·rw [if_pos c12] at H
    have c12b0 := beq_iff_eq.mpr c12
    have c12b1 := bne_eq_false_iff_eq.mpr c12
    clear c12
    simp only [Option.some.injEq, Prod.mk.injEq] at H
    obtain ⟨rfl, rfl⟩ := H
    go_wp2
    go_ret2
    exact ⟨_, xE, xN, below_step HBw.out (bl HB)⟩
   rw [if_neg c12] at H
   have c12b0 := beq_eq_false_iff_ne.mpr c12
   have c12b1 := bne_iff_ne.mpr c12
   replace H := ip H
   obtain ⟨c13, H⟩ := H
   have c13b0 := decide_eq_true c13
   have c13b1 : decide (0 < (rdOf ByteArray.empty y339 x17_1).size) = true := decide_eq_true (by omega)
   clear c13
   have p14 : 0 ≤ (0 : Int) := (by omega)
   have q14 : 0 < (rdOf ByteArray.empty y339 x17_1).size := (by have : (0 : Int) < ((rdOf ByteArray.empty y339 x17_1).size : Int) := of_decide_eq_true xA; omega)
   have hx14 : ∀ h : 0 < (rdOf ByteArray.empty y339 x17_1).size, (((rdOf ByteArray.empty y339 x17_1)[0]'h).toNat : Int) = bt (rdOf ByteArray.empty y339 x17_1) 0 := bt_at (rdOf ByteArray.empty y339 x17_1) 0
   clear p14
   have qi14 : (0 < ((rdOf ByteArray.empty y339 x17_1).size : Int)) = True := eq_true (of_decide_eq_true xA)
   replace q14 := eq_true q14
   by_cases c15 : (bt (rdOf ByteArray.empty y339 x17_1) 0) = 108
   ·rw [if_pos c15] at H
    have c15b0 := beq_iff_eq.mpr c15
    have c15b1 := bne_eq_false_iff_eq.mpr c15
    clear c15
    replace H := ip H
    obtain ⟨c16, H⟩ := H
    have c16b0 := eq_true c16
    have c16b1 := decide_eq_true c16
    clear c16
    replace H := ipa H
    obtain ⟨LMc18, H⟩ := H
    obtain ⟨y344, Ny344⟩ := yA (x5_1 ++ [(⟨(rdOf ByteArray.empty y339 x17_1).extract 1 (rdOf ByteArray.empty y339 x17_1).size, ((bt (rdOf ByteArray.empty y339 x17_1) 0) == 108)⟩ : S85)] : List (S85))
    rw [← Ny344.out] at H
    have H' := Aside0.mk H
    clear H
    try go_wp2
    replace HO_5 := am (Kd.R_drew HO_5.out)
    replace HB := am (below_drew1 HB.out)
    have p17 : 0 ≤ (0 : Int) := (by omega)
    have q17 : 0 < (rdOf ByteArray.empty y339 x17_1).size := (by have : (0 : Int) < ((rdOf ByteArray.empty y339 x17_1).size : Int) := of_decide_eq_true xA; omega)
    have hx17 : ∀ h : 0 < (rdOf ByteArray.empty y339 x17_1).size, (((rdOf ByteArray.empty y339 x17_1)[0]'h).toNat : Int) = bt (rdOf ByteArray.empty y339 x17_1) 0 := bt_at (rdOf ByteArray.empty y339 x17_1) 0
    clear p17
    have qi17 : (0 < ((rdOf ByteArray.empty y339 x17_1).size : Int)) = True := eq_true (of_decide_eq_true xA)
    replace q17 := eq_true q17
    refine start_ (n := 10) (S := fun w' => True) (ds := []) (bm 10 0) (by kernel_rfl) rfl rfl trivial (fun hHeld => ?_); refine with_tabW impl_sidesGet.tab10 impl_sidesGet.bits10 (fun HT_ HW_ => ?_)
    generalize wr.drew = w19 at HO_5 HB hHeld ⊢
    refine pA 0 33 (bm 10 1) HT_ ?_
    refine pA 1 34 (bm 10 3) HT_ ?_
    refine pA 2 35 (bm 10 7) HT_ ?_
    refine pA 3 36 (bm 10 15) HT_ ?_
    refine take_ (i := 4) (N := some 37) (v := ?_) (a' := ?_) (bm 10 31) rfl rfl (take_ofW HT_.out HW_.out (by kernel_rfl)) (fun _ _ _ h => h) (Or.inl ⟨by rfl, ?_⟩) hHeld ?_ ?_
    rotate_left
    ·intro w' _
     go_simp
     with_reducible rfl
    rotate_left
    ·simp only [Act.put, sa, s0, s1, i64_w, i32_w]
     rfl
    refine pA 5 38 (bm 10 63) HT_ ?_
    refine pA 6 39 (bm 10 127) HT_ ?_
    refine oA 7 (some 40) (bm 10 255) HT_ fun K hK => ?_
    refine value_ (w1 := ?_) (v := ?_) (by rfl) rfl ?_ ?_
    rotate_left 2
    ·go_simp
     constructor
     ·rfl
     ·rfl
    refine hK.out _ _ trivial (fun hHeld => ?_)
    clear hK K
    refine nA (some 40) ?_
    refine oA 8 (some 41) (bm 10 511) HT_ fun K hK => ?_
    refine Kd.R_append_step k85 (w0 := w6) w6.heap.size (by rfl) (.tmp 33) (.tmp 40) 27 85 (.agg #[(.string ⟨#[]⟩), (.bool false)]) 24 rfl Tryd.underlying27 info85 rfl (by decide) (by omega) u5 x5_1 (⟨(rdOf ByteArray.empty y339 x17_1).extract 1 (rdOf ByteArray.empty y339 x17_1).size, ((bt (rdOf ByteArray.empty y339 x17_1) 0) == 108)⟩ : S85) [.string ((rdOf ByteArray.empty y339 x17_1).extract 1 (rdOf ByteArray.empty y339 x17_1).size), .bool true] (fun _ => True) (fun _ => False) rfl rfl ?aP (fun _ hk => hk.elim) ?aF ?aO ?aB ?aS ?aL ?_
    (case aP => rw [c15b0]; exact k85_mkM _ _ _ (⟨(rdOf ByteArray.empty y339 x17_1).extract 1 (rdOf ByteArray.empty y339 x17_1).size, true⟩ : S85))
    (case aB => exact (bl HB))
    (case aF => exact (fun _ _ => trivial))
    (case aO => exact (ra HO_5))
    (case aS => exact (below_size (bl HB)))
    (case aL => have := LMc18.out; omega)
    intro v345 w20 ho hb hg hat
    rw [← Ny344.out] at ho
    have n0_ := Aside0.mk (hb)
    have n1_ := Aside0.mk (ho)
    clear HB
    clear HO_5
    have HB := n0_
    have HO346 := n1_
    clear n0_ n1_
    clear ho hb hg hat
    refine hK.out _ _ trivial (fun hHeld => ?_)
    clear hK K
    refine nA (some 41) ?_
    refine pA 9 5 (bm 10 1023) HT_ ?_
    refine done_ (done_of HT_.out (by kernel_rfl)) ?_
    try go_wp2
    go_roundg k1
    case measure => have := HK1.out; omega
    case rel => exact ⟨(y344), (wrap64 (x17_1 + 1)), xR, H', ⟨xL HK1⟩, ⟨ra HO346⟩, ⟨bl HB⟩⟩
   rw [if_neg c15] at H
   have c15b0 := beq_eq_false_iff_ne.mpr c15
   have c15b1 := bne_iff_ne.mpr c15
   have p21 : 0 ≤ (0 : Int) := (by omega)
   have q21 : 0 < (rdOf ByteArray.empty y339 x17_1).size := (by have : (0 : Int) < ((rdOf ByteArray.empty y339 x17_1).size : Int) := of_decide_eq_true xA; omega)
   have hx21 : ∀ h : 0 < (rdOf ByteArray.empty y339 x17_1).size, (((rdOf ByteArray.empty y339 x17_1)[0]'h).toNat : Int) = bt (rdOf ByteArray.empty y339 x17_1) 0 := bt_at (rdOf ByteArray.empty y339 x17_1) 0
   clear p21
   have qi21 : (0 < ((rdOf ByteArray.empty y339 x17_1).size : Int)) = True := eq_true (of_decide_eq_true xA)
   replace q21 := eq_true q21
   by_cases c22 : (bt (rdOf ByteArray.empty y339 x17_1) 0) = 114
   rotate_left
   ·rw [if_neg c22] at H
    have c22b0 := beq_eq_false_iff_ne.mpr c22
    have c22b1 := bne_iff_ne.mpr c22
    simp only [Option.some.injEq, Prod.mk.injEq] at H
    obtain ⟨rfl, rfl⟩ := H
    go_wp2
    go_ret2
    exact ⟨_, xE, xN, below_step HBw.out (bl HB)⟩
   rw [if_pos c22] at H
   have c22b0 := beq_iff_eq.mpr c22
   have c22b1 := bne_eq_false_iff_eq.mpr c22
   clear c22
   replace H := ip H
   obtain ⟨c23, H⟩ := H
   have c23b0 := eq_true c23
   have c23b1 := decide_eq_true c23
   clear c23
   replace H := ipa H
   obtain ⟨LMc25, H⟩ := H
   obtain ⟨y347, Ny347⟩ := yA (x5_1 ++ [(⟨(rdOf ByteArray.empty y339 x17_1).extract 1 (rdOf ByteArray.empty y339 x17_1).size, ((bt (rdOf ByteArray.empty y339 x17_1) 0) == 108)⟩ : S85)] : List (S85))
   rw [← Ny347.out] at H
   have H' := Aside0.mk H
   clear H
   try go_wp2
   replace HO_5 := am (Kd.R_drew HO_5.out)
   replace HB := am (below_drew1 HB.out)
   have p24 : 0 ≤ (0 : Int) := (by omega)
   have q24 : 0 < (rdOf ByteArray.empty y339 x17_1).size := (by have : (0 : Int) < ((rdOf ByteArray.empty y339 x17_1).size : Int) := of_decide_eq_true xA; omega)
   have hx24 : ∀ h : 0 < (rdOf ByteArray.empty y339 x17_1).size, (((rdOf ByteArray.empty y339 x17_1)[0]'h).toNat : Int) = bt (rdOf ByteArray.empty y339 x17_1) 0 := bt_at (rdOf ByteArray.empty y339 x17_1) 0
   clear p24
   have qi24 : (0 < ((rdOf ByteArray.empty y339 x17_1).size : Int)) = True := eq_true (of_decide_eq_true xA)
   replace q24 := eq_true q24
   refine start_ (n := 10) (S := fun w' => True) (ds := []) (bm 10 0) (by kernel_rfl) rfl rfl trivial (fun hHeld => ?_); refine with_tabW impl_sidesGet.tab10 impl_sidesGet.bits10 (fun HT_ HW_ => ?_)
   generalize wr.drew = w26 at HO_5 HB hHeld ⊢
   refine pA 0 33 (bm 10 1) HT_ ?_
   refine pA 1 34 (bm 10 3) HT_ ?_
   refine pA 2 35 (bm 10 7) HT_ ?_
   refine pA 3 36 (bm 10 15) HT_ ?_
   refine take_ (i := 4) (N := some 37) (v := ?_) (a' := ?_) (bm 10 31) rfl rfl (take_ofW HT_.out HW_.out (by kernel_rfl)) (fun _ _ _ h => h) (Or.inl ⟨by rfl, ?_⟩) hHeld ?_ ?_
   rotate_left
   ·intro w' _
    go_simp
    with_reducible rfl
   rotate_left
   ·simp only [Act.put, sa, s0, s1, i64_w, i32_w]
    rfl
   refine pA 5 38 (bm 10 63) HT_ ?_
   refine pA 6 39 (bm 10 127) HT_ ?_
   refine oA 7 (some 40) (bm 10 255) HT_ fun K hK => ?_
   refine value_ (w1 := ?_) (v := ?_) (by rfl) rfl ?_ ?_
   rotate_left 2
   ·go_simp
    constructor
    ·rfl
    ·rfl
   refine hK.out _ _ trivial (fun hHeld => ?_)
   clear hK K
   refine nA (some 40) ?_
   refine oA 8 (some 41) (bm 10 511) HT_ fun K hK => ?_
   refine Kd.R_append_step k85 (w0 := w6) w6.heap.size (by rfl) (.tmp 33) (.tmp 40) 27 85 (.agg #[(.string ⟨#[]⟩), (.bool false)]) 24 rfl Tryd.underlying27 info85 rfl (by decide) (by omega) u5 x5_1 (⟨(rdOf ByteArray.empty y339 x17_1).extract 1 (rdOf ByteArray.empty y339 x17_1).size, ((bt (rdOf ByteArray.empty y339 x17_1) 0) == 108)⟩ : S85) [.string ((rdOf ByteArray.empty y339 x17_1).extract 1 (rdOf ByteArray.empty y339 x17_1).size), .bool false] (fun _ => True) (fun _ => False) rfl rfl ?aP (fun _ hk => hk.elim) ?aF ?aO ?aB ?aS ?aL ?_
   (case aP => rw [c15b0]; exact k85_mkM _ _ _ (⟨(rdOf ByteArray.empty y339 x17_1).extract 1 (rdOf ByteArray.empty y339 x17_1).size, false⟩ : S85))
   (case aB => exact (bl HB))
   (case aF => exact (fun _ _ => trivial))
   (case aO => exact (ra HO_5))
   (case aS => exact (below_size (bl HB)))
   (case aL => have := LMc25.out; omega)
   intro v348 w27 ho hb hg hat
   rw [← Ny347.out] at ho
   have n0_ := Aside0.mk (hb)
   have n1_ := Aside0.mk (ho)
   clear HB
   clear HO_5
   have HB := n0_
   have HO349 := n1_
   clear n0_ n1_
   clear ho hb hg hat
   refine hK.out _ _ trivial (fun hHeld => ?_)
   clear hK K
   refine nA (some 41) ?_
   refine pA 9 5 (bm 10 1023) HT_ ?_
   refine done_ (done_of HT_.out (by kernel_rfl)) ?_
   try go_wp2
   go_roundg k1
   case measure => have := HK1.out; omega
   case rel => exact ⟨(y347), (wrap64 (x17_1 + 1)), xR, H', ⟨xL HK1⟩, ⟨ra HO349⟩, ⟨bl HB⟩⟩

end Go.Proofs.YtgjljbaadglpnaaDoor.PFnExactPaidGet
