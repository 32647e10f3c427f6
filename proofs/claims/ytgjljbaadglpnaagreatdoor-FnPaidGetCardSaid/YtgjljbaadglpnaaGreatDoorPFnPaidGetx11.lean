/- Functions of the program and what each answers: the kit's print, shortened (wip/press2.py). -/
import Derived.Test.YtgjljbaadglpnaaGreatDoorPFnPaidGetx0
import Derived.Test.YtgjljbaadglpnaaGreatDoorPFnPaidGetx4
import Derived.Test.YtgjljbaadglpnaaGreatDoorPFnPaidGetx9
namespace Go.Proofs.YtgjljbaadglpnaaGreatDoor.PFnPaidGet
open Go.Proofs.YtgjljbaadglpnaaGreatDoor.Sq Go.RowKit Go.Proofs.YtgjljbaadglpnaaGreatDoorW.PrintWords Go.Proofs.YtgjljbaadglpnaaGreatDoorW.PrintLast Go.Proofs.YtgjljbaadglpnaaGreatDoorW.PrintMore
open Kd
set_option linter.unusedVariables false
set_option linter.unusedSimpArgs false
set_option maxHeartbeats 64000000
set_option maxRecDepth 100000
def impl_Peak.f (l0 : List S93) : Option (List S93) := if l0.length ≤ 1000000000 then some l0 else none
theorem impl_Peak.nil (A0 : Option Addr) (c0 : Nat) (w : World) : Calls Tryz.prog 65 #[.slice A0 0 c0] w fun e w' => e = .returned (.slice none 0 0) ∧ w = w' := by
 go_enter Tryz.func65, Tryz.ntmps65
 go_wp2
 go_ret
 exact ⟨rfl, rfl⟩
theorem impl_Peak.calls (A0 : Option Addr) (c0 : Nat) (l0 : List S93) (r : List S93) (w : World) (hr0 : Kd.C k93 w A0 l0.length l0) (hc0 : l0.length ≤ c0) (h : impl_Peak.f l0 = some r) :
  Calls Tryz.prog 65 #[.slice A0 l0.length c0] w fun e w' => ∃ v0_ : Value, e = .returned v0_ ∧ Kd.R k93 93 w' w.heap.size (fun _ => True) v0_ r ∧ Below w.heap.size w w' := by
 unfold impl_Peak.f at h
 by_cases hm : l0.length ≤ 1000000000
 rotate_left
 ·rw [if_neg hm] at h
  exact absurd h (by simp)
 rw [if_pos hm] at h
 obtain rfl := Option.some.inj h
 clear h
 rcases Nat.eq_zero_or_pos l0.length with h0 | h0
 ·obtain rfl : l0 = [] := List.eq_nil_of_length_eq_zero h0
  refine (impl_Peak.nil A0 c0 w).mono ?_
  rintro e w' ⟨rfl, rfl⟩
  exact ⟨_, rfl, R_nil _ _ _ _ _, Below.refl _ _⟩
 ·obtain ⟨ad, rfl, _⟩ := hr0.2.2 h0
  have hsrc := Go.Proofs.YtgjljbaadglpnaaGreatDoor.Cp.flat_src (fun x : S93 => [Value.string x.f0, .int .i64 x.f1, .int .i64 x.f2]) 3 rfl (fun _ => rfl) (by decide) (fun x c hk => k93_open hk) hr0 h0
  have hlen : ((l0.length : Int) == 0) = false := beq_eq_false_iff_ne.2 (by omega)
  have HS := am hsrc
  clear hsrc hr0
  go_enter Tryz.func65, Tryz.ntmps65
  go_wp2_with (first | ((with_reducible refine gate_dst (N := 9) rfl ?_); refine R_make k93 _ 93 rfl (N := 9) rfl 25 _ _ rfl (l0.length : Int) rfl rfl Tryz.underlying25 (.agg #[(.string ⟨#[]⟩), (.int .i64 0), (.int .i64 0)]) 32 (by kernel_rfl) rfl (by decide) (by omega) z93 (ok := fun _ => True) (okp := fun _ => True) (k93_mkM _ _ _ z93) (fun _ hk => hk) trivial (by omega) (by rw [Int.toNat_natCast]; omega) (Below.refl _ _) (Nat.le_refl _) ?_; intro v9 w4 ho5 hb hg_ hnew_; clear hg_ hnew_; obtain ⟨g, cap, cur, rfl, hbg, HF⟩ := Go.Proofs.YtgjljbaadglpnaaGreatDoor.Cp.made_form ho5 h0; have HB := am hb; clear ho5 hb) | ((with_reducible refine gate_builtin (b := .copy) (xs := #[.tmp 10, .tmp 11]) rfl ?_); refine Go.Proofs.YtgjljbaadglpnaaGreatDoor.Cp.wpList_copy_many rfl (.tmp 10) (.tmp 11) 25 25 rfl 93 Tryz.underlying25 3 (by kernel_rfl) g l0.length cap c0 ad rfl rfl cur 93 HF.out.1 (l0.flatMap fun x : S93 => [Value.string x.f0, .int .i64 x.f1, .int .i64 x.f2]) (Go.Proofs.YtgjljbaadglpnaaGreatDoor.Cp.flat_len _ 3 (fun _ => rfl) l0) (fun j v hj => pw_cell_below HB.out (HS.out j v hj)) (by rw [Go.Proofs.YtgjljbaadglpnaaGreatDoor.Cp.flat_len _ 3 (fun _ => rfl) l0, HF.out.2.2.2]; exact Nat.mul_le_mul_right _ HF.out.2.1) (Go.Proofs.YtgjljbaadglpnaaGreatDoor.Cp.flat_one _ (fun x v hv => by simp only [List.mem_cons, List.not_mem_nil, or_false] at hv; rcases hv with rfl | rfl | rfl <;> rfl) l0) w.heap.size w HB.out hbg ?_; intro w5 hh5 hb5; have HH := am hh5; have HB5 := am hb5; clear hh5 hb5))
  go_ret
  exact ⟨_, rfl, Go.Proofs.YtgjljbaadglpnaaGreatDoor.Cp.copied_row (fun x : S93 => [Value.string x.f0, .int .i64 x.f1, .int .i64 x.f2]) (by decide) (fun _ => rfl) (fun x => k93_mkM _ _ _ x) HF.out hbg HH.out, HB5.out⟩
def impl_peaksGet.l0 : Nat → List S93 → List ByteArray → Int → Int → Option ((List S93) × Bool)
 | 0, _, _, _, _ => none
 | k + 1, x7, x23, x24, x25 => if x25 < x24 then (if 0 ≤ x25 then (if x25 < (x23.length : Int) then ((strings_Split.f (rdOf ByteArray.empty x23 x25) (⟨#[58]⟩ : ByteArray)).bind fun t175 => (if (t175.length : Int) = 3 then (if 1 < (t175.length : Int) then ((impl_number.f k (rdOf ByteArray.empty t175 1)).bind fun bt179 => (if 2 < (t175.length : Int) then ((impl_number.f k (rdOf ByteArray.empty t175 2)).bind fun bt182 => (if bt179.2 = true then (if bt182.2 = true then (if 0 < (t175.length : Int) then (if x7.length < 4398046511104 then (impl_peaksGet.l0 k (x7 ++ [(⟨rdOf ByteArray.empty t175 0, bt179.1, bt182.1⟩ : S93)]) x23 x24 (wrap64 (x25 + 1))) else (none)) else (none)) else (some (([] : List S93), false))) else (some (([] : List S93), false)))) else (none))) else (none)) else (some (([] : List S93), false)))) else (none)) else (none)) else ((impl_Peak.f x7).bind fun t171 => (some (t171, true)))
def impl_peaksGet.f (k : Nat) (a0 : ByteArray) (a1 : ByteArray) : Option ((List S93) × Bool) := (strings_Split.f a1 (⟨#[32]⟩ : ByteArray)).bind fun t163 => (if 0 < (t163.length : Int) then (if (rdOf ByteArray.empty t163 0).toList = a0.toList then (if 1 ≤ (t163.length : Int) then ((some (t163.drop 1 : List ByteArray)).bind fun y167 => (impl_peaksGet.l0 k ([] : List S93) y167 (y167.length : Int) 0)) else (none)) else (some (([] : List S93), false))) else (none))
theorem impl_peaksGet.calls (k : Nat) (a0 : ByteArray) (a1 : ByteArray) (r1 : List S93) (r2 : Bool) (w : World) (h : impl_peaksGet.f k a0 a1 = some (r1, r2)) (PQM_ : Aside0 (Sh.HasM w)) :
  Calls Tryz.prog 28 #[.string a0, .string a1] w fun e w' => ∃ v0_ : Value, e = .returned (.tuple #[v0_, .bool r2]) ∧ Kd.R k93 93 w' w.heap.size (fun _ => True) v0_ r1 ∧ Below w.heap.size w w' := by
 have hu93 := Tryz.underlying93
 have HB := am (Below.refl w.heap.size w)
 have H : ((strings_Split.f a1 (⟨#[32]⟩ : ByteArray)).bind fun t163 => (if 0 < (t163.length : Int) then (if (rdOf ByteArray.empty t163 0).toList = a0.toList then (if 1 ≤ (t163.length : Int) then ((some (t163.drop 1 : List ByteArray)).bind fun y167 => (impl_peaksGet.l0 k ([] : List S93) y167 (y167.length : Int) 0)) else (none)) else (some (([] : List S93), false))) else (none))) = some (r1, r2) := h
 clear h
 replace ⟨t163, A3, H⟩ := oa H
 replace ⟨c4, H⟩ := ip H
 have c4b0 := dt c4
 have c4b1 : decide (0 < t163.length) = true := dt (by omega)
 clear c4
 go_enter Tryz.func28, Tryz.ntmps28
 go_upto_if 21 with ((with_reducible refine gg ?_); refine gL 16 Tryz.func24 #[.string a1, .string (⟨#[32]⟩ : ByteArray)] ?_; (with_reducible refine (strings_Split.calls a1 (⟨#[32]⟩ : ByteArray) t163 _ A3.out (am (Sh.hasM_of PQM_ (bl HB)))).mono ?_); rintro e w7 ⟨v164, rfl, ho0, hb⟩; refine ⟨_, rfl, ?_⟩; have HO165 := am (R_lower ho0 (below_size (bl HB))); replace HB := kH HB hb; (try clear hb); (try clear ho0); obtain ⟨Ao8, co8, rfl⟩ := R_slice HO165.out; have p166 : 0 ≤ (0 : Int) := (by omega); have q166 : 0 < (t163.length : Int) := oX; obtain ⟨ad166, e166, hx166_0⟩ := at_string (R_reads' HO165.out).2.2 0 p166 q166; cases e166; have qi166 : (0 < t163.length) = True := eq_true (by omega); (try rw [show ((0 : Int)).toNat = 0 from rfl] at hx166_0); (try rw [Addr.add_zero'] at hx166_0); replace ⟨p166, q166⟩ := eT p166 q166)
 by_cases c5 : (rdOf ByteArray.empty t163 0).toList = a0.toList
 rotate_left
 ·rw [if_neg c5] at H
  have c5b0 := beq_eq_false_iff_ne.mpr c5
  have c5b1 := bne_iff_ne.mpr c5
  try simp only [c5b0, c5b1, Bool.not_true, Bool.not_false]
  simp only [Option.some.injEq, Prod.mk.injEq] at H
  obtain ⟨rfl, rfl⟩ := H
  go_wp2
  go_ret2
  exact ⟨_, xE, xN, bl HB⟩
 rw [if_pos c5] at H
 have c5b0 := beq_iff_eq.mpr c5
 have c5b1 := bne_eq_false_iff_eq.mpr c5
 try simp only [c5b0, c5b1, Bool.not_true, Bool.not_false]
 clear c5
 replace ⟨c6, H⟩ := ip H
 have c6b0 := eq_true c6
 have c6b1 := dt c6
 clear c6
 obtain ⟨y167, Ny167⟩ := yA (t163.drop 1 : List ByteArray)
 rw [← Ny167.out] at H
 have H' := am H
 clear H
 have q9 : (1 : Int) ≤ ((t163.length : Int) : Int) := oX
 obtain ⟨i09, hi09, _, hsz9, _⟩ := info_parts info9
 have hroom9 : t163.length ≤ co8 := (R_reads' HO165.out).2.1
 have hC9 : Kd.C Kd.string _ (some ad166) t163.length t163 := (R_reads' HO165.out).2.2
 have hcut9 := cut_from (P := Tryz.prog) 53 9 .i64 Tryz.underlying53 hi09 1 hsz9 (some ad166) t163.length co8 1 (by omega) q9
 have hr9 := C_drop (m := (1 : Int).toNat) (c := co8) hC9 (by omega) hroom9
 obtain ⟨A9, hA9⟩ : ∃ A1, A1 = (if co8 = (1 : Int).toNat then (some ad166) else ((some ad166) : Option Addr).map (·.add ((1 : Int).toNat * 1))) := ⟨_, rfl⟩
 obtain ⟨c9, hc9⟩ : ∃ c1, c1 = co8 - (1 : Int).toNat := ⟨_, rfl⟩
 have hy9 : y167.length = t163.length - (1 : Int).toNat := (by rw [Ny167.out, List.length_drop] <;> omega)
 rw [show (t163).drop (1 : Int).toNat = y167 from Ny167.out.symm] at hr9
 replace hr9 : Kd.C Kd.string _ A9 y167.length y167 := (by rw [hA9]; exact hr9)
 rw [← hy9, ← hA9, ← hc9] at hcut9
 have HR170 := am hr9
 have HC170 := am (show y167.length ≤ c9 from by rw [hy9, hc9]; exact Nat.sub_le_sub_right hroom9 _)
 clear hr9 hC9 hroom9 hi09 hsz9 hc9
 have KY9 := am hy9
 have KA9 := am hA9
 clear hy9 hA9
 have KL9 := am (show 1 ≤ t163.length from by omega)
 replace q9 := eq_true q9
 go_wp2
 have HBw := HB
 replace PQM_ := am (Sh.hasM_of PQM_ HB.out)
 clear HB
 have HB := am (Below.refl w7.heap.size w7)
 go_loopg [7, 25] k (fun kq v7 v25 w' => ∃ (x7_1 : List S93) (x25_1 : Int), v25 = .int .i64 x25_1 ∧ Aside0 (impl_peaksGet.l0 kq x7_1 y167 (y167.length : Int) x25_1 = some (r1, r2)) ∧ Aside0 (kq ≤ k) ∧ Aside0 (Kd.R k93 93 w' w7.heap.size (fun _ => True) v7 x7_1) ∧ Aside0 (Below w7.heap.size w7 w'))
 case atStart => exact ⟨(([] : List S93)), (0), xR, H', ⟨Nat.le_refl _⟩, ⟨xN⟩, ⟨bl HB⟩⟩
 case round =>
  clear H'
  try clear c4 c4b0 c4b1 c5 c5b0 c5b1 c6 c6b0 c6b1 c9 q9 hx166_0 p166 q166
  obtain ⟨x7_1, x25_1, rfl, HA, HK1, HO_7, HB⟩ := hrel
  cases gk with
  | zero => exact absurd HA.out (by simp [impl_peaksGet.l0])
  | succ k1 =>
   have H := HA.out
   clear HA
   simp only [impl_peaksGet.l0] at H
   by_cases c10 : x25_1 < (y167.length : Int)
   rotate_left
   ·rw [if_neg c10] at H
    have c10b0 := df c10
    clear c10
    replace ⟨t171, A32, H⟩ := oa H
    simp only [Option.some.injEq, Prod.mk.injEq] at H
    obtain ⟨rfl, rfl⟩ := H
    obtain ⟨Ao33, co33, rfl⟩ := R_slice HO_7.out
    go_wp2_with ((with_reducible refine gg ?_); refine gL 65 Tryz.func65 #[.slice Ao33 x7_1.length co33] ?_; (with_reducible refine (impl_Peak.calls _ _ x7_1 t171 _ ?side1 ?side2 A32.out).mono ?_); (case side1 => exact cr (R_reads' HO_7.out).2.2); (case side2 => exact sl HO_7); rintro e w34 ⟨v172, rfl, ho0, hb⟩; refine ⟨_, rfl, ?_⟩; have HO173 := am (R_lower (R_new' ho0 (R_lt (ra HO_7))) (below_size (bl HB))); replace HO_7 := am (R_elder' (ra HO_7) (R_base ho0) hb); replace HB := kH HB hb; (try clear hb); (try clear ho0))
    go_ret2
    exact ⟨_, xE, R_lower (rM HO173 (fun _ hk => trivial)) (below_size HBw.out), below_step HBw.out (bl HB)⟩
   rw [if_pos c10] at H
   have c10b0 := dt c10
   clear c10
   replace ⟨c11b0, H⟩ := ipd H
   replace ⟨c12b0, H⟩ := ipd H
   replace ⟨t175, A13, H⟩ := oa H
   have p174 : 0 ≤ (x25_1 : Int) := oX
   have q174 : x25_1 < (y167.length : Int) := oX
   obtain ⟨ad174, e174, hx174_0⟩ := at_string (hC HB HR170.out) x25_1 p174 q174
   cases e174
   replace ⟨p174, q174⟩ := eT p174 q174
   go_upto_if 33 with ((with_reducible refine gg ?_); refine gL 30 Tryz.func24 #[.string (rdOf ByteArray.empty y167 x25_1), .string (⟨#[58]⟩ : ByteArray)] ?_; (with_reducible refine (strings_Split.calls (rdOf ByteArray.empty y167 x25_1) (⟨#[58]⟩ : ByteArray) t175 _ A13.out (am (Sh.hasM_of PQM_ (bl HB)))).mono ?_); rintro e w23 ⟨v176, rfl, ho0, hb⟩; refine ⟨_, rfl, ?_⟩; replace HO_7 := rk HO_7 hb; have HO177 := am (R_lower ho0 (below_size (bl HB))); replace HB := kH HB hb; (try clear hb); (try clear ho0); obtain ⟨Ao24, co24, rfl⟩ := R_slice HO177.out)
   by_cases c14 : (t175.length : Int) = 3
   rotate_left
   ·rw [if_neg c14] at H
    have c14b0 := beq_eq_false_iff_ne.mpr c14
    have c14b1 := bne_iff_ne.mpr c14
    try simp only [c14b0, c14b1, Bool.not_true, Bool.not_false]
    simp only [Option.some.injEq, Prod.mk.injEq] at H
    obtain ⟨rfl, rfl⟩ := H
    go_wp2
    go_ret2
    exact ⟨_, xE, xN, below_step HBw.out (bl HB)⟩
   rw [if_pos c14] at H
   have c14b0 := beq_iff_eq.mpr c14
   have c14b1 := bne_eq_false_iff_eq.mpr c14
   try simp only [c14b0, c14b1, Bool.not_true, Bool.not_false]
   clear c14
   replace ⟨c15, H⟩ := ip H
   have c15b0 := dt c15
   have c15b1 : decide (1 < t175.length) = true := dt (by omega)
   clear c15
   replace H := Option.bind_eq_some_iff.mp H
   obtain ⟨⟨t179, t180⟩, A160, H⟩ := H
   have A16 := am A160
   clear A160
   replace ⟨c17, H⟩ := ip H
   have c17b0 := dt c17
   have c17b1 : decide (2 < t175.length) = true := dt (by omega)
   clear c17
   replace H := Option.bind_eq_some_iff.mp H
   obtain ⟨⟨t182, t183⟩, A180, H⟩ := H
   have A18 := am A180
   clear A180
   have p178 : 0 ≤ (1 : Int) := (by omega)
   have q178 : 1 < (t175.length : Int) := oX
   obtain ⟨ad178, e178, hx178_0⟩ := at_string (R_reads' HO177.out).2.2 1 p178 q178
   cases e178
   (try simp only [show (1 : Int).toNat = 1 from rfl, Nat.reduceMul, Nat.reduceEqDiff, Go.Addr.add, ↓reduceIte] at hx178_0)
   have qi178 : (1 < t175.length) = True := eq_true (by omega)
   (try rw [show ((1 : Int)).toNat = 1 from rfl] at hx178_0)
   replace ⟨p178, q178⟩ := eT p178 q178
   go_upto_region 13 with ((with_reducible refine gg ?_); first | (refine gL 38 Tryz.func26 #[.string (rdOf ByteArray.empty t175 1)] ?_; (with_reducible refine (impl_number.calls k1 (rdOf ByteArray.empty t175 1) t179 t180 _ A16.out).mono ?_); rintro e w' ⟨rfl, ⟨nd, rfl⟩⟩; refine ⟨_, rfl, ?_⟩; have p181 : 0 ≤ (2 : Int) := (by omega); have q181 : 2 < (t175.length : Int) := oX; obtain ⟨ad181, e181, hx181_0⟩ := at_string (R_reads' HO177.out).2.2 2 p181 q181; obtain rfl : ad178 = ad181 := (by injection e181); (try simp only [show (2 : Int).toNat = 2 from rfl, Nat.reduceMul, Nat.reduceEqDiff, Go.Addr.add, ↓reduceIte] at hx181_0); have qi181 : (2 < t175.length) = True := eq_true (by omega); (try rw [show ((2 : Int)).toNat = 2 from rfl] at hx181_0); replace ⟨p181, q181⟩ := eT p181 q181) | (refine gL 45 Tryz.func26 #[.string (rdOf ByteArray.empty t175 2)] ?_; (with_reducible refine (impl_number.calls k1 (rdOf ByteArray.empty t175 2) t182 t183 _ A18.out).mono ?_); rintro e w' ⟨rfl, ⟨nd, rfl⟩⟩; refine ⟨_, rfl, ?_⟩))
   by_cases c19 : t180 = true
   rotate_left
   ·replace c19 := bF c19
    subst c19
    try simp only [Bool.not_true, Bool.not_false]
    rw [if_neg nF] at H
    simp only [Option.some.injEq, Prod.mk.injEq] at H
    obtain ⟨rfl, rfl⟩ := H
    go_wp2
    go_ret2
    exact ⟨_, xE, xN, below_step HBw.out (bl HB)⟩
   subst c19
   try simp only [Bool.not_true, Bool.not_false]
   rw [if_pos rfl] at H
   by_cases c20 : t183 = true
   rotate_left
   ·replace c20 := bF c20
    subst c20
    rw [if_neg nF] at H
    simp only [Option.some.injEq, Prod.mk.injEq] at H
    obtain ⟨rfl, rfl⟩ := H
    go_wp2
    go_ret2
    exact ⟨_, xE, xN, below_step HBw.out (bl HB)⟩
   subst c20
   rw [if_pos rfl] at H
   replace ⟨c21, H⟩ := ip H
   have c21b0 := dt c21
   have c21b1 : decide (0 < t175.length) = true := dt (by omega)
   clear c21
   replace ⟨LMc22, H⟩ := ipa H
   obtain ⟨y185, Ny185⟩ := yA (x7_1 ++ [(⟨rdOf ByteArray.empty t175 0, t179, t182⟩ : S93)] : List S93)
   rw [← Ny185.out] at H
   have H' := am H
   clear H
   have p184 : 0 ≤ (0 : Int) := (by omega)
   have q184 : 0 < (t175.length : Int) := oX
   obtain ⟨ad184, e184, hx184_0⟩ := at_string (R_reads' HO177.out).2.2 0 p184 q184
   obtain rfl : ad178 = ad184 := (by injection e184)
   have qi184 : (0 < t175.length) = True := eq_true (by omega)
   (try rw [show ((0 : Int)).toNat = 0 from rfl] at hx184_0)
   (try rw [Addr.add_zero'] at hx184_0)
   replace ⟨p184, q184⟩ := eT p184 q184
   go_wp2_with ((with_reducible refine gate_builtin (b := .append) (xs := #[.tmp 54, .tmp 61]) rfl ?_); at_builtin; refine R_append k93 (w0 := w7) w7.heap.size rfl (.tmp 54) (.tmp 61) 25 93 (.agg #[(.string ⟨#[]⟩), (.int .i64 0), (.int .i64 0)]) 32 rfl Tryz.underlying25 info93 rfl (by decide) (by omega) u7 x7_1 (⟨rdOf ByteArray.empty t175 0, t179, t182⟩ : S93) [.string (rdOf ByteArray.empty t175 0), .int .i64 t179, .int .i64 t182] (fun _ => True) (fun _ => False) rfl rfl ?aP (fun _ hk => hk.elim) ?aF ?aO ?aB ?aS ?aL ?_; (case aP => exact k93_mkM _ _ _ (⟨rdOf ByteArray.empty t175 0, t179, t182⟩ : S93)); (case aB => exact (bl HB)); (case aF => exact (fun _ _ => trivial)); (case aO => exact (ra HO_7)); (case aS => exact (below_size (bl HB))); (case aL => have := LMc22.out; omega); intro v186 w25 ho hb hg hat; rw [← Ny185.out] at ho; have n0_ := am (R_over' (ra HO177) (R_typed (ra HO_7)) (by decide) hg); have n1_ := am (hb); have n2_ := am (ho); clear HO177; clear HB; clear HO_7; have HO177 := n0_; have HB := n1_; have HO187 := n2_; clear n0_ n1_ n2_; clear ho hb hg hat)
   go_roundg k1
   case measure => have := HK1.out; omega
   case rel => exact ⟨(y185), (wrap64 (x25_1 + 1)), xR, H', ⟨xL HK1⟩, ⟨ra HO187⟩, ⟨bl HB⟩⟩
def impl_Side.f (l0 : List S48) : Option (List S48) := if l0.length ≤ 1000000000 then some l0 else none
theorem impl_Side.nil (A0 : Option Addr) (c0 : Nat) (w : World) : Calls Tryz.prog 66 #[.slice A0 0 c0] w fun e w' => e = .returned (.slice none 0 0) ∧ w = w' := by
 go_enter Tryz.func66, Tryz.ntmps66
 go_wp2
 go_ret
 exact ⟨rfl, rfl⟩
theorem impl_Side.calls (A0 : Option Addr) (c0 : Nat) (l0 : List S48) (r : List S48) (w : World) (hr0 : Kd.C k48 w A0 l0.length l0) (hc0 : l0.length ≤ c0) (h : impl_Side.f l0 = some r) :
  Calls Tryz.prog 66 #[.slice A0 l0.length c0] w fun e w' => ∃ v0_ : Value, e = .returned v0_ ∧ Kd.R k48 48 w' w.heap.size (fun _ => True) v0_ r ∧ Below w.heap.size w w' := by
 unfold impl_Side.f at h
 by_cases hm : l0.length ≤ 1000000000
 rotate_left
 ·rw [if_neg hm] at h
  exact absurd h (by simp)
 rw [if_pos hm] at h
 obtain rfl := Option.some.inj h
 clear h
 rcases Nat.eq_zero_or_pos l0.length with h0 | h0
 ·obtain rfl : l0 = [] := List.eq_nil_of_length_eq_zero h0
  refine (impl_Side.nil A0 c0 w).mono ?_
  rintro e w' ⟨rfl, rfl⟩
  exact ⟨_, rfl, R_nil _ _ _ _ _, Below.refl _ _⟩
 ·obtain ⟨ad, rfl, _⟩ := hr0.2.2 h0
  have hsrc := Go.Proofs.YtgjljbaadglpnaaGreatDoor.Cp.flat_src (fun x : S48 => [Value.string x.f0, .bool x.f1]) 2 rfl (fun _ => rfl) (by decide) (fun x c hk => k48_open hk) hr0 h0
  have hlen : ((l0.length : Int) == 0) = false := beq_eq_false_iff_ne.2 (by omega)
  have HS := am hsrc
  clear hsrc hr0
  go_enter Tryz.func66, Tryz.ntmps66
  go_wp2_with (first | ((with_reducible refine gate_dst (N := 9) rfl ?_); refine R_make k48 _ 48 rfl (N := 9) rfl 28 _ _ rfl (l0.length : Int) rfl rfl Tryz.underlying28 (.agg #[(.string ⟨#[]⟩), (.bool false)]) 24 (by kernel_rfl) rfl (by decide) (by omega) z48 (ok := fun _ => True) (okp := fun _ => True) (k48_mkM _ _ _ z48) (fun _ hk => hk) trivial (by omega) (by rw [Int.toNat_natCast]; omega) (Below.refl _ _) (Nat.le_refl _) ?_; intro v9 w4 ho5 hb hg_ hnew_; clear hg_ hnew_; obtain ⟨g, cap, cur, rfl, hbg, HF⟩ := Go.Proofs.YtgjljbaadglpnaaGreatDoor.Cp.made_form ho5 h0; have HB := am hb; clear ho5 hb) | ((with_reducible refine gate_builtin (b := .copy) (xs := #[.tmp 10, .tmp 11]) rfl ?_); refine Go.Proofs.YtgjljbaadglpnaaGreatDoor.Cp.wpList_copy_many rfl (.tmp 10) (.tmp 11) 28 28 rfl 48 Tryz.underlying28 2 (by kernel_rfl) g l0.length cap c0 ad rfl rfl cur 48 HF.out.1 (l0.flatMap fun x : S48 => [Value.string x.f0, .bool x.f1]) (Go.Proofs.YtgjljbaadglpnaaGreatDoor.Cp.flat_len _ 2 (fun _ => rfl) l0) (fun j v hj => pw_cell_below HB.out (HS.out j v hj)) (by rw [Go.Proofs.YtgjljbaadglpnaaGreatDoor.Cp.flat_len _ 2 (fun _ => rfl) l0, HF.out.2.2.2]; exact Nat.mul_le_mul_right _ HF.out.2.1) (Go.Proofs.YtgjljbaadglpnaaGreatDoor.Cp.flat_one _ (fun x v hv => by simp only [List.mem_cons, List.not_mem_nil, or_false] at hv; rcases hv with rfl | rfl <;> rfl) l0) w.heap.size w HB.out hbg ?_; intro w5 hh5 hb5; have HH := am hh5; have HB5 := am hb5; clear hh5 hb5))
  go_ret
  exact ⟨_, rfl, Go.Proofs.YtgjljbaadglpnaaGreatDoor.Cp.copied_row (fun x : S48 => [Value.string x.f0, .bool x.f1]) (by decide) (fun _ => rfl) (fun x => k48_mkM _ _ _ x) HF.out hbg HH.out, HB5.out⟩
def impl_sidesGet.l0 : Nat → List S48 → List ByteArray → Int → Int → Option ((List S48) × Bool)
 | 0, _, _, _, _ => none
 | k + 1, x5, x15, x16, x17 => if x17 < x16 then (if 0 ≤ x17 then (if x17 < (x15.length : Int) then (if (rdOf ByteArray.empty x15 x17).toList = ([] : List UInt8) then (some (([] : List S48), false)) else (if 0 < ((rdOf ByteArray.empty x15 x17).size : Int) then (if (bt (rdOf ByteArray.empty x15 x17) 0) = 108 then (if 1 ≤ ((rdOf ByteArray.empty x15 x17).size : Int) then (if x5.length < 5864062014805 then (impl_sidesGet.l0 k (x5 ++ [(⟨(rdOf ByteArray.empty x15 x17).extract 1 (rdOf ByteArray.empty x15 x17).size, ((bt (rdOf ByteArray.empty x15 x17) 0) == 108)⟩ : S48)]) x15 x16 (wrap64 (x17 + 1))) else (none)) else (none)) else (if (bt (rdOf ByteArray.empty x15 x17) 0) = 114 then (if 1 ≤ ((rdOf ByteArray.empty x15 x17).size : Int) then (if x5.length < 5864062014805 then (impl_sidesGet.l0 k (x5 ++ [(⟨(rdOf ByteArray.empty x15 x17).extract 1 (rdOf ByteArray.empty x15 x17).size, ((bt (rdOf ByteArray.empty x15 x17) 0) == 108)⟩ : S48)]) x15 x16 (wrap64 (x17 + 1))) else (none)) else (none)) else (some (([] : List S48), false)))) else (none))) else (none)) else (none)) else ((impl_Side.f x5).bind fun t203 => (some (t203, true)))
def impl_sidesGet.f (k : Nat) (a0 : ByteArray) : Option ((List S48) × Bool) := (strings_Split.f a0 (⟨#[32]⟩ : ByteArray)).bind fun t188 => (if 0 < (t188.length : Int) then (if (rdOf ByteArray.empty t188 0).toList = ([115, 105, 100, 101, 115] : List UInt8) then (if 1 ≤ (t188.length : Int) then ((some (t188.drop 1 : List ByteArray)).bind fun y192 => (impl_sidesGet.l0 k ([] : List S48) y192 (y192.length : Int) 0)) else (none)) else (some (([] : List S48), false))) else (none))
def impl_sidesGet.T10 : Bool × List (List Nat × List Nat) := (true, [([], []), ([], []), ([1], [1]), ([], []), ([3], [3]), ([4], [4]), ([2, 5], [2, 5]), ([6], [6]), ([0, 7], [0, 7]), ([8, 8, 0, 1, 2, 3, 4, 5, 6, 7, 8], [0, 8])])
def impl_sidesGet.B10 : List Nat := [0, 0, 2, 0, 8, 24, 62, 126, 255, 511]
theorem impl_sidesGet.tab10 : rtab .any (opsOf Tryz.f29 10) = impl_sidesGet.T10 := by kernel_rfl
theorem impl_sidesGet.bits10 : waitsOk impl_sidesGet.T10.2 impl_sidesGet.B10 = true := by kernel_rfl
theorem impl_sidesGet.calls (k : Nat) (a0 : ByteArray) (r1 : List S48) (r2 : Bool) (w : World) (h : impl_sidesGet.f k a0 = some (r1, r2)) (PQM_ : Aside0 (Sh.HasM w)) :
  Calls Tryz.prog 29 #[.string a0] w fun e w' => ∃ v0_ : Value, e = .returned (.tuple #[v0_, .bool r2]) ∧ Kd.R k48 48 w' w.heap.size (fun _ => True) v0_ r1 ∧ Below w.heap.size w w' := by
 have hu48 := Tryz.underlying48
 have HB := am (Below.refl w.heap.size w)
 have H : ((strings_Split.f a0 (⟨#[32]⟩ : ByteArray)).bind fun t188 => (if 0 < (t188.length : Int) then (if (rdOf ByteArray.empty t188 0).toList = ([115, 105, 100, 101, 115] : List UInt8) then (if 1 ≤ (t188.length : Int) then ((some (t188.drop 1 : List ByteArray)).bind fun y192 => (impl_sidesGet.l0 k ([] : List S48) y192 (y192.length : Int) 0)) else (none)) else (some (([] : List S48), false))) else (none))) = some (r1, r2) := h
 clear h
 replace ⟨t188, A2, H⟩ := oa H
 replace ⟨c3, H⟩ := ip H
 have c3b0 := dt c3
 have c3b1 : decide (0 < t188.length) = true := dt (by omega)
 clear c3
 go_enter Tryz.func29, Tryz.ntmps29
 go_upto_if 13 with ((with_reducible refine gg ?_); refine gL 9 Tryz.func24 #[.string a0, .string (⟨#[32]⟩ : ByteArray)] ?_; (with_reducible refine (strings_Split.calls a0 (⟨#[32]⟩ : ByteArray) t188 _ A2.out (am (Sh.hasM_of PQM_ (bl HB)))).mono ?_); rintro e w6 ⟨v189, rfl, ho0, hb⟩; refine ⟨_, rfl, ?_⟩; have HO190 := am (R_lower ho0 (below_size (bl HB))); replace HB := kH HB hb; (try clear hb); (try clear ho0); obtain ⟨Ao7, co7, rfl⟩ := R_slice HO190.out; have p191 : 0 ≤ (0 : Int) := (by omega); have q191 : 0 < (t188.length : Int) := oX; obtain ⟨ad191, e191, hx191_0⟩ := at_string (R_reads' HO190.out).2.2 0 p191 q191; cases e191; have qi191 : (0 < t188.length) = True := eq_true (by omega); (try rw [show ((0 : Int)).toNat = 0 from rfl] at hx191_0); (try rw [Addr.add_zero'] at hx191_0); replace ⟨p191, q191⟩ := eT p191 q191)
 by_cases c4 : (rdOf ByteArray.empty t188 0).toList = ([115, 105, 100, 101, 115] : List UInt8)
 rotate_left
 ·rw [if_neg c4] at H
  have c4b0 := beq_eq_false_iff_ne.mpr c4
  have c4b1 := bne_iff_ne.mpr c4
  try simp only [c4b0, c4b1, Bool.not_true, Bool.not_false]
  simp only [Option.some.injEq, Prod.mk.injEq] at H
  obtain ⟨rfl, rfl⟩ := H
  go_wp2
  go_ret2
  exact ⟨_, xE, xN, bl HB⟩
 rw [if_pos c4] at H
 have c4b0 := beq_iff_eq.mpr c4
 have c4b1 := bne_eq_false_iff_eq.mpr c4
 try simp only [c4b0, c4b1, Bool.not_true, Bool.not_false]
 clear c4
 replace ⟨c5, H⟩ := ip H
 have c5b0 := eq_true c5
 have c5b1 := dt c5
 clear c5
 obtain ⟨y192, Ny192⟩ := yA (t188.drop 1 : List ByteArray)
 rw [← Ny192.out] at H
 have H' := am H
 clear H
 have q8 : (1 : Int) ≤ ((t188.length : Int) : Int) := oX
 obtain ⟨i08, hi08, _, hsz8, _⟩ := info_parts info9
 have hroom8 : t188.length ≤ co7 := (R_reads' HO190.out).2.1
 have hC8 : Kd.C Kd.string _ (some ad191) t188.length t188 := (R_reads' HO190.out).2.2
 have hcut8 := cut_from (P := Tryz.prog) 53 9 .i64 Tryz.underlying53 hi08 1 hsz8 (some ad191) t188.length co7 1 (by omega) q8
 have hr8 := C_drop (m := (1 : Int).toNat) (c := co7) hC8 (by omega) hroom8
 obtain ⟨A8, hA8⟩ : ∃ A1, A1 = (if co7 = (1 : Int).toNat then (some ad191) else ((some ad191) : Option Addr).map (·.add ((1 : Int).toNat * 1))) := ⟨_, rfl⟩
 obtain ⟨c8, hc8⟩ : ∃ c1, c1 = co7 - (1 : Int).toNat := ⟨_, rfl⟩
 have hy8 : y192.length = t188.length - (1 : Int).toNat := (by rw [Ny192.out, List.length_drop] <;> omega)
 rw [show (t188).drop (1 : Int).toNat = y192 from Ny192.out.symm] at hr8
 replace hr8 : Kd.C Kd.string _ A8 y192.length y192 := (by rw [hA8]; exact hr8)
 rw [← hy8, ← hA8, ← hc8] at hcut8
 have HR195 := am hr8
 have HC195 := am (show y192.length ≤ c8 from by rw [hy8, hc8]; exact Nat.sub_le_sub_right hroom8 _)
 clear hr8 hC8 hroom8 hi08 hsz8 hc8
 have KY8 := am hy8
 have KA8 := am hA8
 clear hy8 hA8
 have KL8 := am (show 1 ≤ t188.length from by omega)
 replace q8 := eq_true q8
 go_wp2
 have HBw := HB
 replace PQM_ := am (Sh.hasM_of PQM_ HB.out)
 clear HB
 have HB := am (Below.refl w6.heap.size w6)
 go_loopg [5, 17] k (fun kq v5 v17 w' => ∃ (x5_1 : List S48) (x17_1 : Int), v17 = .int .i64 x17_1 ∧ Aside0 (impl_sidesGet.l0 kq x5_1 y192 (y192.length : Int) x17_1 = some (r1, r2)) ∧ Aside0 (kq ≤ k) ∧ Aside0 (Kd.R k48 48 w' w6.heap.size (fun _ => True) v5 x5_1) ∧ Aside0 (Below w6.heap.size w6 w'))
 case atStart => exact ⟨(([] : List S48)), (0), xR, H', ⟨Nat.le_refl _⟩, ⟨xN⟩, ⟨bl HB⟩⟩
 case round =>
  clear H'
  try clear c3 c3b0 c3b1 c4 c4b0 c4b1 c5 c5b0 c5b1 c8 q8 hx191_0 p191 q191
  obtain ⟨x5_1, x17_1, rfl, HA, HK1, HO_5, HB⟩ := hrel
  cases gk with
  | zero => exact absurd HA.out (by simp [impl_sidesGet.l0])
  | succ k1 =>
   have H := HA.out
   clear HA
   simp only [impl_sidesGet.l0] at H
   by_cases c9 : x17_1 < (y192.length : Int)
   rotate_left
   ·rw [if_neg c9] at H
    have c9b0 := df c9
    clear c9
    replace ⟨t203, A28, H⟩ := oa H
    simp only [Option.some.injEq, Prod.mk.injEq] at H
    obtain ⟨rfl, rfl⟩ := H
    obtain ⟨Ao29, co29, rfl⟩ := R_slice HO_5.out
    go_wp2_with ((with_reducible refine gg ?_); refine gL 44 Tryz.func66 #[.slice Ao29 x5_1.length co29] ?_; (with_reducible refine (impl_Side.calls _ _ x5_1 t203 _ ?side1 ?side2 A28.out).mono ?_); (case side1 => exact cr (R_reads' HO_5.out).2.2); (case side2 => exact sl HO_5); rintro e w30 ⟨v204, rfl, ho0, hb⟩; refine ⟨_, rfl, ?_⟩; have HO205 := am (R_lower (R_new' ho0 (R_lt (ra HO_5))) (below_size (bl HB))); replace HO_5 := am (R_elder' (ra HO_5) (R_base ho0) hb); replace HB := kH HB hb; (try clear hb); (try clear ho0))
    go_ret2
    exact ⟨_, xE, R_lower (rM HO205 (fun _ hk => trivial)) (below_size HBw.out), below_step HBw.out (bl HB)⟩
   rw [if_pos c9] at H
   have c9b0 := dt c9
   clear c9
   replace ⟨c10b0, H⟩ := ipd H
   replace ⟨c11b0, H⟩ := ipd H
   have p196 : 0 ≤ (x17_1 : Int) := oX
   have q196 : x17_1 < (y192.length : Int) := oX
   obtain ⟨ad196, e196, hx196_0⟩ := at_string (hC HB HR195.out) x17_1 p196 q196
   cases e196
   replace ⟨p196, q196⟩ := eT p196 q196
   by_cases c12 : (rdOf ByteArray.empty y192 x17_1).toList = ([] : List UInt8)
   ·rw [if_pos c12] at H
    have c12b0 := beq_iff_eq.mpr c12
    have c12b1 := bne_eq_false_iff_eq.mpr c12
    clear c12
    simp only [Option.some.injEq, Prod.mk.injEq] at H
    obtain ⟨rfl, rfl⟩ := H
    go_wp2
    go_ret2
    exact ⟨_, xE, xN, below_step HBw.out (bl HB)⟩
   rw [if_neg c12] at H
   have c12b0 := beq_eq_false_iff_ne.mpr c12
   have c12b1 := bne_iff_ne.mpr c12
   replace ⟨c13, H⟩ := ip H
   have c13b0 := dt c13
   have c13b1 : decide (0 < (rdOf ByteArray.empty y192 x17_1).size) = true := decide_eq_true (by omega)
   clear c13
   have p14 : 0 ≤ (0 : Int) := (by omega)
   have q14 : 0 < (rdOf ByteArray.empty y192 x17_1).size := (by have : (0 : Int) < ((rdOf ByteArray.empty y192 x17_1).size : Int) := oX; omega)
   have hx14 : ∀ h : 0 < (rdOf ByteArray.empty y192 x17_1).size, (((rdOf ByteArray.empty y192 x17_1)[0]'h).toNat : Int) = bt (rdOf ByteArray.empty y192 x17_1) 0 := bt_at (rdOf ByteArray.empty y192 x17_1) 0
   clear p14
   have qi14 : (0 < ((rdOf ByteArray.empty y192 x17_1).size : Int)) = True := eq_true (oX)
   replace q14 := eq_true q14
   by_cases c15 : (bt (rdOf ByteArray.empty y192 x17_1) 0) = 108
   ·rw [if_pos c15] at H
    have c15b0 := beq_iff_eq.mpr c15
    have c15b1 := bne_eq_false_iff_eq.mpr c15
    clear c15
    replace ⟨c16, H⟩ := ip H
    have c16b0 := eq_true c16
    have c16b1 := dt c16
    clear c16
    replace ⟨LMc18, H⟩ := ipa H
    obtain ⟨y197, Ny197⟩ := yA (x5_1 ++ [(⟨(rdOf ByteArray.empty y192 x17_1).extract 1 (rdOf ByteArray.empty y192 x17_1).size, ((bt (rdOf ByteArray.empty y192 x17_1) 0) == 108)⟩ : S48)] : List S48)
    rw [← Ny197.out] at H
    have H' := am H
    clear H
    try go_wp2
    replace HO_5 := am (R_drew HO_5.out)
    replace HB := am (below_drew1 HB.out)
    have p17 : 0 ≤ (0 : Int) := (by omega)
    have q17 : 0 < (rdOf ByteArray.empty y192 x17_1).size := (by have : (0 : Int) < ((rdOf ByteArray.empty y192 x17_1).size : Int) := oX; omega)
    have hx17 : ∀ h : 0 < (rdOf ByteArray.empty y192 x17_1).size, (((rdOf ByteArray.empty y192 x17_1)[0]'h).toNat : Int) = bt (rdOf ByteArray.empty y192 x17_1) 0 := bt_at (rdOf ByteArray.empty y192 x17_1) 0
    clear p17
    have qi17 : (0 < ((rdOf ByteArray.empty y192 x17_1).size : Int)) = True := eq_true (oX)
    replace q17 := eq_true q17
    refine start_ (n := 10) (S := fun w' => True) (ds := []) (bm 10 0) (by kernel_rfl) rfl rfl trivial (fun hHeld => ?_); refine with_tabW impl_sidesGet.tab10 impl_sidesGet.bits10 (fun HT_ HW_ => ?_)
    generalize wr.drew = w19 at HO_5 HB hHeld ⊢
    refine pA 0 33 (bm 10 1) HT_ ?_
    refine pA 1 34 (bm 10 3) HT_ ?_
    refine pA 2 35 (bm 10 7) HT_ ?_
    refine pA 3 36 (bm 10 15) HT_ ?_
    refine take_ (i := 4) (N := some 37) (v := ?_) (a' := ?_) (bm 10 31) rfl rfl (take_ofW HT_.out HW_.out (by kernel_rfl)) (fun _ _ _ h => h) (Or.inl ⟨by rfl, ?_⟩) hHeld ?_ ?_
    rotate_left
    ·intro w' _
     go_simp
     with_reducible rfl
    rotate_left
    ·simp only [Act.put, sa, s0, s1, i64_w, i32_w]
     rfl
    refine pA 5 38 (bm 10 63) HT_ ?_
    refine pA 6 39 (bm 10 127) HT_ ?_
    refine oA 7 (some 40) (bm 10 255) HT_ fun K hK => ?_
    refine value_ (w1 := ?_) (v := ?_) (by rfl) rfl ?_ ?_
    rotate_left 2
    ·go_simp
     constructor
     ·rfl
     ·rfl
    refine hK.out _ _ trivial (fun hHeld => ?_)
    clear hK K
    refine nA (some 40) ?_
    refine oA 8 (some 41) (bm 10 511) HT_ fun K hK => ?_
    refine R_append_step k48 (w0 := w6) w6.heap.size (by rfl) (.tmp 33) (.tmp 40) 28 48 (.agg #[(.string ⟨#[]⟩), (.bool false)]) 24 rfl Tryz.underlying28 info48 rfl (by decide) (by omega) u5 x5_1 (⟨(rdOf ByteArray.empty y192 x17_1).extract 1 (rdOf ByteArray.empty y192 x17_1).size, ((bt (rdOf ByteArray.empty y192 x17_1) 0) == 108)⟩ : S48) [.string ((rdOf ByteArray.empty y192 x17_1).extract 1 (rdOf ByteArray.empty y192 x17_1).size), .bool true] (fun _ => True) (fun _ => False) rfl rfl ?aP (fun _ hk => hk.elim) ?aF ?aO ?aB ?aS ?aL ?_
    (case aP => rw [c15b0]; exact k48_mkM _ _ _ (⟨(rdOf ByteArray.empty y192 x17_1).extract 1 (rdOf ByteArray.empty y192 x17_1).size, true⟩ : S48))
    (case aB => exact (bl HB))
    (case aF => exact (fun _ _ => trivial))
    (case aO => exact (ra HO_5))
    (case aS => exact (below_size (bl HB)))
    (case aL => have := LMc18.out; omega)
    intro v198 w20 ho hb hg hat
    rw [← Ny197.out] at ho
    have n0_ := am (hb)
    have n1_ := am (ho)
    clear HB
    clear HO_5
    have HB := n0_
    have HO199 := n1_
    clear n0_ n1_
    clear ho hb hg hat
    refine hK.out _ _ trivial (fun hHeld => ?_)
    clear hK K
    refine nA (some 41) ?_
    refine pA 9 5 (bm 10 1023) HT_ ?_
    refine done_ (done_of HT_.out (by kernel_rfl)) ?_
    try go_wp2
    go_roundg k1
    case measure => have := HK1.out; omega
    case rel => exact ⟨(y197), (wrap64 (x17_1 + 1)), xR, H', ⟨xL HK1⟩, ⟨ra HO199⟩, ⟨bl HB⟩⟩
   rw [if_neg c15] at H
   have c15b0 := beq_eq_false_iff_ne.mpr c15
   have c15b1 := bne_iff_ne.mpr c15
   have p21 : 0 ≤ (0 : Int) := (by omega)
   have q21 : 0 < (rdOf ByteArray.empty y192 x17_1).size := (by have : (0 : Int) < ((rdOf ByteArray.empty y192 x17_1).size : Int) := oX; omega)
   have hx21 : ∀ h : 0 < (rdOf ByteArray.empty y192 x17_1).size, (((rdOf ByteArray.empty y192 x17_1)[0]'h).toNat : Int) = bt (rdOf ByteArray.empty y192 x17_1) 0 := bt_at (rdOf ByteArray.empty y192 x17_1) 0
   clear p21
   have qi21 : (0 < ((rdOf ByteArray.empty y192 x17_1).size : Int)) = True := eq_true (oX)
   replace q21 := eq_true q21
   by_cases c22 : (bt (rdOf ByteArray.empty y192 x17_1) 0) = 114
   rotate_left
   ·rw [if_neg c22] at H
    have c22b0 := beq_eq_false_iff_ne.mpr c22
    have c22b1 := bne_iff_ne.mpr c22
    simp only [Option.some.injEq, Prod.mk.injEq] at H
    obtain ⟨rfl, rfl⟩ := H
    go_wp2
    go_ret2
    exact ⟨_, xE, xN, below_step HBw.out (bl HB)⟩
   rw [if_pos c22] at H
   have c22b0 := beq_iff_eq.mpr c22
   have c22b1 := bne_eq_false_iff_eq.mpr c22
   clear c22
   replace ⟨c23, H⟩ := ip H
   have c23b0 := eq_true c23
   have c23b1 := dt c23
   clear c23
   replace ⟨LMc25, H⟩ := ipa H
   obtain ⟨y200, Ny200⟩ := yA (x5_1 ++ [(⟨(rdOf ByteArray.empty y192 x17_1).extract 1 (rdOf ByteArray.empty y192 x17_1).size, ((bt (rdOf ByteArray.empty y192 x17_1) 0) == 108)⟩ : S48)] : List S48)
   rw [← Ny200.out] at H
   have H' := am H
   clear H
   try go_wp2
   replace HO_5 := am (R_drew HO_5.out)
   replace HB := am (below_drew1 HB.out)
   have p24 : 0 ≤ (0 : Int) := (by omega)
   have q24 : 0 < (rdOf ByteArray.empty y192 x17_1).size := (by have : (0 : Int) < ((rdOf ByteArray.empty y192 x17_1).size : Int) := oX; omega)
   have hx24 : ∀ h : 0 < (rdOf ByteArray.empty y192 x17_1).size, (((rdOf ByteArray.empty y192 x17_1)[0]'h).toNat : Int) = bt (rdOf ByteArray.empty y192 x17_1) 0 := bt_at (rdOf ByteArray.empty y192 x17_1) 0
   clear p24
   have qi24 : (0 < ((rdOf ByteArray.empty y192 x17_1).size : Int)) = True := eq_true (oX)
   replace q24 := eq_true q24
   refine start_ (n := 10) (S := fun w' => True) (ds := []) (bm 10 0) (by kernel_rfl) rfl rfl trivial (fun hHeld => ?_); refine with_tabW impl_sidesGet.tab10 impl_sidesGet.bits10 (fun HT_ HW_ => ?_)
   generalize wr.drew = w26 at HO_5 HB hHeld ⊢
   refine pA 0 33 (bm 10 1) HT_ ?_
   refine pA 1 34 (bm 10 3) HT_ ?_
   refine pA 2 35 (bm 10 7) HT_ ?_
   refine pA 3 36 (bm 10 15) HT_ ?_
   refine take_ (i := 4) (N := some 37) (v := ?_) (a' := ?_) (bm 10 31) rfl rfl (take_ofW HT_.out HW_.out (by kernel_rfl)) (fun _ _ _ h => h) (Or.inl ⟨by rfl, ?_⟩) hHeld ?_ ?_
   rotate_left
   ·intro w' _
    go_simp
    with_reducible rfl
   rotate_left
   ·simp only [Act.put, sa, s0, s1, i64_w, i32_w]
    rfl
   refine pA 5 38 (bm 10 63) HT_ ?_
   refine pA 6 39 (bm 10 127) HT_ ?_
   refine oA 7 (some 40) (bm 10 255) HT_ fun K hK => ?_
   refine value_ (w1 := ?_) (v := ?_) (by rfl) rfl ?_ ?_
   rotate_left 2
   ·go_simp
    constructor
    ·rfl
    ·rfl
   refine hK.out _ _ trivial (fun hHeld => ?_)
   clear hK K
   refine nA (some 40) ?_
   refine oA 8 (some 41) (bm 10 511) HT_ fun K hK => ?_
   refine R_append_step k48 (w0 := w6) w6.heap.size (by rfl) (.tmp 33) (.tmp 40) 28 48 (.agg #[(.string ⟨#[]⟩), (.bool false)]) 24 rfl Tryz.underlying28 info48 rfl (by decide) (by omega) u5 x5_1 (⟨(rdOf ByteArray.empty y192 x17_1).extract 1 (rdOf ByteArray.empty y192 x17_1).size, ((bt (rdOf ByteArray.empty y192 x17_1) 0) == 108)⟩ : S48) [.string ((rdOf ByteArray.empty y192 x17_1).extract 1 (rdOf ByteArray.empty y192 x17_1).size), .bool false] (fun _ => True) (fun _ => False) rfl rfl ?aP (fun _ hk => hk.elim) ?aF ?aO ?aB ?aS ?aL ?_
   (case aP => rw [c15b0]; exact k48_mkM _ _ _ (⟨(rdOf ByteArray.empty y192 x17_1).extract 1 (rdOf ByteArray.empty y192 x17_1).size, false⟩ : S48))
   (case aB => exact (bl HB))
   (case aF => exact (fun _ _ => trivial))
   (case aO => exact (ra HO_5))
   (case aS => exact (below_size (bl HB)))
   (case aL => have := LMc25.out; omega)
   intro v201 w27 ho hb hg hat
   rw [← Ny200.out] at ho
   have n0_ := am (hb)
   have n1_ := am (ho)
   clear HB
   clear HO_5
   have HB := n0_
   have HO202 := n1_
   clear n0_ n1_
   clear ho hb hg hat
   refine hK.out _ _ trivial (fun hHeld => ?_)
   clear hK K
   refine nA (some 41) ?_
   refine pA 9 5 (bm 10 1023) HT_ ?_
   refine done_ (done_of HT_.out (by kernel_rfl)) ?_
   try go_wp2
   go_roundg k1
   case measure => have := HK1.out; omega
   case rel => exact ⟨(y200), (wrap64 (x17_1 + 1)), xR, H', ⟨xL HK1⟩, ⟨ra HO202⟩, ⟨bl HB⟩⟩
open Kd
set_option linter.unusedVariables false
set_option linter.unusedSimpArgs false
set_option maxHeartbeats 64000000
set_option maxRecDepth 100000
attribute [local go_sem high] eqA48 eqA93
def impl_PaidGet.j0 : Nat → ByteArray → List ByteArray → Bool → Option (Int × ByteArray × ByteArray × Int × Int × Int × (List S93) × (List S93) × (List S48) × Bool)
 | 0, _, _, _ => none
 | k + 1, x0, x4, x29 => if x29 = true then (some (0, (⟨#[]⟩ : ByteArray), (⟨#[]⟩ : ByteArray), 0, 0, 0, ([] : List S93), ([] : List S93), ([] : List S48), false)) else (if 0 < (x4.length : Int) then ((strings_Cut.f (rdOf ByteArray.empty x4 0) (⟨#[32]⟩ : ByteArray)).bind fun bt212 => ((impl_number.f k bt212.1).bind fun bt215 => ((impl_HeadGet.f k bt212.2.1).bind fun bt217 => (if 1 < (x4.length : Int) then ((impl_peaksGet.f k (⟨#[112, 101, 97, 107, 115]⟩ : ByteArray) (rdOf ByteArray.empty x4 1)).bind fun bt225 => (if 2 < (x4.length : Int) then ((impl_peaksGet.f k (⟨#[115, 116, 101, 112, 115]⟩ : ByteArray) (rdOf ByteArray.empty x4 2)).bind fun bt230 => (if 3 < (x4.length : Int) then ((impl_sidesGet.f k (rdOf ByteArray.empty x4 3)).bind fun bt235 => (if bt215.2 = true then (if bt217.2.2.2.2.2 = true then (if bt225.2 = true then (if bt230.2 = true then (if bt235.2 = true then ((impl_PaidPut.f k bt215.1 bt217.1 bt217.2.1 bt217.2.2.1 bt217.2.2.2.1 bt217.2.2.2.2.1 bt225.1 bt230.1 bt235.1).bind fun t240 => (if t240.toList = x0.toList then (some (bt215.1, bt217.1, bt217.2.1, bt217.2.2.1, bt217.2.2.2.1, bt217.2.2.2.2.1, bt225.1, bt230.1, bt235.1, true)) else (some (0, (⟨#[]⟩ : ByteArray), (⟨#[]⟩ : ByteArray), 0, 0, 0, ([] : List S93), ([] : List S93), ([] : List S48), false)))) else (some (0, (⟨#[]⟩ : ByteArray), (⟨#[]⟩ : ByteArray), 0, 0, 0, ([] : List S93), ([] : List S93), ([] : List S48), false))) else (some (0, (⟨#[]⟩ : ByteArray), (⟨#[]⟩ : ByteArray), 0, 0, 0, ([] : List S93), ([] : List S93), ([] : List S48), false))) else (some (0, (⟨#[]⟩ : ByteArray), (⟨#[]⟩ : ByteArray), 0, 0, 0, ([] : List S93), ([] : List S93), ([] : List S48), false))) else (some (0, (⟨#[]⟩ : ByteArray), (⟨#[]⟩ : ByteArray), 0, 0, 0, ([] : List S93), ([] : List S93), ([] : List S48), false))) else (some (0, (⟨#[]⟩ : ByteArray), (⟨#[]⟩ : ByteArray), 0, 0, 0, ([] : List S93), ([] : List S93), ([] : List S48), false)))) else (none))) else (none))) else (none))))) else (none))
def impl_PaidGet.f (k : Nat) (a0 : ByteArray) : Option (Int × ByteArray × ByteArray × Int × Int × Int × (List S93) × (List S93) × (List S48) × Bool) := (strings_Split.f a0 (⟨#[10]⟩ : ByteArray)).bind fun t207 => (if (t207.length : Int) = 5 then (if 4 < (t207.length : Int) then (impl_PaidGet.j0 k a0 t207 ((rdOf ByteArray.empty t207 4).toList != ([] : List UInt8))) else (none)) else (impl_PaidGet.j0 k a0 t207 true))
theorem impl_PaidGet.calls (k : Nat) (a0 : ByteArray) (r1 : Int) (r2 : ByteArray) (r3 : ByteArray) (r4 : Int) (r5 : Int) (r6 : Int) (r7 : List S93) (r8 : List S93) (r9 : List S48) (r10 : Bool) (w : World) (h : impl_PaidGet.f k a0 = some (r1, r2, r3, r4, r5, r6, r7, r8, r9, r10)) (PQM_ : Aside0 (Sh.HasM w)) (PQT_ : Aside0 (Sh.HasT w)) :
  Calls Tryz.prog 8 #[.string a0] w fun e w' => ∃ v6_ v7_ v8_ : Value, e = .returned (.tuple #[.agg #[.int .i64 r1, .string r2, .string r3, .int .i64 r4, .int .i64 r5, .int .i64 r6, v6_, v7_, v8_], .bool r10]) ∧ Kd.R k93 93 w' w.heap.size (fun k_ => some k_ ≠ (v7_ : Value).ownBlock) v6_ r7 ∧ Kd.R k93 93 w' w.heap.size (fun k_ => some k_ ≠ (v6_ : Value).ownBlock) v7_ r8 ∧ Kd.R k48 48 w' w.heap.size (fun _ => True) v8_ r9 ∧ Below w.heap.size w w' := by
 have hu30 := Tryz.underlying30
 have hu24 := Tryz.underlying24
 have hu27 := Tryz.underlying27
 have HB := am (Below.refl w.heap.size w)
 have H : ((strings_Split.f a0 (⟨#[10]⟩ : ByteArray)).bind fun t207 => (if (t207.length : Int) = 5 then (if 4 < (t207.length : Int) then (impl_PaidGet.j0 k a0 t207 ((rdOf ByteArray.empty t207 4).toList != ([] : List UInt8))) else (none)) else (impl_PaidGet.j0 k a0 t207 true))) = some (r1, r2, r3, r4, r5, r6, r7, r8, r9, r10) := h
 clear h
 replace ⟨t207, A2, H⟩ := oa H
 have HC3 := am H
 clear H
 go_enter Tryz.func8, Tryz.ntmps8
 go_upto_region 2 with ((with_reducible refine gg ?_); first | (refine bE 2 #[.int .i64 0, .string (⟨#[]⟩ : ByteArray), .string (⟨#[]⟩ : ByteArray), .int .i64 0, .int .i64 0, .int .i64 0, .slice none 0 0, .slice none 0 0, .slice none 0 0] 30 ?_; intro gb206 hg w4 hbox hb; have BK206 := am (hbox); have GW206 := zB hg HB; have GE206 := zB hg HB; replace HB := kH HB hb; clear hb hbox hg) | (refine store_event (t := 30) (p := 2) (v := ?vo_) (w1 := ?wo_) ?hg ?ho ?hn ?hr ?_; (case ho => rfl); (case hg => rfl); (case hn => rfl); (case hr => go_simp; rfl); intro wq_ hW_; have BQ_ := am hW_; have hzq_ := am hW_; replace hW_ := am hW_) | (refine gL 20 Tryz.func24 #[.string a0, .string (⟨#[10]⟩ : ByteArray)] ?_; (try (clear hzq_ BQ_; obtain ⟨hW_⟩ := hW_; subst hW_)); (with_reducible refine (strings_Split.calls a0 (⟨#[10]⟩ : ByteArray) t207 _ A2.out (am (Sh.hasM_of PQM_ (xB HB)))).mono ?_); rintro e w5 ⟨v208, rfl, ho0, hb⟩; refine ⟨_, rfl, ?_⟩; have HO209 := am (R_lower ho0 (below_size (xB HB))); replace BK206 := kP _ BK206 hb; replace HB := kH HB hb; (try clear hb); (try clear ho0)))
 (try simp only [Act.put, sa, s0, s1])
 (try (clear hzq_ BQ_; obtain ⟨hW_⟩ := hW_; subst hW_))
 go_cut [29] (fun v29 wc => ∃ (kq : Nat) (x29_2 : Bool), v29 = .bool x29_2 ∧ Aside0 (impl_PaidGet.j0 kq a0 t207 x29_2 = some (r1, r2, r3, r4, r5, r6, r7, r8, r9, r10)) ∧ Aside0 (kq ≤ k) ∧ Aside0 (Kd.R Kd.string 9 wc w.heap.size (fun _ => True) v208 t207) ∧ Aside0 (wc.heap[gb206]? = some (.cells #[.int .i64 0, .string (⟨#[]⟩ : ByteArray), .string (⟨#[]⟩ : ByteArray), .int .i64 0, .int .i64 0, .int .i64 0, (.slice none 0 0), (.slice none 0 0), (.slice none 0 0)] 30 (0, 0))) ∧ Aside0 (Below w.heap.size w wc))
 case first =>
  have H := HC3.out
  clear HC3
  by_cases c6 : (t207.length : Int) = 5
  rotate_left
  ·rw [if_neg c6] at H
   have c6b0 := beq_eq_false_iff_ne.mpr c6
   have c6b1 := bne_iff_ne.mpr c6
   (first | rw [c6b0] | rw [c6b1] | (simp only [i64_w, i32_w]; rw [c6b0]) | skip)
   have H' := am H
   clear H
   obtain ⟨Ao9, co9, rfl⟩ := R_slice HO209.out
   go_wp2
   (try (clear hzq_ BQ_; obtain ⟨hW_⟩ := hW_; subst hW_))
   go_meet
   case rel => exact ⟨_, (true), xR, H', ⟨xO⟩, ⟨ra HO209⟩, ⟨kb BK206⟩, ⟨xB HB⟩⟩
  rw [if_pos c6] at H
  have c6b0 := beq_iff_eq.mpr c6
  have c6b1 := bne_eq_false_iff_eq.mpr c6
  clear c6
  (first | rw [c6b0] | rw [c6b1] | (simp only [i64_w, i32_w]; rw [c6b0]) | skip)
  replace ⟨c7, H⟩ := ip H
  have c7b0 := dt c7
  have c7b1 : decide (4 < t207.length) = true := dt (by omega)
  clear c7
  have H' := am H
  clear H
  obtain ⟨Ao8, co8, rfl⟩ := R_slice HO209.out
  have p210 : 0 ≤ (4 : Int) := (by omega)
  have q210 : 4 < (t207.length : Int) := oX
  obtain ⟨ad210, e210, hx210_0⟩ := at_string (R_reads' HO209.out).2.2 4 p210 q210
  cases e210
  (try simp only [show (4 : Int).toNat = 4 from rfl, Nat.reduceMul, Nat.reduceEqDiff, Go.Addr.add, ↓reduceIte] at hx210_0)
  have qi210 : (4 < t207.length) = True := eq_true (by omega)
  (try rw [show ((4 : Int)).toNat = 4 from rfl] at hx210_0)
  replace ⟨p210, q210⟩ := eT p210 q210
  go_wp2
  (try (clear hzq_ BQ_; obtain ⟨hW_⟩ := hW_; subst hW_))
  go_meet
  case rel => exact ⟨_, (((rdOf ByteArray.empty t207 4).toList != ([] : List UInt8))), xR, H', ⟨xO⟩, ⟨ra HO209⟩, ⟨kb BK206⟩, ⟨xB HB⟩⟩
 case rest =>
  clear HC3
  obtain ⟨kq, x29_2, rfl, HA, HJ2, HO_4, BK206, HB⟩ := hcut
  cases kq with
  | zero => exact absurd HA.out (by simp [impl_PaidGet.j0])
  | succ kj2 =>
   have H := HA.out
   clear HA
   simp only [impl_PaidGet.j0] at H
   by_cases c10 : x29_2 = true
   ·subst c10
    rw [if_pos rfl] at H
    simp only [Option.some.injEq, Prod.mk.injEq] at H
    obtain ⟨rfl, rfl, rfl, rfl, rfl, rfl, rfl, rfl, rfl, rfl⟩ := H
    (first | have hz11 := bc9 (kF _ BK206 hW_.out) | have hz11 := bc9 BK206)
    go_wp2
    (try (clear hzq_ BQ_; obtain ⟨hW_⟩ := hW_; subst hW_))
    refine bodyPost_ret (results_ct rfl _ _ gb206 30 #[.int .i64 0, .string (⟨#[]⟩ : ByteArray), .string (⟨#[]⟩ : ByteArray), .int .i64 0, .int .i64 0, .int .i64 0, .slice none 0 0, .slice none 0 0, .slice none 0 0] (0, 0) _ rfl (fb BK206) Tryz.underlying30 rfl (by kernel_rfl)) rfl ?_
    exact ⟨_, _, _, xE, xN, xN, xN, xB HB⟩
   replace c10 := bF c10
   subst c10
   rw [if_neg nF] at H
   replace ⟨c12, H⟩ := ip H
   have c12b0 := dt c12
   have c12b1 : decide (0 < t207.length) = true := dt (by omega)
   clear c12
   replace H := Option.bind_eq_some_iff.mp H
   obtain ⟨⟨t212, t213, t214⟩, A130, H⟩ := H
   have A13 := am A130
   clear A130
   replace H := Option.bind_eq_some_iff.mp H
   obtain ⟨⟨t215, t216⟩, A140, H⟩ := H
   have A14 := am A140
   clear A140
   replace H := Option.bind_eq_some_iff.mp H
   obtain ⟨⟨t217, t218, t219, t220, t221, t222⟩, A150, H⟩ := H
   have A15 := am A150
   clear A150
   replace ⟨c16, H⟩ := ip H
   have c16b0 := dt c16
   have c16b1 : decide (1 < t207.length) = true := dt (by omega)
   clear c16
   replace H := Option.bind_eq_some_iff.mp H
   obtain ⟨⟨t225, t226⟩, A170, H⟩ := H
   have A17 := am A170
   clear A170
   replace ⟨c18, H⟩ := ip H
   have c18b0 := dt c18
   have c18b1 : decide (2 < t207.length) = true := dt (by omega)
   clear c18
   replace H := Option.bind_eq_some_iff.mp H
   obtain ⟨⟨t230, t231⟩, A190, H⟩ := H
   have A19 := am A190
   clear A190
   replace ⟨c20, H⟩ := ip H
   have c20b0 := dt c20
   have c20b1 : decide (3 < t207.length) = true := dt (by omega)
   clear c20
   replace H := Option.bind_eq_some_iff.mp H
   obtain ⟨⟨t235, t236⟩, A210, H⟩ := H
   have A21 := am A210
   clear A210
   obtain ⟨Ao29, co29, rfl⟩ := R_slice HO_4.out
   have p211 : 0 ≤ (0 : Int) := (by omega)
   have q211 : 0 < (t207.length : Int) := oX
   obtain ⟨ad211, e211, hx211_0⟩ := at_string (R_reads' HO_4.out).2.2 0 p211 q211
   cases e211
   have qi211 : (0 < t207.length) = True := eq_true (by omega)
   (try rw [show ((0 : Int)).toNat = 0 from rfl] at hx211_0)
   (try rw [Addr.add_zero'] at hx211_0)
   replace ⟨p211, q211⟩ := eT p211 q211
   go_upto_region 11 with ((with_reducible refine gg ?_); first | (refine gL 35 Tryz.func25 #[.string (rdOf ByteArray.empty t207 0), .string (⟨#[32]⟩ : ByteArray)] ?_; (try (clear hzq_ BQ_; obtain ⟨hW_⟩ := hW_; subst hW_)); (with_reducible refine (strings_Cut.calls (rdOf ByteArray.empty t207 0) (⟨#[32]⟩ : ByteArray) t212 t213 t214 _ A13.out (am (Sh.hasM_of PQM_ (xB HB)))).mono ?_); rintro e w30 ⟨rfl, hb⟩; refine ⟨_, rfl, ?_⟩; replace HO_4 := rk HO_4 hb; replace BK206 := kP _ BK206 hb; replace HB := kH HB hb; (try clear hb)) | (refine gL 41 Tryz.func26 #[.string t212] ?_; (try (clear hzq_ BQ_; obtain ⟨hW_⟩ := hW_; subst hW_)); (with_reducible refine (impl_number.calls kj2 t212 t215 t216 _ A14.out).mono ?_); rintro e w' ⟨rfl, ⟨nd, rfl⟩⟩; refine ⟨_, rfl, ?_⟩; (try (rw [drewN_self w30]; generalize hq_ : World.drewN w30 _ = w30; have n0_ := dR hq_ HO_4; have n1_ := dK hq_ BK206; have n2_ := dB hq_ HB; clear HO_4 BK206 HB hq_; have HO_4 := n0_; have BK206 := n1_; have HB := n2_; clear n0_ n1_ n2_))) | (refine gL 46 Tryz.func27 #[.string t213] ?_; (try (clear hzq_ BQ_; obtain ⟨hW_⟩ := hW_; subst hW_)); (with_reducible refine (impl_HeadGet.calls kj2 t213 t217 t218 t219 t220 t221 t222 _ A15.out (am (Sh.hasM_of PQM_ (xB HB)))).mono ?_); rintro e w31 ⟨rfl, hb⟩; refine ⟨_, rfl, ?_⟩; replace HO_4 := rk HO_4 hb; replace BK206 := kP _ BK206 hb; replace HB := kH HB hb; (try clear hb)) | (refine bE 10 #[.string (⟨#[]⟩ : ByteArray), .string (⟨#[]⟩ : ByteArray), .int .i64 0, .int .i64 0, .int .i64 0] 24 ?_; (try (clear hzq_ BQ_; obtain ⟨hW_⟩ := hW_; subst hW_)); intro gb223 hg w32 hbox hb; replace HO_4 := rk HO_4 hb; have BK223 := am (hbox); have GW223 := zB hg HB; have GE223 := zB hg HB; replace HB := kH HB hb; have NB206_223 := nl hg (kb BK206); have NB223_206 := ng hg (kb BK206); replace BK206 := kP _ BK206 hb; clear hb hbox hg; have hnb33 := NB223_206.out; have hnc33 := NB206_223.out; have hz34 := bc5 BK223; have p224 : 0 ≤ (1 : Int) := (by omega); have q224 : 1 < (t207.length : Int) := oX; obtain ⟨ad224, e224, hx224_0⟩ := at_string (R_reads' HO_4.out).2.2 1 p224 q224; obtain rfl : ad211 = ad224 := (by injection e224); (try simp only [show (1 : Int).toNat = 1 from rfl, Nat.reduceMul, Nat.reduceEqDiff, Go.Addr.add, ↓reduceIte] at hx224_0); have qi224 : (1 < t207.length) = True := eq_true (by omega); (try rw [show ((1 : Int)).toNat = 1 from rfl] at hx224_0); have hn224_0 : ad211.block ≠ gb223 := own_blk (R_ne HO_4.out BK223.out (by decide)); have hn224_1 : ad211.block ≠ gb223 := own_blk (R_ne HO_4.out BK223.out (by decide)); have hn224_2 : ad211.block ≠ gb223 := own_blk (R_ne HO_4.out BK223.out (by decide)); have hn224_3 : ad211.block ≠ gb223 := own_blk (R_ne HO_4.out BK223.out (by decide)); have hn224_4 : ad211.block ≠ gb223 := own_blk (R_ne HO_4.out BK223.out (by decide)); replace hx224_0 := (cell_far (p := ⟨gb223, 0, none⟩) (by first | (rw [add_block]; exact hn224_0) | (show (Addr.add _ _).block ≠ _; rw [add_block]; exact hn224_0) | exact hn224_0) (.string t217)).trans hx224_0; replace hx224_0 := (cell_far (p := ⟨gb223, 1, none⟩) (by first | (rw [add_block]; exact hn224_1) | (show (Addr.add _ _).block ≠ _; rw [add_block]; exact hn224_1) | exact hn224_1) (.string t218)).trans hx224_0; replace hx224_0 := (cell_far (p := ⟨gb223, 2, none⟩) (by first | (rw [add_block]; exact hn224_2) | (show (Addr.add _ _).block ≠ _; rw [add_block]; exact hn224_2) | exact hn224_2) (.int .i64 t219)).trans hx224_0; replace hx224_0 := (cell_far (p := ⟨gb223, 3, none⟩) (by first | (rw [add_block]; exact hn224_3) | (show (Addr.add _ _).block ≠ _; rw [add_block]; exact hn224_3) | exact hn224_3) (.int .i64 t220)).trans hx224_0; replace hx224_0 := (cell_far (p := ⟨gb223, 4, none⟩) (by first | (rw [add_block]; exact hn224_4) | (show (Addr.add _ _).block ≠ _; rw [add_block]; exact hn224_4) | exact hn224_4) (.int .i64 t221)).trans hx224_0; clear hn224_0; clear hn224_1; clear hn224_2; clear hn224_3; clear hn224_4; replace ⟨p224, q224⟩ := eT p224 q224) | (refine store_event (t := 24) (p := 10) (v := ?vo_) (w1 := ?wo_) ?hg ?ho ?hn ?hr ?_; (case ho => rfl); (case hg => rfl); (case hn => rfl); (case hr => go_simp; rfl); intro wq_ hW_; (try rw [← hW_] at hx224_0); (first | (have BQ_ := kF (.cells #[.string t217, .string t218, .int .i64 t219, .int .i64 t220, .int .i64 t221] 24 (0, 0)) BK223 hW_; have hzq_ := bc5 BQ_) | (have BQ_ := am hW_; have hzq_ := am hW_)); replace hW_ := am hW_) | (refine gL 53 Tryz.func28 #[.string (⟨#[112, 101, 97, 107, 115]⟩ : ByteArray), .string (rdOf ByteArray.empty t207 1)] ?_; (try (clear hzq_ BQ_; obtain ⟨hW_⟩ := hW_; subst hW_)); (with_reducible refine (impl_peaksGet.calls kj2 (⟨#[112, 101, 97, 107, 115]⟩ : ByteArray) (rdOf ByteArray.empty t207 1) t225 t226 _ A17.out (am (Sh.hasM_of PQM_ (xB HB)))).mono ?_); rintro e w35 ⟨v227, rfl, ho0, hb⟩; refine ⟨_, rfl, ?_⟩; replace HO_4 := am (R_below (rf HO_4 BK223) hb); have HO228 := am (R_lower ho0 (below_size (xB HB))); replace BK206 := kP _ BK206 hb; replace BK223 := kP (.cells #[.string t217, .string t218, .int .i64 t219, .int .i64 t220, .int .i64 t221] 24 (0, 0)) BK223 hb; replace HB := kH HB hb; (try clear hb); (try clear ho0); have p229 : 0 ≤ (2 : Int) := (by omega); have q229 : 2 < (t207.length : Int) := oX; obtain ⟨ad229, e229, hx229_0⟩ := at_string (R_reads' HO_4.out).2.2 2 p229 q229; obtain rfl : ad211 = ad229 := (by injection e229); (try simp only [show (2 : Int).toNat = 2 from rfl, Nat.reduceMul, Nat.reduceEqDiff, Go.Addr.add, ↓reduceIte] at hx229_0); have qi229 : (2 < t207.length) = True := eq_true (by omega); (try rw [show ((2 : Int)).toNat = 2 from rfl] at hx229_0); replace ⟨p229, q229⟩ := eT p229 q229) | (refine gL 60 Tryz.func28 #[.string (⟨#[115, 116, 101, 112, 115]⟩ : ByteArray), .string (rdOf ByteArray.empty t207 2)] ?_; (try (clear hzq_ BQ_; obtain ⟨hW_⟩ := hW_; subst hW_)); (with_reducible refine (impl_peaksGet.calls kj2 (⟨#[115, 116, 101, 112, 115]⟩ : ByteArray) (rdOf ByteArray.empty t207 2) t230 t231 _ A19.out (am (Sh.hasM_of PQM_ (xB HB)))).mono ?_); rintro e w36 ⟨v232, rfl, ho0, hb⟩; refine ⟨_, rfl, ?_⟩; replace HO_4 := rk HO_4 hb; have HO233 := am (R_lower (R_new' ho0 (R_lt (ra HO228))) (below_size (xB HB))); replace HO228 := am (R_elder' (ra HO228) (R_base ho0) hb); replace BK206 := kP _ BK206 hb; replace BK223 := kP _ BK223 hb; replace HB := kH HB hb; (try clear hb); (try clear ho0); have p234 : 0 ≤ (3 : Int) := (by omega); have q234 : 3 < (t207.length : Int) := oX; obtain ⟨ad234, e234, hx234_0⟩ := at_string (R_reads' HO_4.out).2.2 3 p234 q234; obtain rfl : ad211 = ad234 := (by injection e234); (try simp only [show (3 : Int).toNat = 3 from rfl, Nat.reduceMul, Nat.reduceEqDiff, Go.Addr.add, ↓reduceIte] at hx234_0); have qi234 : (3 < t207.length) = True := eq_true (by omega); (try rw [show ((3 : Int)).toNat = 3 from rfl] at hx234_0); replace ⟨p234, q234⟩ := eT p234 q234) | (refine gL 67 Tryz.func29 #[.string (rdOf ByteArray.empty t207 3)] ?_; (try (clear hzq_ BQ_; obtain ⟨hW_⟩ := hW_; subst hW_)); (with_reducible refine (impl_sidesGet.calls kj2 (rdOf ByteArray.empty t207 3) t235 t236 _ A21.out (am (Sh.hasM_of PQM_ (xB HB)))).mono ?_); rintro e w37 ⟨v237, rfl, ho0, hb⟩; refine ⟨_, rfl, ?_⟩; replace HO_4 := rk HO_4 hb; replace HO228 := rk HO228 hb; replace HO233 := rk HO233 hb; have HO238 := am (R_lower ho0 (below_size (xB HB))); replace BK206 := kP _ BK206 hb; replace BK223 := kP _ BK223 hb; replace HB := kH HB hb; (try clear hb); (try clear ho0); have hz38 := bc5 BK223; obtain ⟨Ao39, co39, rfl⟩ := R_slice HO233.out; obtain ⟨Ao40, co40, rfl⟩ := R_slice HO228.out; obtain ⟨Ao41, co41, rfl⟩ := R_slice HO238.out) | (refine bE 18 #[.int .i64 0, .string (⟨#[]⟩ : ByteArray), .string (⟨#[]⟩ : ByteArray), .int .i64 0, .int .i64 0, .int .i64 0, .slice none 0 0, .slice none 0 0, .slice none 0 0] 30 ?_; (try (clear hzq_ BQ_; obtain ⟨hW_⟩ := hW_; subst hW_)); intro gb239 hg w42 hbox hb; replace HO_4 := rk HO_4 hb; replace HO228 := rk HO228 hb; replace HO233 := rk HO233 hb; replace HO238 := rk HO238 hb; have BK239 := am (hbox); have GW239 := zB hg HB; have GE239 := zB hg HB; replace HB := kH HB hb; have NB206_239 := nl hg (kb BK206); have NB239_206 := ng hg (kb BK206); replace BK206 := kP _ BK206 hb; have NB223_239 := nl hg (kb BK223); have NB239_223 := ng hg (kb BK223); replace BK223 := kP _ BK223 hb; clear hb hbox hg; have hnb43 := NB239_206.out; have hnc43 := NB206_239.out; have hnb44 := NB239_223.out; have hnc44 := NB223_239.out; have hz45 := bc9 BK239) | (refine store_event (t := 30) (p := 18) (v := ?vo_) (w1 := ?wo_) ?hg ?ho ?hn ?hr ?_; (case ho => rfl); (case hg => rfl); (case hn => rfl); (case hr => go_simp; rfl); intro wq_ hW_; (first | (have BQ_ := kF (.cells #[.int .i64 t215, .string t217, .string t218, .int .i64 t219, .int .i64 t220, .int .i64 t221, .slice Ao40 t225.length co40, .slice Ao39 t230.length co39, .slice Ao41 t235.length co41] 30 (0, 0)) BK239 hW_; have hzq_ := bc9 BQ_) | (have BQ_ := am hW_; have hzq_ := am hW_)); replace hW_ := am hW_))
   by_cases c22 : t216 = true
   rotate_left
   ·replace c22 := bF c22
    subst c22
    try simp only [Bool.not_true, Bool.not_false]
    rw [if_neg nF] at H
    simp only [Option.some.injEq, Prod.mk.injEq] at H
    obtain ⟨rfl, rfl, rfl, rfl, rfl, rfl, rfl, rfl, rfl, rfl⟩ := H
    (first | have hz157 := bc9 (kF _ BK206 hW_.out) | have hz157 := bc9 BK206)
    go_wp2
    (try (clear hzq_ BQ_; obtain ⟨hW_⟩ := hW_; subst hW_))
    refine bodyPost_ret (results_ct rfl _ _ gb206 30 #[.int .i64 0, .string (⟨#[]⟩ : ByteArray), .string (⟨#[]⟩ : ByteArray), .int .i64 0, .int .i64 0, .int .i64 0, .slice none 0 0, .slice none 0 0, .slice none 0 0] (0, 0) _ rfl (fb BK206) Tryz.underlying30 rfl (by kernel_rfl)) rfl ?_
    exact ⟨_, _, _, xE, xN, xN, xN, xB HB⟩
   subst c22
   try simp only [Bool.not_true, Bool.not_false]
   rw [if_pos rfl] at H
   by_cases c23 : t222 = true
   rotate_left
   ·replace c23 := bF c23
    subst c23
    rw [if_neg nF] at H
    simp only [Option.some.injEq, Prod.mk.injEq] at H
    obtain ⟨rfl, rfl, rfl, rfl, rfl, rfl, rfl, rfl, rfl, rfl⟩ := H
    (first | have hz139 := bc9 (kF _ BK206 hW_.out) | have hz139 := bc9 BK206)
    go_wp2
    (try (clear hzq_ BQ_; obtain ⟨hW_⟩ := hW_; subst hW_))
    refine bodyPost_ret (results_ct rfl _ _ gb206 30 #[.int .i64 0, .string (⟨#[]⟩ : ByteArray), .string (⟨#[]⟩ : ByteArray), .int .i64 0, .int .i64 0, .int .i64 0, .slice none 0 0, .slice none 0 0, .slice none 0 0] (0, 0) _ rfl (fb BK206) Tryz.underlying30 rfl (by kernel_rfl)) rfl ?_
    exact ⟨_, _, _, xE, xN, xN, xN, xB HB⟩
   subst c23
   rw [if_pos rfl] at H
   by_cases c24 : t226 = true
   rotate_left
   ·replace c24 := bF c24
    subst c24
    rw [if_neg nF] at H
    simp only [Option.some.injEq, Prod.mk.injEq] at H
    obtain ⟨rfl, rfl, rfl, rfl, rfl, rfl, rfl, rfl, rfl, rfl⟩ := H
    (first | have hz121 := bc9 (kF _ BK206 hW_.out) | have hz121 := bc9 BK206)
    go_wp2
    (try (clear hzq_ BQ_; obtain ⟨hW_⟩ := hW_; subst hW_))
    refine bodyPost_ret (results_ct rfl _ _ gb206 30 #[.int .i64 0, .string (⟨#[]⟩ : ByteArray), .string (⟨#[]⟩ : ByteArray), .int .i64 0, .int .i64 0, .int .i64 0, .slice none 0 0, .slice none 0 0, .slice none 0 0] (0, 0) _ rfl (fb BK206) Tryz.underlying30 rfl (by kernel_rfl)) rfl ?_
    exact ⟨_, _, _, xE, xN, xN, xN, xB HB⟩
   subst c24
   rw [if_pos rfl] at H
   by_cases c25 : t231 = true
   rotate_left
   ·replace c25 := bF c25
    subst c25
    rw [if_neg nF] at H
    simp only [Option.some.injEq, Prod.mk.injEq] at H
    obtain ⟨rfl, rfl, rfl, rfl, rfl, rfl, rfl, rfl, rfl, rfl⟩ := H
    (first | have hz103 := bc9 (kF _ BK206 hW_.out) | have hz103 := bc9 BK206)
    go_wp2
    (try (clear hzq_ BQ_; obtain ⟨hW_⟩ := hW_; subst hW_))
    refine bodyPost_ret (results_ct rfl _ _ gb206 30 #[.int .i64 0, .string (⟨#[]⟩ : ByteArray), .string (⟨#[]⟩ : ByteArray), .int .i64 0, .int .i64 0, .int .i64 0, .slice none 0 0, .slice none 0 0, .slice none 0 0] (0, 0) _ rfl (fb BK206) Tryz.underlying30 rfl (by kernel_rfl)) rfl ?_
    exact ⟨_, _, _, xE, xN, xN, xN, xB HB⟩
   subst c25
   rw [if_pos rfl] at H
   by_cases c26 : t236 = true
   rotate_left
   ·replace c26 := bF c26
    subst c26
    rw [if_neg nF] at H
    simp only [Option.some.injEq, Prod.mk.injEq] at H
    obtain ⟨rfl, rfl, rfl, rfl, rfl, rfl, rfl, rfl, rfl, rfl⟩ := H
    (first | have hz85 := bc9 (kF _ BK206 hW_.out) | have hz85 := bc9 BK206)
    go_wp2
    (try (clear hzq_ BQ_; obtain ⟨hW_⟩ := hW_; subst hW_))
    refine bodyPost_ret (results_ct rfl _ _ gb206 30 #[.int .i64 0, .string (⟨#[]⟩ : ByteArray), .string (⟨#[]⟩ : ByteArray), .int .i64 0, .int .i64 0, .int .i64 0, .slice none 0 0, .slice none 0 0, .slice none 0 0] (0, 0) _ rfl (fb BK206) Tryz.underlying30 rfl (by kernel_rfl)) rfl ?_
    exact ⟨_, _, _, xE, xN, xN, xN, xB HB⟩
   subst c26
   rw [if_pos rfl] at H
   replace ⟨t240, A27, H⟩ := oa H
   go_upto_if 100 with (go_at_call 6; (try (clear hzq_ BQ_; obtain ⟨hW_⟩ := hW_; subst hW_)); (with_reducible refine (impl_PaidPut.calls kj2 t215 t217 t218 t219 t220 t221 _ _ t225 _ _ t230 _ _ t235 t240 _ ?side1 ?side2 ?side3 ?side4 ?side5 ?side6 A27.out (am (Sh.hasT_of PQT_ (xB HB)))).mono ?_); (case side1 => exact (R_reads' (rf HO228 BK239)).2.2); (case side2 => exact sl HO228); (case side3 => exact (R_reads' (rf HO233 BK239)).2.2); (case side4 => exact sl HO233); (case side5 => exact (R_reads' (rf HO238 BK239)).2.2); (case side6 => exact sl HO238); rintro e w46 ⟨rfl, hb⟩; replace HO_4 := am (R_below (rf HO_4 BK239) hb); replace HO228 := am (R_below (rf HO228 BK239) hb); replace HO233 := am (R_below (rf HO233 BK239) hb); replace HO238 := am (R_below (rf HO238 BK239) hb); replace BK206 := kP _ BK206 hb; replace BK223 := kP _ BK223 hb; replace BK239 := kP (.cells #[.int .i64 t215, .string t217, .string t218, .int .i64 t219, .int .i64 t220, .int .i64 t221, .slice Ao40 t225.length co40, .slice Ao39 t230.length co39, .slice Ao41 t235.length co41] 30 (0, 0)) BK239 hb; replace HB := kH HB hb; (try clear hb))
   by_cases c28 : t240.toList = a0.toList
   rotate_left
   ·rw [if_neg c28] at H
    have c28b0 := beq_eq_false_iff_ne.mpr c28
    have c28b1 := bne_iff_ne.mpr c28
    try simp only [c28b0, c28b1, Bool.not_true, Bool.not_false]
    simp only [Option.some.injEq, Prod.mk.injEq] at H
    obtain ⟨rfl, rfl, rfl, rfl, rfl, rfl, rfl, rfl, rfl, rfl⟩ := H
    (first | have hz67 := bc9 (kF _ BK206 hW_.out) | have hz67 := bc9 BK206)
    go_wp2
    (try (clear hzq_ BQ_; obtain ⟨hW_⟩ := hW_; subst hW_))
    refine bodyPost_ret (results_ct rfl _ _ gb206 30 #[.int .i64 0, .string (⟨#[]⟩ : ByteArray), .string (⟨#[]⟩ : ByteArray), .int .i64 0, .int .i64 0, .int .i64 0, .slice none 0 0, .slice none 0 0, .slice none 0 0] (0, 0) _ rfl (fb BK206) Tryz.underlying30 rfl (by kernel_rfl)) rfl ?_
    exact ⟨_, _, _, xE, xN, xN, xN, xB HB⟩
   rw [if_pos c28] at H
   have c28b0 := beq_iff_eq.mpr c28
   have c28b1 := bne_eq_false_iff_eq.mpr c28
   try simp only [c28b0, c28b1, Bool.not_true, Bool.not_false]
   clear c28
   simp only [Option.some.injEq, Prod.mk.injEq] at H
   obtain ⟨rfl, rfl, rfl, rfl, rfl, rfl, rfl, rfl, rfl, rfl⟩ := H
   (first | have hz47 := bc9 (kF _ BK239 hW_.out) | have hz47 := bc9 BK239)
   (first | have hz48 := bc9 (kF _ BK206 hW_.out) | have hz48 := bc9 BK206)
   go_wp2
   (try (clear hzq_ BQ_; obtain ⟨hW_⟩ := hW_; subst hW_))
   refine bodyPost_ret (results_ct rfl _ _ gb206 30 #[.int .i64 t215, .string t217, .string t218, .int .i64 t219, .int .i64 t220, .int .i64 t221, .slice Ao40 t225.length co40, .slice Ao39 t230.length co39, .slice Ao41 t235.length co41] (0, 0) _ rfl (fb BK206) Tryz.underlying30 rfl (by kernel_rfl)) rfl ?_
   exact ⟨_, _, _, xE, rF HO228 BK206 h2, rF HO233 BK206 h2, rF HO238 BK206 (fun _ hk => trivial), xB HB⟩
def laws_coPeaks.l0 : Nat → List S93 → List S93 → Int → Option (Bool)
 | 0, _, _, _ => none
 | k + 1, x0, x1, x5 => if x5 < (x0.length : Int) then (if 0 ≤ x5 then (if x5 < (x1.length : Int) then (if (!((((rd_T93 x0 x5).f0).toList) == (((rd_T93 x1 x5).f0).toList)) || (!(((rd_T93 x0 x5).f1) == ((rd_T93 x1 x5).f1)) || (!(((rd_T93 x0 x5).f2) == ((rd_T93 x1 x5).f2))))) = true then (some false) else (laws_coPeaks.l0 k x0 x1 (wrap64 (x5 + 1)))) else (none)) else (none)) else (some true)
def laws_coPeaks.f (k : Nat) (l0 : List S93) (l1 : List S93) : Option (Bool) := if (l0.length : Int) = (l1.length : Int) then (laws_coPeaks.l0 k l0 l1 0) else (some false)
theorem laws_coPeaks.calls (k : Nat) (A0 : Option Addr) (c0 : Nat) (l0 : List S93) (A1 : Option Addr) (c1 : Nat) (l1 : List S93) (r : Bool) (w : World) (hr0 : Kd.C k93 w A0 l0.length l0) (hc0 : l0.length ≤ c0) (hr1 : Kd.C k93 w A1 l1.length l1) (hc1 : l1.length ≤ c1) (h : laws_coPeaks.f k l0 l1 = some r) :
  Calls Tryz.prog 67 #[.slice A0 l0.length c0, .slice A1 l1.length c1] w fun e w' => e = .returned (.bool r) ∧ Drawn0 w w' := by
 have hu93 := Tryz.underlying93
 have HR0 := am hr0
 have HC0 := am hc0
 clear hr0 hc0
 have HR1 := am hr1
 have HC1 := am hc1
 clear hr1 hc1
 have H : (if (l0.length : Int) = (l1.length : Int) then (laws_coPeaks.l0 k l0 l1 0) else (some false)) = some r := h
 clear h
 by_cases c3 : (l0.length : Int) = (l1.length : Int)
 rotate_left
 ·rw [if_neg c3] at H
  have c3b0 := beq_eq_false_iff_ne.mpr c3
  have c3b1 := bne_iff_ne.mpr c3
  have c3b2 : (l0.length == l1.length) = false := by first | simpa using c3 | (simp at c3 ⊢; omega)
  obtain rfl := oI H
  go_enter Tryz.func67, Tryz.ntmps67
  go_wp2
  repeat (go_quiet (fail); try go_wp2)
  go_ret
  exact ⟨xR, xW⟩
 rw [if_pos c3] at H
 have c3b0 := beq_iff_eq.mpr c3
 have c3b1 := bne_eq_false_iff_eq.mpr c3
 have c3b2 : (l0.length == l1.length) = true := by first | simpa using c3 | (simp at c3 ⊢; omega)
 clear c3
 have H' := am H
 clear H
 go_enter Tryz.func67, Tryz.ntmps67
 go_wp2
 repeat (go_quiet (fail); try go_wp2)
 go_loopg [5] k (fun kq v5 w' => ∃ (x5_1 : Int), v5 = .int .i64 x5_1 ∧ Aside0 (laws_coPeaks.l0 kq l0 l1 x5_1 = some r) ∧ Aside0 (kq ≤ k) ∧ Drawn0 w w')
 case atStart => exact ⟨(0), xR, H', ⟨Nat.le_refl _⟩, xW⟩
 case round =>
  clear H'
  try clear c3 c3b0 c3b1 c3b2
  obtain ⟨x5_1, rfl, HA, HK1, ⟨m1, rfl⟩⟩ := hrel
  cases gk with
  | zero => exact absurd HA.out (by simp [laws_coPeaks.l0])
  | succ k1 =>
   have H := HA.out
   clear HA
   simp only [laws_coPeaks.l0] at H
   by_cases c4 : x5_1 < (l0.length : Int)
   rotate_left
   ·rw [if_neg c4] at H
    have c4b0 := df c4
    clear c4
    obtain rfl := oI H
    go_wp2
    repeat (go_quiet (fail); try go_wp2)
    go_ret
    exact ⟨xR, xW⟩
   rw [if_pos c4] at H
   have c4b0 := dt c4
   clear c4
   replace ⟨c5b0, H⟩ := ipd H
   replace ⟨c6b0, H⟩ := ipd H
   have p241 : 0 ≤ (x5_1 : Int) := oX
   have q241 : x5_1 < (l0.length : Int) := oX
   obtain ⟨ad241, e241, hx241_0, hx241_1, hx241_2⟩ := at_T93 HR0.out x5_1 p241 q241
   cases e241
   replace ⟨p241, q241⟩ := eT p241 q241
   have p242 : 0 ≤ (x5_1 : Int) := oX
   have q242 : x5_1 < (l1.length : Int) := oX
   obtain ⟨ad242, e242, hx242_0, hx242_1, hx242_2⟩ := at_T93 HR1.out x5_1 p242 q242
   cases e242
   replace ⟨p242, q242⟩ := eT p242 q242
   by_cases c7 : (!((((rd_T93 l0 x5_1).f0).toList) == (((rd_T93 l1 x5_1).f0).toList)) || (!(((rd_T93 l0 x5_1).f1) == ((rd_T93 l1 x5_1).f1)) || (!(((rd_T93 l0 x5_1).f2) == ((rd_T93 l1 x5_1).f2))))) = true
   ·rw [if_pos c7] at H
    have c7b0 : (!((((rd_T93 l0 x5_1).f0).toList) == (((rd_T93 l1 x5_1).f0).toList)) || (!(((rd_T93 l0 x5_1).f1) == ((rd_T93 l1 x5_1).f1)) || (!(((rd_T93 l0 x5_1).f2) == ((rd_T93 l1 x5_1).f2))))) = true := c7
    clear c7
    obtain rfl := oI H
    go_wp2
    repeat (go_quiet (fail); try go_wp2)
    go_ret
    exact ⟨xR, xW⟩
   rw [if_neg c7] at H
   have c7b0 : (!((((rd_T93 l0 x5_1).f0).toList) == (((rd_T93 l1 x5_1).f0).toList)) || (!(((rd_T93 l0 x5_1).f1) == ((rd_T93 l1 x5_1).f1)) || (!(((rd_T93 l0 x5_1).f2) == ((rd_T93 l1 x5_1).f2))))) = false := by simpa using c7
   clear c7
   have H' := am H
   clear H
   go_wp2
   repeat (go_quiet (fail); try go_wp2)
   go_roundg k1
   case measure => have := HK1.out; omega
   case rel => exact ⟨(wrap64 (x5_1 + 1)), xR, H', ⟨xL HK1⟩, xW⟩
def laws_coProof.f (k : Nat) (l0_0 : List S93) (l0_1 : List S93) (l1_0 : List S93) (l1_1 : List S93) : Option (Bool) := (laws_coPeaks.f k l0_0 l1_0).bind fun t245 => (if t245 = true then ((laws_coPeaks.f k l0_1 l1_1).bind fun t246 => (some t246)) else (some false))
theorem laws_coProof.calls (k : Nat) (A0_0 : Option Addr) (c0_0 : Nat) (l0_0 : List S93) (A0_1 : Option Addr) (c0_1 : Nat) (l0_1 : List S93) (A1_0 : Option Addr) (c1_0 : Nat) (l1_0 : List S93) (A1_1 : Option Addr) (c1_1 : Nat) (l1_1 : List S93) (r : Bool) (w : World) (hr0_0 : Kd.C k93 w A0_0 l0_0.length l0_0) (hc0_0 : l0_0.length ≤ c0_0) (hr0_1 : Kd.C k93 w A0_1 l0_1.length l0_1) (hc0_1 : l0_1.length ≤ c0_1) (hr1_0 : Kd.C k93 w A1_0 l1_0.length l1_0) (hc1_0 : l1_0.length ≤ c1_0) (hr1_1 : Kd.C k93 w A1_1 l1_1.length l1_1) (hc1_1 : l1_1.length ≤ c1_1) (h : laws_coProof.f k l0_0 l0_1 l1_0 l1_1 = some r) :
  Calls Tryz.prog 30 #[.agg #[.slice A0_0 l0_0.length c0_0, .slice A0_1 l0_1.length c0_1], .agg #[.slice A1_0 l1_0.length c1_0, .slice A1_1 l1_1.length c1_1]] w fun e w' => e = .returned (.bool r) ∧ Below w.heap.size w w' := by
 have hu27 := Tryz.underlying27
 have HR0_0 := am hr0_0
 have HC0_0 := am hc0_0
 clear hr0_0 hc0_0
 have HR0_1 := am hr0_1
 have HC0_1 := am hc0_1
 clear hr0_1 hc0_1
 have HR1_0 := am hr1_0
 have HC1_0 := am hc1_0
 clear hr1_0 hc1_0
 have HR1_1 := am hr1_1
 have HC1_1 := am hc1_1
 clear hr1_1 hc1_1
 have HB := am (Below.refl w.heap.size w)
 have H : ((laws_coPeaks.f k l0_0 l1_0).bind fun t245 => (if t245 = true then ((laws_coPeaks.f k l0_1 l1_1).bind fun t246 => (some t246)) else (some false))) = some r := h
 clear h
 replace ⟨t245, A3, H⟩ := oa H
 go_enter Tryz.func30, Tryz.ntmps30
 go_upto_region 1 with ((with_reducible refine gg ?_); first | (refine bE 2 #[.slice A0_0 l0_0.length c0_0, .slice A0_1 l0_1.length c0_1] 27 ?_; intro gb243 hg w6 hbox hb; have BK243 := am (hbox); have GW243 := zB hg HB; have GE243 := zB hg HB; replace HB := kH HB hb; clear hb hbox hg) | (refine bE 3 #[.slice A1_0 l1_0.length c1_0, .slice A1_1 l1_1.length c1_1] 27 ?_; intro gb244 hg w7 hbox hb; have BK244 := am (hbox); have GW244 := zB hg HB; have GE244 := zB hg HB; replace HB := kH HB hb; have NB243_244 := nl hg (kb BK243); have NB244_243 := ng hg (kb BK243); replace BK243 := kP _ BK243 hb; clear hb hbox hg; have hnb8 := NB243_244.out; have hnc8 := NB244_243.out; have hz9 := bc2 BK243; have hz10 := bc2 BK244))
 by_cases c4 : t245 = true
 rotate_left
 ·replace c4 := bF c4
  subst c4
  try simp only [Bool.not_true, Bool.not_false]
  rw [if_neg nF] at H
  obtain rfl := oI H
  go_wp2_with ((with_reducible refine gg ?_); refine gL 9 Tryz.func67 #[.slice A0_0 l0_0.length c0_0, .slice A1_0 l1_0.length c1_0] ?_; (with_reducible refine (laws_coPeaks.calls k _ _ l0_0 _ _ l1_0 false _ ?side1 ?side2 ?side3 ?side4 A3.out).mono ?_); (case side1 => exact cb HR0_0 HB); (case side2 => exact HC0_0.out); (case side3 => exact cb HR1_0 HB); (case side4 => exact HC1_0.out); rintro e w' ⟨rfl, ⟨nd, rfl⟩⟩; refine ⟨_, rfl, ?_⟩)
  go_ret
  exact ⟨xE, xB HB⟩
 subst c4
 try simp only [Bool.not_true, Bool.not_false]
 rw [if_pos rfl] at H
 replace ⟨t246, A5, H⟩ := oa H
 obtain rfl := oI H
 go_wp2_with (first | ((with_reducible refine gg ?_); refine gL 9 Tryz.func67 #[.slice A0_0 l0_0.length c0_0, .slice A1_0 l1_0.length c1_0] ?_; (with_reducible refine (laws_coPeaks.calls k _ _ l0_0 _ _ l1_0 true _ ?side1 ?side2 ?side3 ?side4 A3.out).mono ?_); (case side1 => exact cb HR0_0 HB); (case side2 => exact HC0_0.out); (case side3 => exact cb HR1_0 HB); (case side4 => exact HC1_0.out); rintro e w' ⟨rfl, ⟨nd, rfl⟩⟩; refine ⟨_, rfl, ?_⟩) | (go_at_call 67; (with_reducible refine (laws_coPeaks.calls k _ _ l0_1 _ _ l1_1 t246 _ ?side1 ?side2 ?side3 ?side4 A5.out).mono ?_); (case side1 => repeat (first | exact (C_below HR0_1.out (xB HB)) | (with_reducible refine C_alloc ?_ _) | (with_reducible refine C_drewN ?_ _) | (with_reducible refine C_drew ?_))); (case side2 => exact HC0_1.out); (case side3 => repeat (first | exact (C_below HR1_1.out (xB HB)) | (with_reducible refine C_alloc ?_ _) | (with_reducible refine C_drewN ?_ _) | (with_reducible refine C_drew ?_))); (case side4 => exact HC1_1.out); rintro e w' ⟨rfl, ⟨nd, rfl⟩⟩))
 go_ret
 exact ⟨xE, xB HB⟩
def laws_coSides.l0 : Nat → List S48 → List S48 → Int → Option (Bool)
 | 0, _, _, _ => none
 | k + 1, x0, x1, x5 => if x5 < (x0.length : Int) then (if 0 ≤ x5 then (if x5 < (x1.length : Int) then (if (!((((rd_T48 x0 x5).f0).toList) == (((rd_T48 x1 x5).f0).toList)) || (!(((rd_T48 x0 x5).f1) == ((rd_T48 x1 x5).f1)))) = true then (some false) else (laws_coSides.l0 k x0 x1 (wrap64 (x5 + 1)))) else (none)) else (none)) else (some true)
def laws_coSides.f (k : Nat) (l0 : List S48) (l1 : List S48) : Option (Bool) := if (l0.length : Int) = (l1.length : Int) then (laws_coSides.l0 k l0 l1 0) else (some false)
theorem laws_coSides.calls (k : Nat) (A0 : Option Addr) (c0 : Nat) (l0 : List S48) (A1 : Option Addr) (c1 : Nat) (l1 : List S48) (r : Bool) (w : World) (hr0 : Kd.C k48 w A0 l0.length l0) (hc0 : l0.length ≤ c0) (hr1 : Kd.C k48 w A1 l1.length l1) (hc1 : l1.length ≤ c1) (h : laws_coSides.f k l0 l1 = some r) :
  Calls Tryz.prog 31 #[.slice A0 l0.length c0, .slice A1 l1.length c1] w fun e w' => e = .returned (.bool r) ∧ Drawn0 w w' := by
 have hu48 := Tryz.underlying48
 have HR0 := am hr0
 have HC0 := am hc0
 clear hr0 hc0
 have HR1 := am hr1
 have HC1 := am hc1
 clear hr1 hc1
 have H : (if (l0.length : Int) = (l1.length : Int) then (laws_coSides.l0 k l0 l1 0) else (some false)) = some r := h
 clear h
 by_cases c3 : (l0.length : Int) = (l1.length : Int)
 rotate_left
 ·rw [if_neg c3] at H
  have c3b0 := beq_eq_false_iff_ne.mpr c3
  have c3b1 := bne_iff_ne.mpr c3
  have c3b2 : (l0.length == l1.length) = false := by first | simpa using c3 | (simp at c3 ⊢; omega)
  obtain rfl := oI H
  go_enter Tryz.func31, Tryz.ntmps31
  go_wp2
  repeat (go_quiet (fail); try go_wp2)
  go_ret
  exact ⟨xR, xW⟩
 rw [if_pos c3] at H
 have c3b0 := beq_iff_eq.mpr c3
 have c3b1 := bne_eq_false_iff_eq.mpr c3
 have c3b2 : (l0.length == l1.length) = true := by first | simpa using c3 | (simp at c3 ⊢; omega)
 clear c3
 have H' := am H
 clear H
 go_enter Tryz.func31, Tryz.ntmps31
 go_wp2
 repeat (go_quiet (fail); try go_wp2)
 go_loopg [5] k (fun kq v5 w' => ∃ (x5_1 : Int), v5 = .int .i64 x5_1 ∧ Aside0 (laws_coSides.l0 kq l0 l1 x5_1 = some r) ∧ Aside0 (kq ≤ k) ∧ Drawn0 w w')
 case atStart => exact ⟨(0), xR, H', ⟨Nat.le_refl _⟩, xW⟩
 case round =>
  clear H'
  try clear c3 c3b0 c3b1 c3b2
  obtain ⟨x5_1, rfl, HA, HK1, ⟨m1, rfl⟩⟩ := hrel
  cases gk with
  | zero => exact absurd HA.out (by simp [laws_coSides.l0])
  | succ k1 =>
   have H := HA.out
   clear HA
   simp only [laws_coSides.l0] at H
   by_cases c4 : x5_1 < (l0.length : Int)
   rotate_left
   ·rw [if_neg c4] at H
    have c4b0 := df c4
    clear c4
    obtain rfl := oI H
    go_wp2
    repeat (go_quiet (fail); try go_wp2)
    go_ret
    exact ⟨xR, xW⟩
   rw [if_pos c4] at H
   have c4b0 := dt c4
   clear c4
   replace ⟨c5b0, H⟩ := ipd H
   replace ⟨c6b0, H⟩ := ipd H
   have p247 : 0 ≤ (x5_1 : Int) := oX
   have q247 : x5_1 < (l0.length : Int) := oX
   obtain ⟨ad247, e247, hx247_0, hx247_1⟩ := at_T48 HR0.out x5_1 p247 q247
   cases e247
   replace ⟨p247, q247⟩ := eT p247 q247
   have p248 : 0 ≤ (x5_1 : Int) := oX
   have q248 : x5_1 < (l1.length : Int) := oX
   obtain ⟨ad248, e248, hx248_0, hx248_1⟩ := at_T48 HR1.out x5_1 p248 q248
   cases e248
   replace ⟨p248, q248⟩ := eT p248 q248
   by_cases c7 : (!((((rd_T48 l0 x5_1).f0).toList) == (((rd_T48 l1 x5_1).f0).toList)) || (!(((rd_T48 l0 x5_1).f1) == ((rd_T48 l1 x5_1).f1)))) = true
   ·rw [if_pos c7] at H
    have c7b0 : (!((((rd_T48 l0 x5_1).f0).toList) == (((rd_T48 l1 x5_1).f0).toList)) || (!(((rd_T48 l0 x5_1).f1) == ((rd_T48 l1 x5_1).f1)))) = true := c7
    clear c7
    obtain rfl := oI H
    go_wp2
    repeat (go_quiet (fail); try go_wp2)
    go_ret
    exact ⟨xR, xW⟩
   rw [if_neg c7] at H
   have c7b0 : (!((((rd_T48 l0 x5_1).f0).toList) == (((rd_T48 l1 x5_1).f0).toList)) || (!(((rd_T48 l0 x5_1).f1) == ((rd_T48 l1 x5_1).f1)))) = false := by simpa using c7
   clear c7
   have H' := am H
   clear H
   go_wp2
   repeat (go_quiet (fail); try go_wp2)
   go_roundg k1
   case measure => have := HK1.out; omega
   case rel => exact ⟨(wrap64 (x5_1 + 1)), xR, H', ⟨xL HK1⟩, xW⟩

end Go.Proofs.YtgjljbaadglpnaaGreatDoor.PFnPaidGet
