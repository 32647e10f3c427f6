/- Functions of the program and what each answers: the kit's print, shortened (wip/press2.py). -/
import Derived.Test.YtgjljbaadglpnaaDoorPFnHeadGetx0
import Derived.Test.YtgjljbaadglpnaaDoorPFnHeadGetx8
import Derived.Test.YtgjljbaadglpnaaDoorPFnHeadGetx9
import Derived.Test.YtgjljbaadglpnaaDoorPFnHeadGetx10
namespace Go.Proofs.YtgjljbaadglpnaaDoor.PFnHeadGet
open Go.Proofs.YtgjljbaadglpnaaDoor.Sq Go.RowKit Go.Proofs.YtgjljbaadglpnaaDoorW.PrintWords Go.Proofs.YtgjljbaadglpnaaDoorW.PrintLast Go.Proofs.YtgjljbaadglpnaaDoorW.PrintMore
attribute [local go_sem] max2_int min2_int max_two min_two max_three min_three max_four min_four   -- for this text's walks alone
set_option linter.unusedVariables false
set_option linter.unusedSimpArgs false
set_option maxHeartbeats 64000000
set_option maxRecDepth 100000
def spec_l1Sha.l0 : Nat → List Int → List Int → List Int → Int → Option (List Int)
 | 0, _, _, _, _ => none
 | k + 1, x3, x4, x5, x6 => if x6 < (x5.length : Int) then (if 0 ≤ x6 then (if x6 ≤ (wrap64 (x6 + 64)) then (if (wrap64 (x6 + 64)) ≤ (x5.length : Int) then ((spec_l1Words.f k ((x5.take ((wrap64 (x6 + 64)) : Int).toNat).drop (x6 : Int).toNat)).bind fun t256 => ((spec_l1Mix.f k x3 t256 x4).bind fun t259 => (spec_l1Sha.l0 k t259 x4 x5 (wrap64 (x6 + 64))))) else (none)) else (none)) else (none)) else (some x3)
def spec_l1Sha.f (k : Nat) (a0 : ByteArray) : Option (List Int) := (spec_l1Consts.f).bind fun bt243 => ((spec_l1Pad.f k a0).bind fun t249 => (spec_l1Sha.l0 k bt243.1 bt243.2 t249 0))
theorem spec_l1Sha.mono_l : ∀ k, (∀ y0 y1 y2 y3, LeO (spec_l1Sha.l0 k y0 y1 y2 y3) (spec_l1Sha.l0 (k + 1) y0 y1 y2 y3))
 | 0 => fun _ _ _ _ r h => by simp [spec_l1Sha.l0] at h
 | k + 1 => by
  have ih0 := spec_l1Sha.mono_l k
  ·intro y0 y1 y2 y3
   unfold spec_l1Sha.l0
   exact mo4 ih0 spec_l1Mix.mono spec_l1Pad.mono spec_l1Words.mono
theorem spec_l1Sha.mono : ∀ a0 k, LeO (spec_l1Sha.f k a0) (spec_l1Sha.f (k + 1) a0) := by
 intro a0 k
 have ih0 := spec_l1Sha.mono_l k
 unfold spec_l1Sha.f
 exact mo4 ih0 spec_l1Mix.mono spec_l1Pad.mono spec_l1Words.mono
theorem spec_l1Sha.calls (k : Nat) (a0 : ByteArray) (r : List Int) (w : World) (h : spec_l1Sha.f k a0 = some r) :
  Calls Tryd.prog 111 #[.string a0] w fun e w' => ∃ v0_ : Value, e = .returned (v0_) ∧ Kd.R (Kd.int .i64) 3 w' w.heap.size (fun _ => True) v0_ r ∧ Below w.heap.size w w' := by
 have HB := Aside0.mk (Below.refl w.heap.size w)
 have H : ((spec_l1Consts.f).bind fun bt243 => ((spec_l1Pad.f k a0).bind fun t249 => (spec_l1Sha.l0 k bt243.1 bt243.2 t249 0))) = some r := h
 clear h
 replace H := Option.bind_eq_some_iff.mp H
 obtain ⟨⟨t243, t244⟩, A20, H⟩ := H
 have A2 := Aside0.mk A20
 clear A20
 replace H := oa H
 obtain ⟨t249, A3, H⟩ := H
 have H' := Aside0.mk H
 clear H
 go_enter Tryd.func111, Tryd.ntmps111
 go_wp2_with ((with_reducible refine gg ?_); first | (refine gL 8 Tryd.func123 #[] ?_; (with_reducible refine (spec_l1Consts.calls  t243 t244 _ A2.out).mono ?_); rintro e w4 ⟨v245, v247, rfl, ho0, ho1, hb⟩; refine ⟨_, rfl, ?_⟩; have HO246 := am (Kd.R_lower ho0 (below_size (bl HB))); have HO248 := am (Kd.R_lower ho1 (below_size (bl HB))); replace HB := kH HB hb; (try clear hb); (try clear ho0); (try clear ho1)) | (refine gL 12 Tryd.func124 #[.string a0] ?_; (with_reducible refine (spec_l1Pad.calls k a0 t249 _ A3.out).mono ?_); rintro e w5 ⟨v250, rfl, ho0, hb⟩; refine ⟨_, rfl, ?_⟩; have HO251 := am (Kd.R_lower (Kd.R_new' (Kd.R_new' ho0 (Kd.R_lt (ra HO246))) (Kd.R_lt (ra HO248))) (below_size (bl HB))); replace HO246 := am (Kd.R_elder' (ra HO246) (Kd.R_base ho0) hb); replace HO248 := am (Kd.R_elder' (ra HO248) (Kd.R_base ho0) hb); replace HB := kH HB hb; (try clear hb); (try clear ho0)))
 go_loopg [3, 6] k (fun kq v3 v6 w' => ∃ (x3_1 : List Int) (x6_1 : Int), v6 = .int .i64 x6_1 ∧ Aside0 (spec_l1Sha.l0 kq x3_1 t244 t249 x6_1 = some r) ∧ Aside0 (kq ≤ k) ∧ Aside0 (Kd.R (Kd.int .i64) 3 w' w.heap.size (fun k_ => some k_ ≠ (v247 : Value).ownBlock ∧ some k_ ≠ (v250 : Value).ownBlock) v3 x3_1) ∧ Aside0 (Kd.R (Kd.int .i64) 3 w' w.heap.size (fun k_ => some k_ ≠ (v3 : Value).ownBlock ∧ some k_ ≠ (v250 : Value).ownBlock) v247 t244) ∧ Aside0 (Kd.R (Kd.int .i64) 3 w' w.heap.size (fun k_ => some k_ ≠ (v3 : Value).ownBlock ∧ some k_ ≠ (v247 : Value).ownBlock) v250 t249) ∧ Aside0 (Below w.heap.size w w'))
 case atStart => exact ⟨(t243), (0), xR, H', ⟨Nat.le_refl _⟩, ⟨ra HO246⟩, ⟨ra HO248⟩, ⟨rM HO251 (fun _ hk => ⟨hk.1.2, hk.2⟩)⟩, ⟨bl HB⟩⟩
 case round =>
  clear H'
  try clear c1
  try clear p2
  obtain ⟨x3_1, x6_1, rfl, HA, HK1, HO_3, HO_4, HO_5, HB⟩ := hrel
  cases gk with
  | zero => exact absurd HA.out (by simp [spec_l1Sha.l0])
  | succ k1 =>
   have H := HA.out
   clear HA
   simp only [spec_l1Sha.l0] at H
   by_cases c6 : x6_1 < (t249.length : Int)
   rotate_left
   ·rw [if_neg c6] at H
    have c6b0 := decide_eq_false c6
    clear c6
    obtain rfl := Option.some.inj H
    obtain ⟨Ao19, co19, eo19⟩ := Kd.R_slice HO_5.out
    subst eo19
    go_wp2
    go_ret
    exact ⟨_, xE, rM HO_3 (fun _ hk => trivial), bl HB⟩
   rw [if_pos c6] at H
   have c6b0 := decide_eq_true c6
   clear c6
   replace H := ip H
   obtain ⟨c7, H⟩ := H
   have c7b0 := eq_true c7
   have c7b1 := decide_eq_true c7
   clear c7
   replace H := ip H
   obtain ⟨c8, H⟩ := H
   have c8b0 := eq_true c8
   have c8b1 := decide_eq_true c8
   replace H := ip H
   obtain ⟨c9, H⟩ := H
   have c9b0 := eq_true c9
   have c9b1 := decide_eq_true c9
   obtain ⟨y252, Ny252⟩ := yA ((t249.take ((wrap64 (x6_1 + 64)) : Int).toNat).drop (x6_1 : Int).toNat : List Int)
   rw [← Ny252.out] at H
   replace H := oa H
   obtain ⟨t256, A10, H⟩ := H
   replace H := oa H
   obtain ⟨t259, A11, H⟩ := H
   have H' := Aside0.mk H
   clear H
   obtain ⟨Ao12, co12, eo12⟩ := Kd.R_slice HO_5.out
   subst eo12
   have q13 : ((wrap64 (x6_1 + 64)) : Int) ≤ ((t249.length : Int) : Int) := of_decide_eq_true xA
   obtain ⟨i013, hi013, _, hsz13, _⟩ := info_parts info3
   have hroom13 : t249.length ≤ co12 := (Kd.R_reads' HO_5.out).2.1
   have hC13 : Kd.C (Kd.int .i64) _ Ao12 t249.length t249 := (Kd.R_reads' HO_5.out).2.2
   have ql13 : (x6_1 : Int) ≤ ((wrap64 (x6_1 + 64)) : Int) := of_decide_eq_true xA
   have q013 : (0 : Int) ≤ (x6_1 : Int) := of_decide_eq_true xA
   have hcut13 := cut_mid (P := Tryd.prog) 114 3 .i64 .i64 Tryd.underlying114 hi013 1 hsz13 Ao12 t249.length co12 x6_1 (wrap64 (x6_1 + 64)) q013 ql13 q13 hroom13
   have hr13 := Kd.C_mid (lo := (x6_1 : Int).toNat) (hi := ((wrap64 (x6_1 + 64)) : Int).toNat) (c := co12) hC13 (by omega) (by omega) hroom13
   obtain ⟨A13, hA13⟩ : ∃ A1, A1 = (if co12 = (x6_1 : Int).toNat then Ao12 else (Ao12 : Option Addr).map (·.add ((x6_1 : Int).toNat * 1))) := ⟨_, rfl⟩
   obtain ⟨c13, hc13⟩ : ∃ c1, c1 = co12 - (x6_1 : Int).toNat := ⟨_, rfl⟩
   have hy13 : y252.length = ((wrap64 (x6_1 + 64)) : Int).toNat - (x6_1 : Int).toNat := (by rw [Ny252.out, List.length_drop, List.length_take] <;> omega)
   rw [show ((t249).take ((wrap64 (x6_1 + 64)) : Int).toNat).drop (x6_1 : Int).toNat = y252 from Ny252.out.symm] at hr13
   replace hr13 : Kd.C (Kd.int .i64) _ A13 y252.length y252 := (by rw [hA13]; exact hr13)
   rw [← hy13, ← hA13, ← hc13] at hcut13
   have HR255 := Aside0.mk hr13
   have HC255 := Aside0.mk (show y252.length ≤ c13 from by rw [hy13, hc13]; exact Nat.sub_le_sub_right (Nat.le_trans (by omega) hroom13) _)
   clear hr13 hC13 hroom13 hi013 hsz13 hc13
   have KY13 := Aside0.mk hy13
   have KA13 := Aside0.mk hA13
   clear hy13 hA13
   have KL13 := Aside0.mk (show ((wrap64 (x6_1 + 64)) : Int).toNat ≤ t249.length from by omega)
   have KM13 := Aside0.mk (show (x6_1 : Int).toNat ≤ ((wrap64 (x6_1 + 64)) : Int).toNat from by omega)
   replace q13 := eq_true q13
   go_wp2_with ((with_reducible refine gg ?_); first | (refine gL 25 Tryd.func126 #[.slice A13 y252.length c13] ?_; (with_reducible refine (spec_l1Words.calls k1 _ _ y252 t256 _ ?side1 ?side2 A10.out).mono ?_); (case side1 => repeat (first | exact (by repeat (first | (with_reducible exact HR255.out) | (with_reducible refine Kd.C_alloc ?_ _) | (with_reducible refine Kd.C_drewN ?_ _) | (with_reducible refine Kd.C_drew ?_) | exact HR255.out)) | (with_reducible refine Kd.C_alloc ?_ _) | (with_reducible refine Kd.C_drewN ?_ _) | (with_reducible refine Kd.C_drew ?_))); (case side2 => exact HC255.out); rintro e w14 ⟨v257, rfl, ho0, hb⟩; refine ⟨_, rfl, ?_⟩; have HO258 := am (Kd.R_lower (Kd.R_new' (Kd.R_new' (Kd.R_new' ho0 (Kd.R_lt (ra HO_3))) (Kd.R_lt (ra HO_4))) (Kd.R_lt (ra HO_5))) (below_size (bl HB))); replace HO_3 := am (Kd.R_elder' (ra HO_3) (Kd.R_base ho0) hb); replace HO_4 := am (Kd.R_elder' (ra HO_4) (Kd.R_base ho0) hb); replace HO_5 := am (Kd.R_elder' (ra HO_5) (Kd.R_base ho0) hb); replace HR255 := am (Kd.C_below (by repeat (first | (with_reducible exact HR255.out) | (with_reducible refine Kd.C_alloc ?_ _) | (with_reducible refine Kd.C_drewN ?_ _) | (with_reducible refine Kd.C_drew ?_) | exact HR255.out)) hb); replace HB := kH HB hb; (try clear hb); (try clear ho0); obtain ⟨Ao15, co15, eo15⟩ := Kd.R_slice HO_3.out; subst eo15; obtain ⟨Ao16, co16, eo16⟩ := Kd.R_slice HO258.out; subst eo16; obtain ⟨Ao17, co17, eo17⟩ := Kd.R_slice HO_4.out; subst eo17) | (refine gL 27 Tryd.func125 #[.slice Ao15 x3_1.length co15, .slice Ao16 t256.length co16, .slice Ao17 t244.length co17] ?_; (with_reducible refine (spec_l1Mix.calls k1 _ _ x3_1 _ _ t256 _ _ t244 t259 _ ?side1 ?side2 ?side3 ?side4 ?side5 ?side6 A11.out).mono ?_); (case side1 => exact cr (Kd.R_reads' HO_3.out).2.2); (case side2 => exact sl HO_3); (case side3 => exact cr (Kd.R_reads' HO258.out).2.2); (case side4 => exact sl HO258); (case side5 => exact cr (Kd.R_reads' HO_4.out).2.2); (case side6 => exact sl HO_4); rintro e w18 ⟨v260, rfl, ho0, hb⟩; refine ⟨_, rfl, ?_⟩; have HO261 := am (Kd.R_lower (Kd.R_new' (Kd.R_new' (Kd.R_new' (Kd.R_new' ho0 (Kd.R_lt (ra HO_3))) (Kd.R_lt (ra HO_4))) (Kd.R_lt (ra HO_5))) (Kd.R_lt (ra HO258))) (below_size (bl HB))); replace HO_3 := am (Kd.R_elder' (ra HO_3) (Kd.R_base ho0) hb); replace HO_4 := am (Kd.R_elder' (ra HO_4) (Kd.R_base ho0) hb); replace HO_5 := am (Kd.R_elder' (ra HO_5) (Kd.R_base ho0) hb); replace HO258 := am (Kd.R_elder' (ra HO258) (Kd.R_base ho0) hb); replace HR255 := am (Kd.C_below (by repeat (first | (with_reducible exact HR255.out) | (with_reducible refine Kd.C_alloc ?_ _) | (with_reducible refine Kd.C_drewN ?_ _) | (with_reducible refine Kd.C_drew ?_) | exact HR255.out)) hb); replace HB := kH HB hb; (try clear hb); (try clear ho0)))
   go_roundg k1
   case measure => have := HK1.out; omega
   case rel => exact ⟨(t259), (wrap64 (x6_1 + 64)), xR, H', ⟨xL HK1⟩, ⟨rM HO261 (fun _ hk => ⟨hk.1.1.2, hk.1.2⟩)⟩, ⟨rM HO_4 (fun _ hk => ⟨hk.2, hk.1.1.2⟩)⟩, ⟨rM HO_5 (fun _ hk => ⟨hk.2, hk.1.1.2⟩)⟩, ⟨bl HB⟩⟩
def spec_l1Hex.l0 : Nat → Int → List Int → Int → Option (ByteArray)
 | 0, _, _, _ => none
 | k + 1, x0, x3, x4 => if x4 ≥ 0 then (if 0 ≤ (wrap64 (4 * x4)) then (if 0 ≤ (Int.tmod (shr .i64 x0 (wrap64 (4 * x4))) 16) then (if (Int.tmod (shr .i64 x0 (wrap64 (4 * x4))) 16) < 16 then (if x3.length < 140737488355328 then (spec_l1Hex.l0 k x0 (x3 ++ [bt (⟨#[48, 49, 50, 51, 52, 53, 54, 55, 56, 57, 97, 98, 99, 100, 101, 102]⟩ : ByteArray) (Int.tmod (shr .i64 x0 (wrap64 (4 * x4))) 16)]) (wrap64 (x4 - 1))) else (none)) else (none)) else (none)) else (none)) else (some (strOfNums x3))
def spec_l1Hex.f (k : Nat) (a0 : Int) : Option (ByteArray) := spec_l1Hex.l0 k a0 (([] : List Int)) 7
theorem spec_l1Hex.mono_l : ∀ k, (∀ y0 y1 y2, LeO (spec_l1Hex.l0 k y0 y1 y2) (spec_l1Hex.l0 (k + 1) y0 y1 y2))
 | 0 => fun _ _ _ r h => by simp [spec_l1Hex.l0] at h
 | k + 1 => by
  have ih0 := spec_l1Hex.mono_l k
  ·intro y0 y1 y2
   unfold spec_l1Hex.l0
   exact mo1 ih0
theorem spec_l1Hex.mono : ∀ a0 k, LeO (spec_l1Hex.f k a0) (spec_l1Hex.f (k + 1) a0) := by
 intro a0 k
 have ih0 := spec_l1Hex.mono_l k
 unfold spec_l1Hex.f
 exact mo1 ih0
theorem spec_l1Hex.calls (k : Nat) (a0 : Int) (r : ByteArray) (w : World) (h : spec_l1Hex.f k a0 = some r) :
  Calls Tryd.prog 112 #[.int .i64 a0] w fun e w' => e = .returned (.string r) ∧ Below w.heap.size w w' := by
 have HB := Aside0.mk (Below.refl w.heap.size w)
 have H : (spec_l1Hex.l0 k a0 (([] : List Int)) 7) = some r := h
 clear h
 obtain ⟨y262, Ny262⟩ := yA (([] : List Int) : List Int)
 rw [← Ny262.out] at H
 have H' := Aside0.mk H
 clear H
 go_enter Tryd.func112, Tryd.ntmps112
 go_wp2_with ((with_reducible refine gate_dst (N := 5) rfl ?_); refine Kd.R_lit (Kd.int .u8) _ 5 ?hg (N := 5) ?hd (xs := ([] : List Int)) (inner := []) (ok := fun _ => True) (okp := fun _ => True) ?hr ?hp (fun _ hk => hk) trivial (Below.refl _ _) (Nat.le_refl _) (by simp) ?_; (case hd => rfl); (case hg => rfl); (case hr => first | (go_simp; done) | (go_simp; rfl)); (case hp => exact xP); intro v263 w2 ho3 hb hg_ hnew_; clear hg_ hnew_; (first | rw [← Ny262.out] at ho3 | (simp only [Int.reduceToNat] at ho3; rw [← Ny262.out] at ho3)); have HO264 := am (Kd.R_lower ho3 (below_size (bl HB))); replace HB := kH HB hb; clear hb ho3)
 go_loopg [3, 4] k (fun kq v3 v4 w' => ∃ (x3_1 : List Int) (x4_1 : Int), v4 = .int .i64 x4_1 ∧ Aside0 (spec_l1Hex.l0 kq a0 x3_1 x4_1 = some r) ∧ Aside0 (kq ≤ k) ∧ Aside0 (Kd.R (Kd.int .u8) 5 w' w.heap.size (fun _ => True) v3 x3_1) ∧ Aside0 (Below w.heap.size w w'))
 case atStart => exact ⟨(y262), (7), xR, H', ⟨Nat.le_refl _⟩, ⟨ra HO264⟩, ⟨bl HB⟩⟩
 case round =>
  clear H'
  try clear c1
  try clear p2
  obtain ⟨x3_1, x4_1, rfl, HA, HK1, HO_3, HB⟩ := hrel
  cases gk with
  | zero => exact absurd HA.out (by simp [spec_l1Hex.l0])
  | succ k1 =>
   have H := HA.out
   clear HA
   simp only [spec_l1Hex.l0] at H
   by_cases c4 : x4_1 ≥ 0
   rotate_left
   ·rw [if_neg c4] at H
    have c4b0 := decide_eq_false c4
    clear c4
    obtain rfl := Option.some.inj H
    have hcv14 := own_string (P := Tryd.prog) Tryd.underlying53 Tryd.underlying5 Tryd.underlying9 (Kd.own_of_R HO_3.out)
    go_wp2
    go_ret
    exact ⟨xE, bl HB⟩
   rw [if_pos c4] at H
   have c4b0 := decide_eq_true c4
   clear c4
   obtain ⟨ji5, hji5⟩ := je (wrap64 (4 * x4_1))
   first | rw [hji5] at H | simp only [hji5] at H
   have hji5w : (IntKind.i64.wrap (4 * x4_1)) = ji5 := (i64_w _).trans hji5
   replace H := ip H
   obtain ⟨c6, H⟩ := H
   have c6b0 := eq_true c6
   have c6b1 := decide_eq_true c6
   clear c6
   obtain ⟨ji7, hji7⟩ := je (shr .i64 a0 (ji5))
   first | rw [hji7] at H | simp only [hji7] at H
   have hji7_ : (a0 / 2 ^ min (ji5).toNat 64) = ji7 := hji7
   have hji7z : (ji5) ≤ 64 → (a0 / 2 ^ (ji5).toNat) = ji7 := shr_small hji7
   obtain ⟨ji8, hji8⟩ := je (Int.tmod (ji7) 16)
   first | rw [hji8] at H | simp only [hji8] at H
   replace H := ipd H
   obtain ⟨c9b0, H⟩ := H
   replace H := ipd H
   obtain ⟨c10b0, H⟩ := H
   replace H := ipa H
   obtain ⟨LMc12, H⟩ := H
   obtain ⟨y265, Ny265⟩ := yA (x3_1 ++ [bt (⟨#[48, 49, 50, 51, 52, 53, 54, 55, 56, 57, 97, 98, 99, 100, 101, 102]⟩ : ByteArray) (ji8)] : List Int)
   rw [← Ny265.out] at H
   have H' := Aside0.mk H
   clear H
   have p11 : 0 ≤ ((ji8) : Int) := of_decide_eq_true xA
   have q11 : (ji8) < (16 : Int) := of_decide_eq_true xA
   have hx11 := bt_at (⟨#[48, 49, 50, 51, 52, 53, 54, 55, 56, 57, 97, 98, 99, 100, 101, 102]⟩ : ByteArray) (ji8)
   replace p11 := eq_true p11
   replace q11 := eq_true q11
   go_wp2_with ((with_reducible refine gate_builtin (b := .append) (xs := #[.tmp 10, .tmp 17]) rfl ?_); at_builtin; refine Kd.R_append (Kd.int .u8) (w0 := w) w.heap.size rfl (.tmp 10) (.tmp 17) 53 5 (.int .u8 0) 1 rfl Tryd.underlying53 info5 rfl (by decide) (by omega) u3 x3_1 (bt (⟨#[48, 49, 50, 51, 52, 53, 54, 55, 56, 57, 97, 98, 99, 100, 101, 102]⟩ : ByteArray) (ji8)) [.int .u8 (bt (⟨#[48, 49, 50, 51, 52, 53, 54, 55, 56, 57, 97, 98, 99, 100, 101, 102]⟩ : ByteArray) (ji8))] (fun _ => True) (fun _ => False) rfl rfl ?aP (fun _ hk => hk.elim) ?aF ?aO ?aB ?aS ?aL ?_; (case aP => exact rfl); (case aB => exact (bl HB)); (case aF => exact (fun _ _ => trivial)); (case aO => exact (ra HO_3)); (case aS => exact (below_size (bl HB))); (case aL => have := LMc12.out; omega); intro v266 w13 ho hb hg hat; rw [← Ny265.out] at ho; have n0_ := Aside0.mk (hb); have n1_ := Aside0.mk (ho); clear HB; clear HO_3; have HB := n0_; have HO267 := n1_; clear n0_ n1_; clear ho hb hg hat)
   go_roundg k1
   case measure => have := HK1.out; omega
   case rel => exact ⟨(y265), (wrap64 (x4_1 - 1)), xR, H', ⟨xL HK1⟩, ⟨ra HO267⟩, ⟨bl HB⟩⟩
def spec_l1Sum.f (k : Nat) (a0 : ByteArray) : Option (ByteArray) := (spec_l1Sha.f k a0).bind fun t268 => (if 0 < (t268.length : Int) then ((spec_l1Hex.f k (rd t268 0)).bind fun t272 => (if 1 < (t268.length : Int) then ((spec_l1Hex.f k (rd t268 1)).bind fun t274 => (if t272.size + t274.size ≤ 9223372036854775807 then (some (t272 ++ t274)) else (none))) else (none))) else (none))
theorem spec_l1Sum.mono : ∀ a0 k, LeO (spec_l1Sum.f k a0) (spec_l1Sum.f (k + 1) a0) := by
 intro a0 k
 unfold spec_l1Sum.f
 exact mo2 spec_l1Hex.mono spec_l1Sha.mono
def spec_l1Sum.T2 : Bool × List (List Nat × List Nat) := (true, [([], []), ([0], [0]), ([1], [1]), ([2], [2]), ([], []), ([4], [4]), ([5], [5]), ([6, 3], [6]), ([3, 7], [3, 7]), ([8, 7, 0, 1, 2, 3, 4, 5, 6, 7, 8], [8])])
def spec_l1Sum.B2 : List Nat := [0, 1, 3, 7, 0, 16, 48, 127, 255, 511]
theorem spec_l1Sum.tab2 : rtab .any (opsOf Tryd.f96 2) = spec_l1Sum.T2 := by kernel_rfl
theorem spec_l1Sum.bits2 : waitsOk spec_l1Sum.T2.2 spec_l1Sum.B2 = true := by kernel_rfl
theorem spec_l1Sum.calls (k : Nat) (a0 : ByteArray) (r : ByteArray) (w : World) (h : spec_l1Sum.f k a0 = some r) :
  Calls Tryd.prog 96 #[.string a0] w fun e w' => e = .returned (.string r) ∧ Below w.heap.size w w' := by
 have HB := Aside0.mk (Below.refl w.heap.size w)
 have H : ((spec_l1Sha.f k a0).bind fun t268 => (if 0 < (t268.length : Int) then ((spec_l1Hex.f k (rd t268 0)).bind fun t272 => (if 1 < (t268.length : Int) then ((spec_l1Hex.f k (rd t268 1)).bind fun t274 => (if t272.size + t274.size ≤ 9223372036854775807 then (some (t272 ++ t274)) else (none))) else (none))) else (none))) = some r := h
 clear h
 replace H := oa H
 obtain ⟨t268, A2, H⟩ := H
 replace H := ip H
 obtain ⟨c3, H⟩ := H
 have c3b0 := decide_eq_true c3
 have c3b1 : decide (0 < t268.length) = true := decide_eq_true (by omega)
 clear c3
 replace H := oa H
 obtain ⟨t272, A4, H⟩ := H
 replace H := ip H
 obtain ⟨c5, H⟩ := H
 have c5b0 := decide_eq_true c5
 have c5b1 : decide (1 < t268.length) = true := decide_eq_true (by omega)
 clear c5
 replace H := oa H
 obtain ⟨t274, A6, H⟩ := H
 replace H := ip H
 obtain ⟨c7, H⟩ := H
 have c7b0 := eq_true c7
 have c7b1 := decide_eq_true c7
 have c7b2 := nf c7
 obtain rfl := Option.some.inj H
 go_enter Tryd.func96, Tryd.ntmps96
 try go_wp2_with ((with_reducible refine gg ?_); refine gL 5 Tryd.func111 #[.string a0] ?_; (with_reducible refine (spec_l1Sha.calls k a0 t268 _ A2.out).mono ?_); rintro e w8 ⟨v269, rfl, ho0, hb⟩; refine ⟨_, rfl, ?_⟩; have HO270 := am (Kd.R_lower ho0 (below_size (bl HB))); replace HB := kH HB hb; (try clear hb); (try clear ho0))
 replace HO270 := am (Kd.R_drew HO270.out)
 replace HB := am (below_drew1 HB.out)
 obtain ⟨Ao10, co10, eo10⟩ := Kd.R_slice HO270.out
 (first | subst eo10 | (injection eo10 with f1_ f2_ f3_; have f4_ := f1_.symm; have f5_ := f3_.symm; clear f1_ f2_ f3_; subst f4_; subst f5_))
 have p271 : 0 ≤ (0 : Int) := (by omega)
 have q271 : 0 < (t268.length : Int) := of_decide_eq_true xA
 obtain ⟨ad271, e271, hx271_0⟩ := Kd.at_int (Kd.R_reads' HO270.out).2.2 0 p271 q271
 cases e271
 have qi271 : (0 < t268.length) = True := eq_true (by omega)
 (try rw [show ((0 : Int)).toNat = 0 from rfl] at hx271_0)
 (try rw [Addr.add_zero'] at hx271_0)
 replace p271 := eq_true p271
 replace q271 := eq_true q271
 have p273 : 0 ≤ (1 : Int) := (by omega)
 have q273 : 1 < (t268.length : Int) := of_decide_eq_true xA
 obtain ⟨ad273, e273, hx273_0⟩ := Kd.at_int (Kd.R_reads' HO270.out).2.2 1 p273 q273
 obtain rfl : ad271 = ad273 := (by injection e273)
 (try simp only [show (1 : Int).toNat = 1 from rfl, Nat.reduceMul, Nat.reduceEqDiff, Go.Addr.add, ↓reduceIte] at hx273_0)
 have qi273 : (1 < t268.length) = True := eq_true (by omega)
 (try rw [show ((1 : Int)).toNat = 1 from rfl] at hx273_0)
 replace p273 := eq_true p273
 replace q273 := eq_true q273
 refine start_ (n := 10) (S := fun w' => w'.cell? ad271 = some (.int .i64 (rd t268 0)) ∧ w'.cell? ⟨ad271.block, ad271.off + 1, none⟩ = some (.int .i64 (rd t268 1))) (ds := []) (bm 10 0) (by kernel_rfl) rfl rfl ⟨hx271_0, hx273_0⟩ (fun hHeld => ?_); refine with_tabW spec_l1Sum.tab2 spec_l1Sum.bits2 (fun HT_ HW_ => ?_)
 generalize w8.drew = w9 at HO270 HB hx271_0 hx273_0 hHeld ⊢
 refine pA 0 6 (bm 10 1) HT_ ?_
 refine pA 1 7 (bm 10 3) HT_ ?_
 refine pA 4 10 (bm 10 19) HT_ ?_
 refine pA 5 11 (bm 10 51) HT_ ?_
 refine tA 2 8 (bm 10 55) HT_ HW_ hHeld ?_
 refine tA 6 12 (bm 10 119) HT_ HW_ hHeld ?_
 refine oA 3 (some 9) (bm 10 127) HT_ fun K hK => ?_
 refine gA Tryd.func112 #[.int .i64 (rd t268 0)] ?_
 with_reducible refine (spec_l1Hex.calls k (rd t268 0) t272 _ A4.out).mono ?_
 rintro e w11 ⟨rfl, hb⟩
 have HS0_ := cB hb hHeld.1
 have HS1_ := cB hb hHeld.2
 refine ⟨_, rfl, ?_⟩
 replace HO270 := rk HO270 hb
 replace HB := kH HB hb
 (try clear hb)
 (try clear hb2)
 (try clear hk)
 (try clear hi)
 refine hK.out _ _ ⟨HS0_, HS1_⟩ (fun hHeld => ?_)
 clear hK K
 refine nA (some 9) ?_
 refine oA 7 (some 13) (bm 10 255) HT_ fun K hK => ?_
 refine gA Tryd.func112 #[.int .i64 (rd t268 1)] ?_
 with_reducible refine (spec_l1Hex.calls k (rd t268 1) t274 _ A6.out).mono ?_
 rintro e w12 ⟨rfl, hb⟩
 have HS0_ := cB hb hHeld.1
 have HS1_ := cB hb hHeld.2
 refine ⟨_, rfl, ?_⟩
 replace HO270 := rk HO270 hb
 replace HB := kH HB hb
 (try clear hb)
 (try clear hb2)
 (try clear hk)
 (try clear hi)
 refine hK.out _ _ ⟨HS0_, HS1_⟩ (fun hHeld => ?_)
 clear hK K
 refine nA (some 13) ?_
 refine pA 8 14 (bm 10 511) HT_ ?_
 refine pA 9 2 (bm 10 1023) HT_ ?_
 refine done_ (done_of HT_.out (by kernel_rfl)) ?_
 try go_wp2
 go_ret
 exact ⟨xE, bl HB⟩
def spec_l20Item.f (k : Nat) (s0_0 : List Int) (s0_1 : Int) : Option (ByteArray × Int) := (spec_l20Rd_of.f k s0_0 s0_1 (([(⟨#[97]⟩ : ByteArray), (⟨#[98]⟩ : ByteArray), (⟨#[99]⟩ : ByteArray), (⟨#[100]⟩ : ByteArray), (⟨#[97, 110, 110]⟩ : ByteArray), (⟨#[98, 111, 98]⟩ : ByteArray), (⟨#[99, 121, 100]⟩ : ByteArray), (⟨#[120, 49]⟩ : ByteArray), (⟨#[120, 50]⟩ : ByteArray), (⟨#[120, 51]⟩ : ByteArray), (⟨#[122, 122]⟩ : ByteArray), (⟨#[108, 111, 110, 103, 110, 97, 109, 101]⟩ : ByteArray)] : List ByteArray))).bind fun bt278 => (some (bt278.1, bt278.2))
theorem spec_l20Item.mono : ∀ a0 a1 k, LeO (spec_l20Item.f k a0 a1) (spec_l20Item.f (k + 1) a0 a1) := by
 intro a0 a1 k
 unfold spec_l20Item.f
 exact mo1 spec_l20Rd_of.mono
theorem spec_l20Item.calls (k : Nat) (g : Nat) (s0_0 : List Int) (s0_1 : Int) (r1 : ByteArray) (r2 : Int) (w0 w : World) (hI : IsS111 w0 w g s0_0 s0_1) (hB : Below w0.heap.size w0 w) (h : spec_l20Item.f k s0_0 s0_1 = some (r1, r2)) :
  Calls Tryd.prog 97 #[.pointer (some ⟨g, 0, none⟩)] w fun e w' => e = .returned (.string r1) ∧ IsS111 w0 w' g s0_0 r2 ∧ Below w0.heap.size w0 w' ∧ KeepBut w w' g none := by
 have HI0 := Aside0.mk hI
 have HK := Aside0.mk (KeepBut.refl w g none)
 have HL := Aside0.mk hB.size
 clear hI
 have HW0 := Aside0.mk hB.size
 have HB := Aside0.mk hB
 clear hB
 have H : ((spec_l20Rd_of.f k s0_0 s0_1 (([(⟨#[97]⟩ : ByteArray), (⟨#[98]⟩ : ByteArray), (⟨#[99]⟩ : ByteArray), (⟨#[100]⟩ : ByteArray), (⟨#[97, 110, 110]⟩ : ByteArray), (⟨#[98, 111, 98]⟩ : ByteArray), (⟨#[99, 121, 100]⟩ : ByteArray), (⟨#[120, 49]⟩ : ByteArray), (⟨#[120, 50]⟩ : ByteArray), (⟨#[120, 51]⟩ : ByteArray), (⟨#[122, 122]⟩ : ByteArray), (⟨#[108, 111, 110, 103, 110, 97, 109, 101]⟩ : ByteArray)] : List ByteArray))).bind fun bt278 => (some (bt278.1, bt278.2))) = some (r1, r2) := h
 clear h
 obtain ⟨y275, Ny275⟩ := yA (([(⟨#[97]⟩ : ByteArray), (⟨#[98]⟩ : ByteArray), (⟨#[99]⟩ : ByteArray), (⟨#[100]⟩ : ByteArray), (⟨#[97, 110, 110]⟩ : ByteArray), (⟨#[98, 111, 98]⟩ : ByteArray), (⟨#[99, 121, 100]⟩ : ByteArray), (⟨#[120, 49]⟩ : ByteArray), (⟨#[120, 50]⟩ : ByteArray), (⟨#[120, 51]⟩ : ByteArray), (⟨#[122, 122]⟩ : ByteArray), (⟨#[108, 111, 110, 103, 110, 97, 109, 101]⟩ : ByteArray)] : List ByteArray) : List ByteArray)
 rw [← Ny275.out] at H
 replace H := Option.bind_eq_some_iff.mp H
 obtain ⟨⟨t278, t279⟩, A20, H⟩ := H
 have A2 := Aside0.mk A20
 clear A20
 simp only [Option.some.injEq, Prod.mk.injEq] at H
 obtain ⟨rfl, rfl⟩ := H
 go_enter Tryd.func97, Tryd.ntmps97
 go_wp2_with (first | ((with_reducible refine gate_dst (N := 4) rfl ?_); refine Kd.R_lit Kd.string _ 9 ?hg (N := 4) ?hd (xs := ([(⟨#[97]⟩ : ByteArray), (⟨#[98]⟩ : ByteArray), (⟨#[99]⟩ : ByteArray), (⟨#[100]⟩ : ByteArray), (⟨#[97, 110, 110]⟩ : ByteArray), (⟨#[98, 111, 98]⟩ : ByteArray), (⟨#[99, 121, 100]⟩ : ByteArray), (⟨#[120, 49]⟩ : ByteArray), (⟨#[120, 50]⟩ : ByteArray), (⟨#[120, 51]⟩ : ByteArray), (⟨#[122, 122]⟩ : ByteArray), (⟨#[108, 111, 110, 103, 110, 97, 109, 101]⟩ : ByteArray)] : List ByteArray)) (inner := [.string (⟨#[97]⟩ : ByteArray), .string (⟨#[98]⟩ : ByteArray), .string (⟨#[99]⟩ : ByteArray), .string (⟨#[100]⟩ : ByteArray), .string (⟨#[97, 110, 110]⟩ : ByteArray), .string (⟨#[98, 111, 98]⟩ : ByteArray), .string (⟨#[99, 121, 100]⟩ : ByteArray), .string (⟨#[120, 49]⟩ : ByteArray), .string (⟨#[120, 50]⟩ : ByteArray), .string (⟨#[120, 51]⟩ : ByteArray), .string (⟨#[122, 122]⟩ : ByteArray), .string (⟨#[108, 111, 110, 103, 110, 97, 109, 101]⟩ : ByteArray)]) (ok := fun _ => True) (okp := fun _ => True) ?hr ?hp (fun _ hk => hk) trivial (Below.refl _ _) (Nat.le_refl _) (by simp) ?_; (case hd => rfl); (case hg => rfl); (case hr => first | (go_simp; done) | (go_simp; rfl)); (case hp => exact xP); intro v276 w3 ho4 hb hg_ hnew_; clear hg_ hnew_; (first | rw [← Ny275.out] at ho4 | (simp only [Int.reduceToNat] at ho4; rw [← Ny275.out] at ho4)); have HO277 := am (Kd.R_lower ho4 (xZ HK)); replace HK := kK HK hb; replace HB := kHi HB hb; replace HI0 := iK HI0 hb; clear hb ho4; obtain ⟨Ao5, co5, eo5⟩ := Kd.R_slice HO277.out; subst eo5) | ((with_reducible refine gg ?_); refine gL 5 Tryd.func86 #[.pointer (some ⟨g, 0, none⟩), .slice Ao5 y275.length co5] ?_; (with_reducible refine (spec_l20Rd_of.calls k g s0_0 s0_1 _ _ y275 t278 t279 w0 _ ?side1 ?side2 ?side3 ?side4 ?side5 A2.out).mono ?_); (case side1 => exact iX HI0); (case side2 => exact xBi HB); (case side3 => exact cr (Kd.R_reads' HO277.out).2.2); (case side4 => exact sl HO277); (case side5 => exact far_slice (IsS111.own_ne HI0.out HO277.out (by decide))); rintro e w6 ⟨rfl, hi, hb, hk⟩; refine ⟨_, rfl, ?_⟩; replace HO277 := iR HI0 HO277 hk; replace HK := kT HK hk; replace HB := am (hb); replace HI0 := am (hi); (try clear hb)))
 go_ret
 exact ⟨xE, iX HI0, xBi HB, xK HK⟩
def spec_l20Sum.f (k : Nat) (s0_0 : List Int) (s0_1 : Int) : Option (ByteArray × Int) := (spec_l20Rd_pick.f k s0_0 s0_1 10).bind fun bt280 => (if bt280.1 = 0 then ((spec_l20Rd_of.f k s0_0 bt280.2 (([(⟨#[]⟩ : ByteArray), (⟨#[48, 48]⟩ : ByteArray), (⟨#[103, 48, 48, 48, 48, 48, 48, 48, 48, 48, 48, 48, 48, 48, 48, 48]⟩ : ByteArray), (⟨#[65, 66, 67, 68, 69, 70, 48, 49, 50, 51, 52, 53, 54, 55, 56, 57]⟩ : ByteArray)] : List ByteArray))).bind fun bt285 => (some (bt285.1, bt285.2))) else ((spec_l20Item.f k s0_0 bt280.2).bind fun bt287 => ((spec_l1Sum.f k bt287.1).bind fun t289 => (some (t289, bt287.2)))))
theorem spec_l20Sum.mono : ∀ a0 a1 k, LeO (spec_l20Sum.f k a0 a1) (spec_l20Sum.f (k + 1) a0 a1) := by
 intro a0 a1 k
 unfold spec_l20Sum.f
 exact mo4 spec_l1Sum.mono spec_l20Item.mono spec_l20Rd_of.mono spec_l20Rd_pick.mono
theorem spec_l20Sum.calls (k : Nat) (g : Nat) (s0_0 : List Int) (s0_1 : Int) (r1 : ByteArray) (r2 : Int) (w0 w : World) (hI : IsS111 w0 w g s0_0 s0_1) (hB : Below w0.heap.size w0 w) (h : spec_l20Sum.f k s0_0 s0_1 = some (r1, r2)) :
  Calls Tryd.prog 83 #[.pointer (some ⟨g, 0, none⟩)] w fun e w' => e = .returned (.string r1) ∧ IsS111 w0 w' g s0_0 r2 ∧ Below w0.heap.size w0 w' ∧ KeepBut w w' g none := by
 have HI0 := Aside0.mk hI
 have HK := Aside0.mk (KeepBut.refl w g none)
 have HL := Aside0.mk hB.size
 clear hI
 have HW0 := Aside0.mk hB.size
 have HB := Aside0.mk hB
 clear hB
 have H : ((spec_l20Rd_pick.f k s0_0 s0_1 10).bind fun bt280 => (if bt280.1 = 0 then ((spec_l20Rd_of.f k s0_0 bt280.2 (([(⟨#[]⟩ : ByteArray), (⟨#[48, 48]⟩ : ByteArray), (⟨#[103, 48, 48, 48, 48, 48, 48, 48, 48, 48, 48, 48, 48, 48, 48, 48]⟩ : ByteArray), (⟨#[65, 66, 67, 68, 69, 70, 48, 49, 50, 51, 52, 53, 54, 55, 56, 57]⟩ : ByteArray)] : List ByteArray))).bind fun bt285 => (some (bt285.1, bt285.2))) else ((spec_l20Item.f k s0_0 bt280.2).bind fun bt287 => ((spec_l1Sum.f k bt287.1).bind fun t289 => (some (t289, bt287.2)))))) = some (r1, r2) := h
 clear h
 replace H := Option.bind_eq_some_iff.mp H
 obtain ⟨⟨t280, t281⟩, A20, H⟩ := H
 have A2 := Aside0.mk A20
 clear A20
 go_enter Tryd.func83, Tryd.ntmps83
 go_upto_if 5 with ((with_reducible refine gg ?_); refine gL 4 Tryd.func55 #[.pointer (some ⟨g, 0, none⟩), .int .i64 10] ?_; (with_reducible refine (spec_l20Rd_pick.calls k g s0_0 s0_1 10 t280 t281 w0 _ ?side1 ?side2 A2.out).mono ?_); (case side1 => exact iX HI0); (case side2 => exact xBi HB); rintro e w5 ⟨rfl, hi, hb, hk⟩; refine ⟨_, rfl, ?_⟩; replace HK := kT HK hk; replace HB := am (hb); replace HI0 := am (hi); (try clear hb))
 by_cases c3 : t280 = 0
 rotate_left
 ·rw [if_neg c3] at H
  have c3b0 := beq_eq_false_iff_ne.mpr c3
  have c3b1 := bne_iff_ne.mpr c3
  try simp only [c3b0, c3b1, Bool.not_true, Bool.not_false]
  replace H := Option.bind_eq_some_iff.mp H
  obtain ⟨⟨t287, t288⟩, A100, H⟩ := H
  have A10 := Aside0.mk A100
  clear A100
  replace H := oa H
  obtain ⟨t289, A11, H⟩ := H
  simp only [Option.some.injEq, Prod.mk.injEq] at H
  obtain ⟨rfl, rfl⟩ := H
  go_wp2_with ((with_reducible refine gg ?_); first | (refine gL 10 Tryd.func97 #[.pointer (some ⟨g, 0, none⟩)] ?_; (with_reducible refine (spec_l20Item.calls k g s0_0 t281 t287 t288 w0 _ ?side1 ?side2 A10.out).mono ?_); (case side1 => exact iX HI0); (case side2 => exact xBi HB); rintro e w13 ⟨rfl, hi, hb, hk⟩; refine ⟨_, rfl, ?_⟩; replace HK := kT HK hk; replace HB := am (hb); replace HI0 := am (hi); (try clear hb)) | (refine gL 11 Tryd.func96 #[.string t287] ?_; (with_reducible refine (spec_l1Sum.calls k t287 t289 _ A11.out).mono ?_); rintro e w14 ⟨rfl, hb⟩; refine ⟨_, rfl, ?_⟩; replace HK := kK HK hb; replace HB := kHi HB hb; replace HI0 := iK HI0 hb; (try clear hb)))
  go_ret
  exact ⟨xE, iX HI0, xBi HB, xK HK⟩
 rw [if_pos c3] at H
 have c3b0 := beq_iff_eq.mpr c3
 have c3b1 := bne_eq_false_iff_eq.mpr c3
 try simp only [c3b0, c3b1, Bool.not_true, Bool.not_false]
 clear c3
 obtain ⟨y282, Ny282⟩ := yA (([(⟨#[]⟩ : ByteArray), (⟨#[48, 48]⟩ : ByteArray), (⟨#[103, 48, 48, 48, 48, 48, 48, 48, 48, 48, 48, 48, 48, 48, 48, 48]⟩ : ByteArray), (⟨#[65, 66, 67, 68, 69, 70, 48, 49, 50, 51, 52, 53, 54, 55, 56, 57]⟩ : ByteArray)] : List ByteArray) : List ByteArray)
 rw [← Ny282.out] at H
 replace H := Option.bind_eq_some_iff.mp H
 obtain ⟨⟨t285, t286⟩, A40, H⟩ := H
 have A4 := Aside0.mk A40
 clear A40
 simp only [Option.some.injEq, Prod.mk.injEq] at H
 obtain ⟨rfl, rfl⟩ := H
 go_wp2_with (first | ((with_reducible refine gate_dst (N := 7) rfl ?_); refine Kd.R_lit Kd.string _ 9 ?hg (N := 7) ?hd (xs := ([(⟨#[]⟩ : ByteArray), (⟨#[48, 48]⟩ : ByteArray), (⟨#[103, 48, 48, 48, 48, 48, 48, 48, 48, 48, 48, 48, 48, 48, 48, 48]⟩ : ByteArray), (⟨#[65, 66, 67, 68, 69, 70, 48, 49, 50, 51, 52, 53, 54, 55, 56, 57]⟩ : ByteArray)] : List ByteArray)) (inner := [.string (⟨#[]⟩ : ByteArray), .string (⟨#[48, 48]⟩ : ByteArray), .string (⟨#[103, 48, 48, 48, 48, 48, 48, 48, 48, 48, 48, 48, 48, 48, 48, 48]⟩ : ByteArray), .string (⟨#[65, 66, 67, 68, 69, 70, 48, 49, 50, 51, 52, 53, 54, 55, 56, 57]⟩ : ByteArray)]) (ok := fun _ => True) (okp := fun _ => True) ?hr ?hp (fun _ hk => hk) trivial (Below.refl _ _) (Nat.le_refl _) (by simp) ?_; (case hd => rfl); (case hg => rfl); (case hr => first | (go_simp; done) | (go_simp; rfl)); (case hp => exact xP); intro v283 w6 ho7 hb hg_ hnew_; clear hg_ hnew_; (first | rw [← Ny282.out] at ho7 | (simp only [Int.reduceToNat] at ho7; rw [← Ny282.out] at ho7)); have HO284 := am (Kd.R_lower ho7 (xZ HK)); replace HK := kK HK hb; replace HB := kHi HB hb; replace HI0 := iK HI0 hb; clear hb ho7; obtain ⟨Ao8, co8, eo8⟩ := Kd.R_slice HO284.out; subst eo8) | ((with_reducible refine gg ?_); refine gL 8 Tryd.func86 #[.pointer (some ⟨g, 0, none⟩), .slice Ao8 y282.length co8] ?_; (with_reducible refine (spec_l20Rd_of.calls k g s0_0 t281 _ _ y282 t285 t286 w0 _ ?side1 ?side2 ?side3 ?side4 ?side5 A4.out).mono ?_); (case side1 => exact iX HI0); (case side2 => exact xBi HB); (case side3 => exact cr (Kd.R_reads' HO284.out).2.2); (case side4 => exact sl HO284); (case side5 => exact far_slice (IsS111.own_ne HI0.out HO284.out (by decide))); rintro e w9 ⟨rfl, hi, hb, hk⟩; refine ⟨_, rfl, ?_⟩; replace HO284 := iR HI0 HO284 hk; replace HK := kT HK hk; replace HB := am (hb); replace HI0 := am (hi); (try clear hb)))
 go_ret
 exact ⟨xE, iX HI0, xBi HB, xK HK⟩
def spec_l20Rd_one.f (k : Nat) (s0_0 : List Int) (s0_1 : Int) (l1 : List Int) : Option (Int × Int) := (spec_l20Rd_pick.f k s0_0 s0_1 (l1.length : Int)).bind fun bt290 => (if 0 ≤ bt290.1 then (if bt290.1 < (l1.length : Int) then (some (rd l1 bt290.1, bt290.2)) else (none)) else (none))
theorem spec_l20Rd_one.mono : ∀ a0 a1 a2 k, LeO (spec_l20Rd_one.f k a0 a1 a2) (spec_l20Rd_one.f (k + 1) a0 a1 a2) := by
 intro a0 a1 a2 k
 unfold spec_l20Rd_one.f
 exact mo1 spec_l20Rd_pick.mono
theorem spec_l20Rd_one.calls (k : Nat) (g : Nat) (s0_0 : List Int) (s0_1 : Int) (A1 : Option Addr) (c1 : Nat) (l1 : List Int) (r1 : Int) (r2 : Int) (w0 w : World) (hI : IsS111 w0 w g s0_0 s0_1) (hB : Below w0.heap.size w0 w) (hr1 : Kd.C (Kd.int .i64) w A1 l1.length l1) (hc1 : l1.length ≤ c1) (hf1 : ∀ ad, A1 = some ad → 0 < l1.length → ad.block ≠ g) (h : spec_l20Rd_one.f k s0_0 s0_1 l1 = some (r1, r2)) :
  Calls Tryd.prog 84 #[.pointer (some ⟨g, 0, none⟩), .slice A1 l1.length c1] w fun e w' => e = .returned (.int .i64 r1) ∧ IsS111 w0 w' g s0_0 r2 ∧ Below w0.heap.size w0 w' ∧ KeepBut w w' g none := by
 have HR1 := Aside0.mk hr1
 have HC1 := Aside0.mk hc1
 clear hr1 hc1
 have HI0 := Aside0.mk hI
 have HK := Aside0.mk (KeepBut.refl w g none)
 have HL := Aside0.mk hB.size
 clear hI
 have HW0 := Aside0.mk hB.size
 have HB := Aside0.mk hB
 clear hB
 have H : ((spec_l20Rd_pick.f k s0_0 s0_1 (l1.length : Int)).bind fun bt290 => (if 0 ≤ bt290.1 then (if bt290.1 < (l1.length : Int) then (some (rd l1 bt290.1, bt290.2)) else (none)) else (none))) = some (r1, r2) := h
 clear h
 replace H := Option.bind_eq_some_iff.mp H
 obtain ⟨⟨t290, t291⟩, A30, H⟩ := H
 have A3 := Aside0.mk A30
 clear A30
 replace H := ipd H
 obtain ⟨c4b0, H⟩ := H
 replace H := ipd H
 obtain ⟨c5b0, H⟩ := H
 simp only [Option.some.injEq, Prod.mk.injEq] at H
 obtain ⟨rfl, rfl⟩ := H
 go_enter Tryd.func84, Tryd.ntmps84
 go_wp2_with ((with_reducible refine gg ?_); refine gL 9 Tryd.func55 #[.pointer (some ⟨g, 0, none⟩), .int .i64 (l1.length : Int)] ?_; (with_reducible refine (spec_l20Rd_pick.calls k g s0_0 s0_1 (l1.length : Int) t290 t291 w0 _ ?side1 ?side2 A3.out).mono ?_); (case side1 => exact iX HI0); (case side2 => exact xBi HB); rintro e w6 ⟨rfl, hi, hb, hk⟩; refine ⟨_, rfl, ?_⟩; replace HK := kT HK hk; replace HB := am (hb); replace HI0 := am (hi); (try clear hb); have p292 : 0 ≤ (t290 : Int) := of_decide_eq_true xA; have q292 : t290 < (l1.length : Int) := of_decide_eq_true xA; obtain ⟨ad292, e292, hx292_0⟩ := Kd.at_int HR1.out t290 p292 q292; cases e292; replace hx292_0 := keep_cell HK.out hx292_0 (by first | (rw [add_block]; exact hf1 _ rfl (by omega)) | exact hf1 _ rfl (by omega) | exact hf1 ad292 rfl (by omega)); replace p292 := eq_true p292; replace q292 := eq_true q292)
 go_ret
 exact ⟨xE, iX HI0, xBi HB, xK HK⟩
def spec_l4Heads.l0 : Nat → List (S142) → List (S23) → Int → Option ((List (S23)))
 | 0, _, _, _ => none
 | k + 1, x0, x3, x4 => if x4 < (x0.length : Int) then (if 0 ≤ x4 then (if x3.length < 2513169434916 then (spec_l4Heads.l0 k x0 (x3 ++ [(⟨(rd_T142 x0 x4).f0.f0, (rd_T142 x0 x4).f0.f1, (rd_T142 x0 x4).f0.f2, (rd_T142 x0 x4).f0.f3, (rd_T142 x0 x4).f0.f4⟩ : S23)]) (wrap64 (x4 + 1))) else (none)) else (none)) else (some x3)
def spec_l4Heads.f (k : Nat) (l0 : List (S142)) : Option ((List (S23))) := spec_l4Heads.l0 k l0 (([] : List (S23))) 0
theorem spec_l4Heads.mono_l : ∀ k, (∀ y0 y1 y2, LeO (spec_l4Heads.l0 k y0 y1 y2) (spec_l4Heads.l0 (k + 1) y0 y1 y2))
 | 0 => fun _ _ _ r h => by simp [spec_l4Heads.l0] at h
 | k + 1 => by
  have ih0 := spec_l4Heads.mono_l k
  ·intro y0 y1 y2
   unfold spec_l4Heads.l0
   exact mo1 ih0
theorem spec_l4Heads.mono : ∀ a0 k, LeO (spec_l4Heads.f k a0) (spec_l4Heads.f (k + 1) a0) := by
 intro a0 k
 have ih0 := spec_l4Heads.mono_l k
 unfold spec_l4Heads.f
 exact mo1 ih0
theorem spec_l4Heads.calls (k : Nat) (A0 : Option Addr) (c0 : Nat) (l0 : List (S142)) (r : List (S23)) (w : World) (hr0 : Kd.C k142 w A0 l0.length l0) (hc0 : l0.length ≤ c0) (h : spec_l4Heads.f k l0 = some r) :
  Calls Tryd.prog 98 #[.slice A0 l0.length c0] w fun e w' => ∃ v0_ : Value, e = .returned (v0_) ∧ Kd.R k23 23 w' w.heap.size (fun _ => True) v0_ r ∧ Below w.heap.size w w' := by
 have hu23 := Tryd.underlying23
 have HR0 := Aside0.mk hr0
 have HC0 := Aside0.mk hc0
 clear hr0 hc0
 have HB := Aside0.mk (Below.refl w.heap.size w)
 have H : (spec_l4Heads.l0 k l0 (([] : List (S23))) 0) = some r := h
 clear h
 obtain ⟨y293, Ny293⟩ := yA (([] : List (S23)) : List (S23))
 rw [← Ny293.out] at H
 have H' := Aside0.mk H
 clear H
 go_enter Tryd.func98, Tryd.ntmps98
 go_wp2_with ((with_reducible refine gate_dst (N := 5) rfl ?_); refine Kd.R_lit k23 _ 23 ?hg (N := 5) ?hd (xs := ([] : List (S23))) (inner := []) (ok := fun _ => True) (okp := fun _ => True) ?hr ?hp (fun _ hk => hk) trivial (Below.refl _ _) (Nat.le_refl _) (by simp) ?_; (case hd => rfl); (case hg => rfl); (case hr => first | (go_simp; done) | (go_simp; rfl)); (case hp => exact xP); intro v294 w2 ho3 hb hg_ hnew_; clear hg_ hnew_; (first | rw [← Ny293.out] at ho3 | (simp only [Int.reduceToNat] at ho3; rw [← Ny293.out] at ho3)); have HO295 := am (Kd.R_lower ho3 (below_size (bl HB))); replace HB := kH HB hb; clear hb ho3)
 go_loopg [3, 4] k (fun kq v3 v4 w' => ∃ (x3_1 : List (S23)) (x4_1 : Int), v4 = .int .i64 x4_1 ∧ Aside0 (spec_l4Heads.l0 kq l0 x3_1 x4_1 = some r) ∧ Aside0 (kq ≤ k) ∧ Aside0 (Kd.R k23 23 w' w.heap.size (fun _ => True) v3 x3_1) ∧ Aside0 (Below w.heap.size w w'))
 case atStart => exact ⟨(y293), (0), xR, H', ⟨Nat.le_refl _⟩, ⟨ra HO295⟩, ⟨bl HB⟩⟩
 case round =>
  clear H'
  try clear p2
  obtain ⟨x3_1, x4_1, rfl, HA, HK1, HO_3, HB⟩ := hrel
  cases gk with
  | zero => exact absurd HA.out (by simp [spec_l4Heads.l0])
  | succ k1 =>
   have H := HA.out
   clear HA
   simp only [spec_l4Heads.l0] at H
   by_cases c4 : x4_1 < (l0.length : Int)
   rotate_left
   ·rw [if_neg c4] at H
    have c4b0 := decide_eq_false c4
    clear c4
    obtain rfl := Option.some.inj H
    go_wp2
    go_ret
    exact ⟨_, xE, ra HO_3, bl HB⟩
   rw [if_pos c4] at H
   have c4b0 := decide_eq_true c4
   clear c4
   replace H := ipd H
   obtain ⟨c5b0, H⟩ := H
   replace H := ipa H
   obtain ⟨LMc6, H⟩ := H
   obtain ⟨y297, Ny297⟩ := yA (x3_1 ++ [(⟨(rd_T142 l0 x4_1).f0.f0, (rd_T142 l0 x4_1).f0.f1, (rd_T142 l0 x4_1).f0.f2, (rd_T142 l0 x4_1).f0.f3, (rd_T142 l0 x4_1).f0.f4⟩ : S23)] : List (S23))
   rw [← Ny297.out] at H
   have H' := Aside0.mk H
   clear H
   have p296 : 0 ≤ (x4_1 : Int) := of_decide_eq_true xA
   have q296 : x4_1 < (l0.length : Int) := of_decide_eq_true xA
   obtain ⟨ad296, A296_5, c296_5, e296, hx296_0, hx296_1, hx296_2, hx296_3, hx296_4, hx296_5, hl296_5, hi296_5⟩ := at_T142 HR0.out x4_1 p296 q296
   cases e296
   replace hx296_0 := hc HB hx296_0
   replace hx296_1 := hc HB hx296_1
   replace hx296_2 := hc HB hx296_2
   replace hx296_3 := hc HB hx296_3
   replace hx296_4 := hc HB hx296_4
   replace hx296_5 := hc HB hx296_5
   have HR296_5 := Aside0.mk hi296_5
   have HC296_5 := Aside0.mk hl296_5
   clear hi296_5 hl296_5
   replace p296 := eq_true p296
   replace q296 := eq_true q296
   go_wp2_with ((with_reducible refine gate_builtin (b := .append) (xs := #[.tmp 12, .tmp 18]) rfl ?_); at_builtin; refine Kd.R_append k23 (w0 := w) w.heap.size rfl (.tmp 12) (.tmp 18) 115 23 (.agg #[(.string ⟨#[]⟩), (.string ⟨#[]⟩), (.int .i64 0), (.int .i64 0), (.int .i64 0)]) 56 rfl Tryd.underlying115 info23 rfl (by decide) (by omega) u3 x3_1 (⟨(rd_T142 l0 x4_1).f0.f0, (rd_T142 l0 x4_1).f0.f1, (rd_T142 l0 x4_1).f0.f2, (rd_T142 l0 x4_1).f0.f3, (rd_T142 l0 x4_1).f0.f4⟩ : S23) [.string ((rd_T142 l0 x4_1).f0.f0), .string ((rd_T142 l0 x4_1).f0.f1), .int .i64 ((rd_T142 l0 x4_1).f0.f2), .int .i64 ((rd_T142 l0 x4_1).f0.f3), .int .i64 ((rd_T142 l0 x4_1).f0.f4)] (fun _ => True) (fun _ => False) rfl rfl ?aP (fun _ hk => hk.elim) ?aF ?aO ?aB ?aS ?aL ?_; (case aP => exact k23_mkM _ _ _ (⟨(rd_T142 l0 x4_1).f0.f0, (rd_T142 l0 x4_1).f0.f1, (rd_T142 l0 x4_1).f0.f2, (rd_T142 l0 x4_1).f0.f3, (rd_T142 l0 x4_1).f0.f4⟩ : S23)); (case aB => exact (bl HB)); (case aF => exact (fun _ _ => trivial)); (case aO => exact (ra HO_3)); (case aS => exact (below_size (bl HB))); (case aL => have := LMc6.out; omega); intro v298 w7 ho hb hg hat; rw [← Ny297.out] at ho; have n0_ := Aside0.mk (hb); have n1_ := Aside0.mk (ho); clear HB; clear HO_3; have HB := n0_; have HO299 := n1_; clear n0_ n1_; clear ho hb hg hat)
   go_roundg k1
   case measure => have := HK1.out; omega
   case rel => exact ⟨(y297), (wrap64 (x4_1 + 1)), xR, H', ⟨xL HK1⟩, ⟨ra HO299⟩, ⟨bl HB⟩⟩
def spec_l4Zero.f  : Option (ByteArray) := some (⟨#[48, 48, 48, 48, 48, 48, 48, 48, 48, 48, 48, 48, 48, 48, 48, 48]⟩ : ByteArray)
theorem spec_l4Zero.calls  (r : ByteArray) (w : World) (h : spec_l4Zero.f  = some r) :
  Calls Tryd.prog 133 #[] w fun e w' => e = .returned (.string r) ∧ Drawn0 w w' := by
 have H : (some (⟨#[48, 48, 48, 48, 48, 48, 48, 48, 48, 48, 48, 48, 48, 48, 48, 48]⟩ : ByteArray)) = some r := h
 clear h
 obtain rfl := Option.some.inj H
 go_enter Tryd.func133, Tryd.ntmps133
 go_wp2
 go_ret
 exact ⟨xR, xW⟩
end Go.Proofs.YtgjljbaadglpnaaDoor.PFnHeadGet
