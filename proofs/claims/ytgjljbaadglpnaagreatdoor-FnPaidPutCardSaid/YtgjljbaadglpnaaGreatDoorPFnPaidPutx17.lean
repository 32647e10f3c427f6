/- Functions of the program and what each answers: the kit's print, shortened (wip/press2.py). -/
import Derived.Test.YtgjljbaadglpnaaGreatDoorPFnPaidPutx0
import Derived.Test.YtgjljbaadglpnaaGreatDoorPFnPaidPutx4
import Derived.Test.YtgjljbaadglpnaaGreatDoorPFnPaidPutx8
import Derived.Test.YtgjljbaadglpnaaGreatDoorPFnPaidPutx11
import Derived.Test.YtgjljbaadglpnaaGreatDoorPFnPaidPutx15
namespace Go.Proofs.YtgjljbaadglpnaaGreatDoor.PFnPaidPut
open Go.Proofs.YtgjljbaadglpnaaGreatDoor.Sq Go.RowKit Go.Proofs.YtgjljbaadglpnaaGreatDoorW.PrintWords Go.Proofs.YtgjljbaadglpnaaGreatDoorW.PrintLast Go.Proofs.YtgjljbaadglpnaaGreatDoorW.PrintMore
attribute [local go_sem] max2_int min2_int max_two min_two max_three min_three max_four min_four   -- for this text's walks alone
set_option linter.unusedVariables false
set_option linter.unusedSimpArgs false
set_option maxHeartbeats 64000000
set_option maxRecDepth 100000
def spec_l5Of.l0 : Nat → List (S24) → List (S93) → Int → Option ((List (S93)))
 | 0, _, _, _ => none
 | k + 1, x0, x3, x4 => if x4 < (x0.length : Int) then (if 0 ≤ x4 then ((spec_l5Leaf.f k ((rd_T24 x0 x4).f0) ((rd_T24 x0 x4).f1) ((rd_T24 x0 x4).f2) ((rd_T24 x0 x4).f3) ((rd_T24 x0 x4).f4)).bind fun bt373 => ((spec_l5Add.f k x3 bt373.1 bt373.2.1 bt373.2.2).bind fun t376 => (spec_l5Of.l0 k x0 t376 (wrap64 (x4 + 1))))) else (none)) else (some x3)
def spec_l5Of.f (k : Nat) (l0 : List (S24)) : Option ((List (S93))) := spec_l5Of.l0 k l0 (([] : List (S93))) 0
theorem spec_l5Of.mono_l : ∀ k, (∀ y0 y1 y2, LeO (spec_l5Of.l0 k y0 y1 y2) (spec_l5Of.l0 (k + 1) y0 y1 y2))
 | 0 => fun _ _ _ r h => by simp [spec_l5Of.l0] at h
 | k + 1 => by
  have ih0 := spec_l5Of.mono_l k
  ·intro y0 y1 y2
   unfold spec_l5Of.l0
   exact mo3 ih0 spec_l5Add.mono spec_l5Leaf.mono
theorem spec_l5Of.mono : ∀ a0 k, LeO (spec_l5Of.f k a0) (spec_l5Of.f (k + 1) a0) := by
 intro a0 k
 have ih0 := spec_l5Of.mono_l k
 unfold spec_l5Of.f
 exact mo3 ih0 spec_l5Add.mono spec_l5Leaf.mono
theorem spec_l5Of.calls (k : Nat) (A0 : Option Addr) (c0 : Nat) (l0 : List (S24)) (r : List (S93)) (w : World) (hr0 : Kd.C k24 w A0 l0.length l0) (hc0 : l0.length ≤ c0) (h : spec_l5Of.f k l0 = some r) :
  Calls Tryz.prog 43 #[.slice A0 l0.length c0] w fun e w' => ∃ v0_ : Value, e = .returned (v0_) ∧ Kd.R k93 93 w' w.heap.size (fun _ => True) v0_ r ∧ Below w.heap.size w w' := by
 have hu24 := Tryz.underlying24
 have HR0 := Aside0.mk hr0
 have HC0 := Aside0.mk hc0
 clear hr0 hc0
 have HB := Aside0.mk (Below.refl w.heap.size w)
 have H : (spec_l5Of.l0 k l0 (([] : List (S93))) 0) = some r := h
 clear h
 obtain ⟨y369, Ny369⟩ := yA (([] : List (S93)) : List (S93))
 rw [← Ny369.out] at H
 have H' := Aside0.mk H
 clear H
 go_enter Tryz.func43, Tryz.ntmps43
 go_wp2_with ((with_reducible refine gate_dst (N := 5) rfl ?_); refine Kd.R_lit k93 _ 93 ?hg (N := 5) ?hd (xs := ([] : List (S93))) (inner := []) (ok := fun _ => True) (okp := fun _ => True) ?hr ?hp (fun _ hk => hk) trivial (Below.refl _ _) (Nat.le_refl _) (by simp) ?_; (case hd => rfl); (case hg => rfl); (case hr => first | (go_simp; done) | (go_simp; rfl)); (case hp => exact xP); intro v370 w2 ho3 hb hg_ hnew_; clear hg_ hnew_; (first | rw [← Ny369.out] at ho3 | (simp only [Int.reduceToNat] at ho3; rw [← Ny369.out] at ho3)); have HO371 := am (Kd.R_lower ho3 (below_size (bl HB))); replace HB := kH HB hb; clear hb ho3)
 go_loopg [3, 4] k (fun kq v3 v4 w' => ∃ (x3_1 : List (S93)) (x4_1 : Int), v4 = .int .i64 x4_1 ∧ Aside0 (spec_l5Of.l0 kq l0 x3_1 x4_1 = some r) ∧ Aside0 (kq ≤ k) ∧ Aside0 (Kd.R k93 93 w' w.heap.size (fun _ => True) v3 x3_1) ∧ Aside0 (Below w.heap.size w w'))
 case atStart => exact ⟨(y369), (0), xR, H', ⟨Nat.le_refl _⟩, ⟨ra HO371⟩, ⟨bl HB⟩⟩
 case round =>
  clear H'
  try clear p2
  obtain ⟨x3_1, x4_1, rfl, HA, HK1, HO_3, HB⟩ := hrel
  cases gk with
  | zero => exact absurd HA.out (by simp [spec_l5Of.l0])
  | succ k1 =>
   have H := HA.out
   clear HA
   simp only [spec_l5Of.l0] at H
   by_cases c4 : x4_1 < (l0.length : Int)
   rotate_left
   ·rw [if_neg c4] at H
    have c4b0 := decide_eq_false c4
    clear c4
    obtain rfl := Option.some.inj H
    go_wp2
    go_ret
    exact ⟨_, xE, ra HO_3, bl HB⟩
   rw [if_pos c4] at H
   have c4b0 := decide_eq_true c4
   clear c4
   replace H := ipd H
   obtain ⟨c5b0, H⟩ := H
   replace H := Option.bind_eq_some_iff.mp H
   obtain ⟨⟨t373, t374, t375⟩, A60, H⟩ := H
   have A6 := Aside0.mk A60
   clear A60
   replace H := oa H
   obtain ⟨t376, A7, H⟩ := H
   have H' := Aside0.mk H
   clear H
   have p372 : 0 ≤ (x4_1 : Int) := of_decide_eq_true xA
   have q372 : x4_1 < (l0.length : Int) := of_decide_eq_true xA
   obtain ⟨ad372, e372, hx372_0, hx372_1, hx372_2, hx372_3, hx372_4⟩ := at_T24 HR0.out x4_1 p372 q372
   cases e372
   replace hx372_0 := hc HB hx372_0
   replace hx372_1 := hc HB hx372_1
   replace hx372_2 := hc HB hx372_2
   replace hx372_3 := hc HB hx372_3
   replace hx372_4 := hc HB hx372_4
   replace p372 := eq_true p372
   replace q372 := eq_true q372
   go_wp2_with ((with_reducible refine gg ?_); first | (refine gL 17 Tryz.func73 #[.agg #[.string ((rd_T24 l0 x4_1).f0), .string ((rd_T24 l0 x4_1).f1), .int .i64 ((rd_T24 l0 x4_1).f2), .int .i64 ((rd_T24 l0 x4_1).f3), .int .i64 ((rd_T24 l0 x4_1).f4)]] ?_; (with_reducible refine (spec_l5Leaf.calls k1 ((rd_T24 l0 x4_1).f0) ((rd_T24 l0 x4_1).f1) ((rd_T24 l0 x4_1).f2) ((rd_T24 l0 x4_1).f3) ((rd_T24 l0 x4_1).f4) t373 t374 t375 _ A6.out).mono ?_); rintro e w8 ⟨rfl, hb⟩; refine ⟨_, rfl, ?_⟩; replace HO_3 := rk HO_3 hb; replace HB := kH HB hb; (try clear hb); obtain ⟨Ao9, co9, eo9⟩ := Kd.R_slice HO_3.out; subst eo9) | (refine gL 18 Tryz.func72 #[.slice Ao9 x3_1.length co9, .agg #[.string t373, .int .i64 t374, .int .i64 t375]] ?_; (with_reducible refine (spec_l5Add.calls k1 _ _ x3_1 t373 t374 t375 t376 _ ?side1 ?side2 A7.out).mono ?_); (case side1 => exact cr (Kd.R_reads' HO_3.out).2.2); (case side2 => exact sl HO_3); rintro e w10 ⟨v377, rfl, ho0, hb⟩; refine ⟨_, rfl, ?_⟩; have HO378 := am (Kd.R_lower (Kd.R_new' ho0 (Kd.R_lt (ra HO_3))) (below_size (bl HB))); replace HO_3 := am (Kd.R_elder' (ra HO_3) (Kd.R_base ho0) hb); replace HB := kH HB hb; (try clear hb); (try clear ho0)))
   go_roundg k1
   case measure => have := HK1.out; omega
   case rel => exact ⟨(t376), (wrap64 (x4_1 + 1)), xR, H', ⟨xL HK1⟩, ⟨rM HO378 (fun _ hk => trivial)⟩, ⟨bl HB⟩⟩
def spec_l5Peak.l0 : Nat → List (S93) → Int → Int → Int → Option (Int × Int)
 | 0, _, _, _, _ => none
 | k + 1, x0, x1, x6, x7 => if x7 < (x0.length : Int) then (if 0 ≤ x7 then (if x1 < (wrap64 (x6 + ((rd_T93 x0 x7).f2))) then (some (x7, x6)) else (spec_l5Peak.l0 k x0 x1 (wrap64 (x6 + ((rd_T93 x0 x7).f2))) (wrap64 (x7 + 1)))) else (none)) else (some ((-1), x6))
def spec_l5Peak.f (k : Nat) (l0 : List (S93)) (a1 : Int) : Option (Int × Int) := spec_l5Peak.l0 k l0 a1 0 0
theorem spec_l5Peak.mono_l : ∀ k, (∀ y0 y1 y2 y3, LeO (spec_l5Peak.l0 k y0 y1 y2 y3) (spec_l5Peak.l0 (k + 1) y0 y1 y2 y3))
 | 0 => fun _ _ _ _ r h => by simp [spec_l5Peak.l0] at h
 | k + 1 => by
  have ih0 := spec_l5Peak.mono_l k
  ·intro y0 y1 y2 y3
   unfold spec_l5Peak.l0
   exact mo1 ih0
theorem spec_l5Peak.mono : ∀ a0 a1 k, LeO (spec_l5Peak.f k a0 a1) (spec_l5Peak.f (k + 1) a0 a1) := by
 intro a0 a1 k
 have ih0 := spec_l5Peak.mono_l k
 unfold spec_l5Peak.f
 exact mo1 ih0
theorem spec_l5Peak.calls (k : Nat) (A0 : Option Addr) (c0 : Nat) (l0 : List (S93)) (a1 : Int) (r1 : Int) (r2 : Int) (w : World) (hr0 : Kd.C k93 w A0 l0.length l0) (hc0 : l0.length ≤ c0) (h : spec_l5Peak.f k l0 a1 = some (r1, r2)) :
  Calls Tryz.prog 91 #[.slice A0 l0.length c0, .int .i64 a1] w fun e w' => e = .returned (.tuple #[.int .i64 r1, .int .i64 r2]) ∧ Drawn0 w w' := by
 have HR0 := Aside0.mk hr0
 have HC0 := Aside0.mk hc0
 clear hr0 hc0
 have H : (spec_l5Peak.l0 k l0 a1 0 0) = some (r1, r2) := h
 clear h
 have H' := Aside0.mk H
 clear H
 go_enter Tryz.func91, Tryz.ntmps91
 go_wp2
 go_loopg [6, 7] k (fun kq v6 v7 w' => ∃ (x6_1 : Int) (x7_1 : Int), v6 = .int .i64 x6_1 ∧ v7 = .int .i64 x7_1 ∧ Aside0 (spec_l5Peak.l0 kq l0 a1 x6_1 x7_1 = some (r1, r2)) ∧ Aside0 (kq ≤ k) ∧ Drawn0 w w')
 case atStart => exact ⟨(0), (0), xR, xR, H', ⟨Nat.le_refl _⟩, xW⟩
 case round =>
  clear H'
  try clear p2
  obtain ⟨x6_1, x7_1, rfl, rfl, HA, HK1, ⟨m1, rfl⟩⟩ := hrel
  cases gk with
  | zero => exact absurd HA.out (by simp [spec_l5Peak.l0])
  | succ k1 =>
   have H := HA.out
   clear HA
   simp only [spec_l5Peak.l0] at H
   by_cases c3 : x7_1 < (l0.length : Int)
   rotate_left
   ·rw [if_neg c3] at H
    have c3b0 := decide_eq_false c3
    clear c3
    simp only [Option.some.injEq, Prod.mk.injEq] at H
    obtain ⟨rfl, rfl⟩ := H
    go_wp2
    go_ret2
    exact ⟨xR, xW⟩
   rw [if_pos c3] at H
   have c3b0 := decide_eq_true c3
   clear c3
   replace H := ipd H
   obtain ⟨c4b0, H⟩ := H
   have p379 : 0 ≤ (x7_1 : Int) := of_decide_eq_true xA
   have q379 : x7_1 < (l0.length : Int) := of_decide_eq_true xA
   obtain ⟨ad379, e379, hx379_0, hx379_1, hx379_2⟩ := at_T93 HR0.out x7_1 p379 q379
   cases e379
   replace p379 := eq_true p379
   replace q379 := eq_true q379
   by_cases c5 : a1 < (wrap64 (x6_1 + ((rd_T93 l0 x7_1).f2)))
   ·rw [if_pos c5] at H
    have c5b0 := decide_eq_true c5
    clear c5
    simp only [Option.some.injEq, Prod.mk.injEq] at H
    obtain ⟨rfl, rfl⟩ := H
    go_wp2
    go_ret2
    exact ⟨xR, xW⟩
   rw [if_neg c5] at H
   have c5b0 := decide_eq_false c5
   clear c5
   have H' := Aside0.mk H
   clear H
   have p380 : 0 ≤ (x7_1 : Int) := of_decide_eq_true xA
   have q380 : x7_1 < (l0.length : Int) := of_decide_eq_true xA
   obtain ⟨ad380, e380, hx380_0, hx380_1, hx380_2⟩ := at_T93 HR0.out x7_1 p380 q380
   obtain rfl : ad379 = ad380 := (by injection e380)
   replace p380 := eq_true p380
   replace q380 := eq_true q380
   go_wp2
   go_roundg k1
   case measure => have := HK1.out; omega
   case rel => exact ⟨(wrap64 (x6_1 + ((rd_T93 l0 x7_1).f2))), (wrap64 (x7_1 + 1)), xR, xR, H', ⟨xL HK1⟩, xW⟩
mutual
def spec_l5Tree.l0 : Nat → Int → List (S93) → List (S93) → Option ((List (S93)))
 | 0, _, _, _ => none
 | k + 1, x1, x5, x6 => if (x6.length : Int) > 1 then (if 0 ≤ (wrap64 ((wrap64 (x1 + 1)) - (wrap64 ((Int.tmod x1 2) * 2)))) then (if (wrap64 ((wrap64 (x1 + 1)) - (wrap64 ((Int.tmod x1 2) * 2)))) < (x6.length : Int) then (if x5.length < 4398046511104 then (spec_l5Tree.l1 k x1 (x5 ++ [(⟨(rd_T93 x6 (wrap64 ((wrap64 (x1 + 1)) - (wrap64 ((Int.tmod x1 2) * 2))))).f0, (rd_T93 x6 (wrap64 ((wrap64 (x1 + 1)) - (wrap64 ((Int.tmod x1 2) * 2))))).f1, (rd_T93 x6 (wrap64 ((wrap64 (x1 + 1)) - (wrap64 ((Int.tmod x1 2) * 2))))).f2⟩ : S93)]) x6 (([] : List (S93))) 0) else (none)) else (none)) else (none)) else (some x5)
def spec_l5Tree.l1 : Nat → Int → List (S93) → List (S93) → List (S93) → Int → Option ((List (S93)))
 | 0, _, _, _, _, _ => none
 | k + 1, x1, x5, x6, x7, x8 => if x8 < (x6.length : Int) then (if 0 ≤ x8 then (if 0 ≤ (wrap64 (x8 + 1)) then (if (wrap64 (x8 + 1)) < (x6.length : Int) then ((spec_l5Both.f k ((rd_T93 x6 x8).f0) ((rd_T93 x6 x8).f1) ((rd_T93 x6 x8).f2) ((rd_T93 x6 (wrap64 (x8 + 1))).f0) ((rd_T93 x6 (wrap64 (x8 + 1))).f1) ((rd_T93 x6 (wrap64 (x8 + 1))).f2)).bind fun bt393 => (if x7.length < 4398046511104 then (spec_l5Tree.l1 k x1 x5 x6 (x7 ++ [(⟨bt393.1, bt393.2.1, bt393.2.2⟩ : S93)]) (wrap64 (x8 + 2))) else (none))) else (none)) else (none)) else (none)) else (spec_l5Tree.l0 k (wrap64 (Int.tdiv x1 2)) x5 x7)
end
def spec_l5Tree.f (k : Nat) (l0 : List (S93)) (a1 : Int) : Option ((List (S93))) := spec_l5Tree.l0 k a1 (([] : List (S93))) l0
theorem spec_l5Tree.mono_l : ∀ k, (∀ y0 y1 y2, LeO (spec_l5Tree.l0 k y0 y1 y2) (spec_l5Tree.l0 (k + 1) y0 y1 y2)) ∧ (∀ y0 y1 y2 y3 y4, LeO (spec_l5Tree.l1 k y0 y1 y2 y3 y4) (spec_l5Tree.l1 (k + 1) y0 y1 y2 y3 y4))
 | 0 => ⟨fun _ _ _ r h => by simp [spec_l5Tree.l0] at h, fun _ _ _ _ _ r h => by simp [spec_l5Tree.l1] at h⟩
 | k + 1 => by
  obtain ⟨ih0, ih1⟩ := spec_l5Tree.mono_l k
  refine ⟨?_, ?_⟩
  ·intro y0 y1 y2
   unfold spec_l5Tree.l0
   exact mo3 ih0 ih1 spec_l5Both.mono
  ·intro y0 y1 y2 y3 y4
   unfold spec_l5Tree.l1
   exact mo3 ih0 ih1 spec_l5Both.mono
theorem spec_l5Tree.mono : ∀ a0 a1 k, LeO (spec_l5Tree.f k a0 a1) (spec_l5Tree.f (k + 1) a0 a1) := by
 intro a0 a1 k
 obtain ⟨ih0, ih1⟩ := spec_l5Tree.mono_l k
 unfold spec_l5Tree.f
 exact mo3 ih0 ih1 spec_l5Both.mono
def spec_l5Tree.T9 : Bool × List (List Nat × List Nat) := (true, [([], []), ([], []), ([], []), ([1, 2], [1, 2]), ([3], [3]), ([], []), ([], []), ([6], [6]), ([5, 7], [5, 7]), ([8], [8]), ([4, 9], [4, 9]), ([10], [10]), ([0, 11, 10], [0, 11]), ([12, 12, 0, 1, 2, 3, 4, 5, 6, 7, 8, 9, 10, 11, 12], [0, 12])])
def spec_l5Tree.B9 : List Nat := [0, 0, 0, 6, 14, 0, 0, 64, 224, 480, 1022, 2046, 4095, 8191]
theorem spec_l5Tree.tab9 : rtab .any (opsOf Tryz.f92 9) = spec_l5Tree.T9 := by kernel_rfl
theorem spec_l5Tree.bits9 : waitsOk spec_l5Tree.T9.2 spec_l5Tree.B9 = true := by kernel_rfl
theorem spec_l5Tree.calls (k : Nat) (P0_ : Nat → Prop) (A0 : Option Addr) (c0 : Nat) (l0 : List (S93)) (a1 : Int) (r : List (S93)) (w : World) (hs0 : Kd.V k93 93 w w.heap.size (fun k_ => P0_ k_) (.slice A0 l0.length c0) l0) (h : spec_l5Tree.f k l0 a1 = some r) :
  Calls Tryz.prog 92 #[.slice A0 l0.length c0, .int .i64 a1] w fun e w' => ∃ v0_ : Value, e = .returned (v0_) ∧ Kd.R k93 93 w' w.heap.size (fun k_ => (w.heap.size ≤ k_)) v0_ r ∧ Below w.heap.size w w' := by
 have hu93 := Tryz.underlying93
 have HO0 := Aside0.mk (show Kd.V k93 93 w w.heap.size (fun k_ => (P0_ k_ ∨ w.heap.size ≤ k_)) (.slice A0 l0.length c0) l0 from Kd.V_mono hs0 (fun k_ hk => .inl hk))
 have HB := Aside0.mk (Below.refl w.heap.size w)
 have H : (spec_l5Tree.l0 k a1 (([] : List (S93))) l0) = some r := h
 clear h
 obtain ⟨y381, Ny381⟩ := yA (([] : List (S93)) : List (S93))
 rw [← Ny381.out] at H
 have H' := Aside0.mk H
 clear H
 go_enter Tryz.func92, Tryz.ntmps92
 go_wp2_with ((with_reducible refine gate_dst (N := 9) rfl ?_); refine Kd.R_lit k93 _ 93 ?hg (N := 9) ?hd (xs := ([] : List (S93))) (inner := []) (ok := fun _ => True) (okp := fun _ => True) ?hr ?hp (fun _ hk => hk) trivial (Below.refl _ _) (Nat.le_refl _) (by simp) ?_; (case hd => rfl); (case hg => rfl); (case hr => first | (go_simp; done) | (go_simp; rfl)); (case hp => exact xP); intro v382 w3 ho4 hb hg_ hnew_; clear hg_ hnew_; (first | rw [← Ny381.out] at ho4 | (simp only [Int.reduceToNat] at ho4; rw [← Ny381.out] at ho4)); replace HO0 := am (Kd.V_elder' (va HO0) (Kd.R_base ho4) hb); have HO383 := am (Kd.R_lower (Kd.R_newM (M := fun k_ => (w.heap.size ≤ k_)) ho4 (below_size (bl HB)) (fun k_ h_ => h_)) (below_size (bl HB))); replace HB := kH HB hb; clear hb ho4)
 go_loopg [1, 5, 6] k (fun kq v1 v5 v6 w' => ∃ (x1_1 : Int) (x5_1 : List (S93)) (x6_1 : List (S93)), v1 = .int .i64 x1_1 ∧ Aside0 (spec_l5Tree.l0 kq x1_1 x5_1 x6_1 = some r) ∧ Aside0 (kq ≤ k) ∧ Aside0 (Kd.R k93 93 w' w.heap.size (fun k_ => (w.heap.size ≤ k_)) v5 x5_1) ∧ Aside0 (Kd.V k93 93 w' w.heap.size (fun k_ => (P0_ k_ ∨ w.heap.size ≤ k_) ∧ some k_ ≠ (v5 : Value).ownBlock) v6 x6_1) ∧ Aside0 (Below w.heap.size w w'))
 case atStart => exact ⟨(a1), (y381), (l0), xR, H', ⟨Nat.le_refl _⟩, ⟨rM HO383 (fun _ hk => hk.1)⟩, ⟨va HO0⟩, ⟨bl HB⟩⟩
 case round =>
  clear H'
  try clear p2
  obtain ⟨x1_1, x5_1, x6_1, rfl, HA, HK1, HO_5, HO_6, HB⟩ := hrel
  cases gk with
  | zero => exact absurd HA.out (by simp [spec_l5Tree.l0])
  | succ k1 =>
   have H := HA.out
   clear HA
   simp only [spec_l5Tree.l0] at H
   by_cases c5 : (x6_1.length : Int) > 1
   rotate_left
   ·rw [if_neg c5] at H
    have c5b0 := decide_eq_false c5
    have c5b1 : decide (1 < x6_1.length) = false := decide_eq_false (by omega)
    clear c5
    obtain rfl := Option.some.inj H
    obtain ⟨Ao24, co24, eo24⟩ := Kd.V_slice HO_6.out
    subst eo24
    go_wp2
    go_ret
    exact ⟨_, xE, ra HO_5, bl HB⟩
   rw [if_pos c5] at H
   have c5b0 := decide_eq_true c5
   have c5b1 : decide (1 < x6_1.length) = true := decide_eq_true (by omega)
   clear c5
   obtain ⟨ji6, hji6⟩ := je (wrap64 ((wrap64 (x1_1 + 1)) - (wrap64 ((Int.tmod x1_1 2) * 2))))
   first | rw [hji6] at H | simp only [hji6] at H
   have hji6w : (IntKind.i64.wrap ((wrap64 (x1_1 + 1)) - (wrap64 ((Int.tmod x1_1 2) * 2)))) = ji6 := (i64_w _).trans hji6
   replace H := ipd H
   obtain ⟨c7b0, H⟩ := H
   replace H := ipd H
   obtain ⟨c8b0, H⟩ := H
   replace H := ipa H
   obtain ⟨LMc9, H⟩ := H
   obtain ⟨y385, Ny385⟩ := yA (x5_1 ++ [(⟨(rd_T93 x6_1 (ji6)).f0, (rd_T93 x6_1 (ji6)).f1, (rd_T93 x6_1 (ji6)).f2⟩ : S93)] : List (S93))
   rw [← Ny385.out] at H
   obtain ⟨y388, Ny388⟩ := yA (([] : List (S93)) : List (S93))
   rw [← Ny388.out] at H
   have H' := Aside0.mk H
   clear H
   obtain ⟨Ao10, co10, eo10⟩ := Kd.V_slice HO_6.out
   subst eo10
   have p384 : 0 ≤ ((ji6) : Int) := of_decide_eq_true xA
   have q384 : (ji6) < (x6_1.length : Int) := of_decide_eq_true xA
   obtain ⟨ad384, e384, hx384_0, hx384_1, hx384_2⟩ := at_T93 (Kd.V_reads' HO_6.out).2.2 (ji6) p384 q384
   cases e384
   replace p384 := eq_true p384
   replace q384 := eq_true q384
   go_wp2_with (first | ((with_reducible refine gate_builtin (b := .append) (xs := #[.tmp 14, .tmp 24]) rfl ?_); at_builtin; refine Kd.R_append k93 (w0 := w) w.heap.size rfl (.tmp 14) (.tmp 24) 25 93 (.agg #[(.string ⟨#[]⟩), (.int .i64 0), (.int .i64 0)]) 32 rfl Tryz.underlying25 info93 rfl (by decide) (by omega) u5 x5_1 (⟨(rd_T93 x6_1 (ji6)).f0, (rd_T93 x6_1 (ji6)).f1, (rd_T93 x6_1 (ji6)).f2⟩ : S93) [.string ((rd_T93 x6_1 (ji6)).f0), .int .i64 ((rd_T93 x6_1 (ji6)).f1), .int .i64 ((rd_T93 x6_1 (ji6)).f2)] (fun k_ => (w.heap.size ≤ k_)) (fun _ => False) rfl rfl ?aP (fun _ hk => hk.elim) ?aF ?aO ?aB ?aS ?aL ?_; (case aP => exact k93_mkM _ _ _ (⟨(rd_T93 x6_1 (ji6)).f0, (rd_T93 x6_1 (ji6)).f1, (rd_T93 x6_1 (ji6)).f2⟩ : S93)); (case aB => exact (bl HB)); (case aF => exact (fun k_ hk => (Nat.le_trans (below_size (bl HB)) hk))); (case aO => exact (ra HO_5)); (case aS => exact (below_size (bl HB))); (case aL => have := LMc9.out; omega); intro v386 w11 ho hb hg hat; rw [← Ny385.out] at ho; have n0_ := Aside0.mk (Kd.V_afterv (ok := (fun k_ => (P0_ k_ ∨ w.heap.size ≤ k_))) (va HO_6) hg hat); have n1_ := Aside0.mk (hb); have n2_ := Aside0.mk (ho); clear HO_6; clear HB; clear HO_5; have HO_6 := n0_; have HB := n1_; have HO387 := n2_; clear n0_ n1_ n2_; clear ho hb hg hat) | ((with_reducible refine gate_dst (N := 26) rfl ?_); refine Kd.R_lit k93 _ 93 ?hg (N := 26) ?hd (xs := ([] : List (S93))) (inner := []) (ok := fun _ => True) (okp := fun _ => True) ?hr ?hp (fun _ hk => hk) trivial (Below.refl _ _) (Nat.le_refl _) (by simp) ?_; (case hd => rfl); (case hg => rfl); (case hr => first | (go_simp; done) | (go_simp; rfl)); (case hp => exact xP); intro v389 w12 ho13 hb hg_ hnew_; clear hg_ hnew_; (first | rw [← Ny388.out] at ho13 | (simp only [Int.reduceToNat] at ho13; rw [← Ny388.out] at ho13)); replace HO_6 := am (Kd.V_elder' (va HO_6) (Kd.R_base ho13) hb); have HO390 := am (Kd.R_lower (Kd.R_new' (Kd.R_newM (M := fun k_ => (w.heap.size ≤ k_)) ho13 (below_size (bl HB)) (fun k_ h_ => h_)) (Kd.R_lt (ra HO387))) (below_size (bl HB))); replace HO387 := am (Kd.R_elder' (ra HO387) (Kd.R_base ho13) hb); replace HB := kH HB hb; clear hb ho13))
   go_loopg [7, 8] k1 (fun kq v7 v8 w' => ∃ (x7_2 : List (S93)) (x8_2 : Int), v8 = .int .i64 x8_2 ∧ Aside0 (spec_l5Tree.l1 kq x1_1 y385 x6_1 x7_2 x8_2 = some r) ∧ Aside0 (kq ≤ k1) ∧ Aside0 (Kd.R k93 93 w' w.heap.size (fun k_ => (w.heap.size ≤ k_) ∧ some k_ ≠ (v7 : Value).ownBlock) v386 y385) ∧ Aside0 (Kd.V k93 93 w' w.heap.size (fun k_ => (P0_ k_ ∨ w.heap.size ≤ k_) ∧ some k_ ≠ (v386 : Value).ownBlock ∧ some k_ ≠ (v7 : Value).ownBlock) (.slice (some ad384) x6_1.length co10) x6_1) ∧ Aside0 (Kd.R k93 93 w' w.heap.size (fun k_ => (w.heap.size ≤ k_) ∧ some k_ ≠ (v386 : Value).ownBlock) v7 x7_2) ∧ Aside0 (Below w.heap.size w w'))
   case atStart => exact ⟨(y388), (0), xR, H', ⟨Nat.le_refl _⟩, ⟨ra HO387⟩, ⟨by (with_reducible repeat (first | apply Kd.V_alloc | apply Kd.V_drewN | apply Kd.V_drew)); exact Kd.V_mono HO_6.out (fun _ hk => ⟨hk.1.1, ⟨hk.1.2, hk.2⟩⟩)⟩, ⟨rM HO390 (fun _ hk => ⟨hk.1.1, hk.2⟩)⟩, ⟨bl HB⟩⟩
   case round =>
    clear H'
    try clear p2
    try clear p3
    try clear q3
    try clear hx3
    try clear c5
    try clear c5b0
    try clear c5b1
    try clear p6
    try clear c7
    try clear c7b0
    try clear c8
    try clear c8b0
    try clear c9
    try clear hx384_0
    try clear hx384_1
    try clear hx384_2
    try clear p2
    try clear p384
    try clear q384
    obtain ⟨x7_2, x8_2, rfl, HA, HK2, HO_5, HO_6, HO_7, HB⟩ := hrel
    cases gk with
    | zero => exact absurd HA.out (by simp [spec_l5Tree.l1])
    | succ k2 =>
     have H := HA.out
     clear HA
     simp only [spec_l5Tree.l1] at H
     by_cases c14 : x8_2 < (x6_1.length : Int)
     rotate_left
     ·rw [if_neg c14] at H
      have c14b0 := decide_eq_false c14
      clear c14
      have H' := Aside0.mk H
      clear H
      go_wp2
      go_roundg k2
      case measure => have := HK1.out; have := HK2.out; omega
      case rel => exact ⟨(wrap64 (Int.tdiv x1_1 2)), (y385), (x7_2), xR, H', ⟨by have := HK1.out; have := HK2.out; omega⟩, ⟨rM HO_5 (fun _ hk => hk.1)⟩, ⟨Kd.V_mono (Kd.R_V (ra HO_7)) (fun k_ hk => by first | exact ⟨(.inr (hk.1)), hk.2⟩ | exact (.inr (hk)))⟩, ⟨bl HB⟩⟩
     rw [if_pos c14] at H
     have c14b0 := decide_eq_true c14
     clear c14
     replace H := ipd H
     obtain ⟨c15b0, H⟩ := H
     obtain ⟨ji16, hji16⟩ := je (wrap64 (x8_2 + 1))
     first | rw [hji16] at H | simp only [hji16] at H
     have hji16w : (IntKind.i64.wrap (x8_2 + 1)) = ji16 := (i64_w _).trans hji16
     replace H := ipd H
     obtain ⟨c17b0, H⟩ := H
     replace H := ipd H
     obtain ⟨c18b0, H⟩ := H
     replace H := Option.bind_eq_some_iff.mp H
     obtain ⟨⟨t393, t394, t395⟩, A190, H⟩ := H
     have A19 := Aside0.mk A190
     clear A190
     replace H := ipa H
     obtain ⟨LMc20, H⟩ := H
     obtain ⟨y396, Ny396⟩ := yA (x7_2 ++ [(⟨t393, t394, t395⟩ : S93)] : List (S93))
     rw [← Ny396.out] at H
     have H' := Aside0.mk H
     clear H
     try go_wp2
     replace HO_5 := am (Kd.R_drew HO_5.out)
     replace HO_6 := am (Kd.V_drew HO_6.out)
     replace HO_7 := am (Kd.R_drew HO_7.out)
     replace HB := am (below_drew1 HB.out)
     have p391 : 0 ≤ (x8_2 : Int) := of_decide_eq_true xA
     have q391 : x8_2 < (x6_1.length : Int) := of_decide_eq_true xA
     obtain ⟨ad391, e391, hx391_0, hx391_1, hx391_2⟩ := at_T93 (Kd.V_reads' HO_6.out).2.2 x8_2 p391 q391
     obtain rfl : ad384 = ad391 := (by injection e391)
     replace p391 := eq_true p391
     replace q391 := eq_true q391
     have p392 : 0 ≤ ((ji16) : Int) := of_decide_eq_true xA
     have q392 : (ji16) < (x6_1.length : Int) := of_decide_eq_true xA
     obtain ⟨ad392, e392, hx392_0, hx392_1, hx392_2⟩ := at_T93 (Kd.V_reads' HO_6.out).2.2 (ji16) p392 q392
     obtain rfl : ad384 = ad392 := (by injection e392)
     replace p392 := eq_true p392
     replace q392 := eq_true q392
     refine start_ (n := 14) (S := fun w' => w'.cell? (ad384.add ((x8_2).toNat * 3)) = some (.string ((rd_T93 x6_1 x8_2).f0)) ∧ w'.cell? ⟨(ad384.add ((x8_2).toNat * 3)).block, (ad384.add ((x8_2).toNat * 3)).off + 1, none⟩ = some (.int .i64 ((rd_T93 x6_1 x8_2).f1)) ∧ w'.cell? ⟨(ad384.add ((x8_2).toNat * 3)).block, (ad384.add ((x8_2).toNat * 3)).off + 2, none⟩ = some (.int .i64 ((rd_T93 x6_1 x8_2).f2)) ∧ w'.cell? (ad384.add (((ji16)).toNat * 3)) = some (.string ((rd_T93 x6_1 (ji16)).f0)) ∧ w'.cell? ⟨(ad384.add (((ji16)).toNat * 3)).block, (ad384.add (((ji16)).toNat * 3)).off + 1, none⟩ = some (.int .i64 ((rd_T93 x6_1 (ji16)).f1)) ∧ w'.cell? ⟨(ad384.add (((ji16)).toNat * 3)).block, (ad384.add (((ji16)).toNat * 3)).off + 2, none⟩ = some (.int .i64 ((rd_T93 x6_1 (ji16)).f2))) (ds := [11, 12]) (bm 14 0) (by kernel_rfl) rfl rfl ⟨hx391_0, hx391_1, hx391_2, hx392_0, hx392_1, hx392_2⟩ (fun hHeld => ?_); refine with_tabW spec_l5Tree.tab9 spec_l5Tree.bits9 (fun HT_ HW_ => ?_)
     generalize wr.drew = w21 at HO_5 HO_6 HO_7 HB hx391_0 hx391_1 hx391_2 hx392_0 hx392_1 hx392_2 hHeld ⊢
     refine pA 0 33 (bm 14 1) HT_ ?_
     refine pA 1 34 (bm 14 3) HT_ ?_
     refine pA 2 35 (bm 14 7) HT_ ?_
     refine pA 3 36 (bm 14 15) HT_ ?_
     refine pA 5 38 (bm 14 47) HT_ ?_
     refine pA 6 39 (bm 14 111) HT_ ?_
     refine pA 7 40 (bm 14 239) HT_ ?_
     refine pA 8 41 (bm 14 495) HT_ ?_
     refine tA 4 37 (bm 14 511) HT_ HW_ hHeld ?_
     refine tA 9 42 (bm 14 1023) HT_ HW_ hHeld ?_
     refine oA 10 (some 43) (bm 14 2047) HT_ fun K hK => ?_
     refine goes_ Tryz.func90 (by kernel_rfl) rfl #[.agg #[.string ((rd_T93 x6_1 x8_2).f0), .int .i64 ((rd_T93 x6_1 x8_2).f1), .int .i64 ((rd_T93 x6_1 x8_2).f2)], .agg #[.string ((rd_T93 x6_1 (ji16)).f0), .int .i64 ((rd_T93 x6_1 (ji16)).f1), .int .i64 ((rd_T93 x6_1 (ji16)).f2)]] (by rfl) rfl rfl (by (try simp only [List.map_toArray, List.map_cons, List.map_nil]); first | done | (simp only [hji16]; rfl) | rfl | (simp only [List.length_drop, List.length_take]; rfl)) ?_
     with_reducible refine (spec_l5Both.calls k2 ((rd_T93 x6_1 x8_2).f0) ((rd_T93 x6_1 x8_2).f1) ((rd_T93 x6_1 x8_2).f2) ((rd_T93 x6_1 (ji16)).f0) ((rd_T93 x6_1 (ji16)).f1) ((rd_T93 x6_1 (ji16)).f2) t393 t394 t395 _ A19.out).mono ?_
     rintro e w22 ⟨rfl, hb⟩
     have HS0_ := cB hb hHeld.1
     have HS1_ := cB hb hHeld.2.1
     have HS2_ := cB hb hHeld.2.2.1
     have HS3_ := cB hb hHeld.2.2.2.1
     have HS4_ := cB hb hHeld.2.2.2.2.1
     have HS5_ := cB hb hHeld.2.2.2.2.2
     refine ⟨_, rfl, ?_⟩
     replace HO_5 := rk HO_5 hb
     replace HO_6 := am (Kd.V_below (va HO_6) hb)
     replace HO_7 := rk HO_7 hb
     replace HB := kH HB hb
     (try clear hb)
     (try clear hb2)
     (try clear hk)
     (try clear hi)
     refine hK.out _ _ ⟨HS0_, HS1_, HS2_, HS3_, HS4_, HS5_⟩ (fun hHeld => ?_)
     clear hK K
     refine nA (some 43) ?_
     refine last_ (i := 11) (N := some 44) (bm 14 4095) rfl rfl (one_of HT_.out (by kernel_rfl)) (by decide) (fun K hK => ?_)
     refine value_ (w1 := ?_) (v := ?_) (by rfl) rfl ?_ ?_
     rotate_left 2
     ·go_simp
      constructor
      ·rfl
      ·rfl
     refine hK.out _ _ ?_
     clear hK K
     refine nA (some 44) ?_
     refine last_ (i := 12) (N := some 45) (bm 14 8191) rfl rfl (one_of HT_.out (by kernel_rfl)) (by decide) (fun K hK => ?_)
     refine Kd.R_append_step k93 (w0 := w) w.heap.size (by rfl) (.tmp 33) (.tmp 44) 25 93 (.agg #[(.string ⟨#[]⟩), (.int .i64 0), (.int .i64 0)]) 32 rfl Tryz.underlying25 info93 rfl (by decide) (by omega) u7 x7_2 (⟨t393, t394, t395⟩ : S93) [.string t393, .int .i64 t394, .int .i64 t395] (fun k_ => (w.heap.size ≤ k_) ∧ some k_ ≠ (v386 : Value).ownBlock) (fun _ => False) rfl rfl ?aP (fun _ hk => hk.elim) ?aF ?aO ?aB ?aS ?aL ?_
     (case aP => exact k93_mkM _ _ _ (⟨t393, t394, t395⟩ : S93))
     (case aB => exact (bl HB))
     (case aF => exact (fun k_ hk => ⟨(Nat.le_trans (below_size (bl HB)) hk), Kd.fresh' (Kd.R_lt (ra HO_5)) k_ hk⟩))
     (case aO => exact (ra HO_7))
     (case aS => exact (below_size (bl HB)))
     (case aL => have := LMc20.out; omega)
     intro v397 w23 ho hb hg hat
     rw [← Ny396.out] at ho
     have n0_ := Aside0.mk (Kd.R_after (ok := (fun k_ => (w.heap.size ≤ k_))) (ra HO_5) hg hat)
     have n1_ := Aside0.mk (Kd.V_afterv (ok := (fun k_ => (P0_ k_ ∨ w.heap.size ≤ k_) ∧ some k_ ≠ (v386 : Value).ownBlock)) (by (with_reducible repeat (first | apply Kd.V_alloc | apply Kd.V_drewN | apply Kd.V_drew)); exact Kd.V_mono HO_6.out (fun _ hk => ⟨⟨hk.1, hk.2.1⟩, hk.2.2⟩)) hg hat)
     have n2_ := Aside0.mk (hb)
     have n3_ := Aside0.mk (ho)
     clear HO_5
     clear HO_6
     clear HB
     clear HO_7
     have HO_5 := n0_
     have HO_6 := n1_
     have HB := n2_
     have HO398 := n3_
     clear n0_ n1_ n2_ n3_
     clear ho hb hg hat
     refine hK.out _ _ ?_
     clear hK K
     refine nA (some 45) ?_
     refine pA 13 7 (bm 14 16383) HT_ ?_
     refine done_ (done_of HT_.out (by kernel_rfl)) ?_
     try go_wp2
     go_roundg k2
     case measure => have := HK1.out; have := HK2.out; omega
     case rel => exact ⟨(y396), (wrap64 (x8_2 + 2)), xR, H', ⟨by have := HK1.out; have := HK2.out; omega⟩, ⟨ra HO_5⟩, ⟨by (with_reducible repeat (first | apply Kd.V_alloc | apply Kd.V_drewN | apply Kd.V_drew)); exact Kd.V_mono HO_6.out (fun _ hk => ⟨hk.1.1, ⟨hk.1.2, hk.2⟩⟩)⟩, ⟨ra HO398⟩, ⟨bl HB⟩⟩
def spec_l5Proof.l0 : Nat → List (S24) → Int → List (S93) → Int → Int → List (S93) → Int → Option ((List (S93)) × (List (S93)))
 | 0, _, _, _, _, _, _, _ => none
 | k + 1, x0, x1, x5, x6, x7, x8, x9 => if 0 ≤ x6 then (if x6 < (x5.length : Int) then (if x9 < (wrap64 (x7 + ((rd_T93 x5 x6).f2))) then (if 0 ≤ x9 then (if x9 < (x0.length : Int) then ((spec_l5Leaf.f k ((rd_T24 x0 x9).f0) ((rd_T24 x0 x9).f1) ((rd_T24 x0 x9).f2) ((rd_T24 x0 x9).f3) ((rd_T24 x0 x9).f4)).bind fun bt410 => (if x8.length < 4398046511104 then (spec_l5Proof.l0 k x0 x1 x5 x6 x7 (x8 ++ [(⟨bt410.1, bt410.2.1, bt410.2.2⟩ : S93)]) (wrap64 (x9 + 1))) else (none))) else (none)) else (none)) else ((spec_l5Tree.f k x8 (wrap64 (x1 - x7))).bind fun t416 => (some (x5, t416)))) else (none)) else (none)
def spec_l5Proof.f (k : Nat) (l0 : List (S24)) (a1 : Int) : Option ((List (S93)) × (List (S93))) := (spec_l5Of.f k l0).bind fun t400 => ((spec_l5Peak.f k t400 a1).bind fun bt403 => (spec_l5Proof.l0 k l0 a1 t400 bt403.1 bt403.2 (([] : List (S93))) bt403.2))
theorem spec_l5Proof.mono_l : ∀ k, (∀ y0 y1 y2 y3 y4 y5 y6, LeO (spec_l5Proof.l0 k y0 y1 y2 y3 y4 y5 y6) (spec_l5Proof.l0 (k + 1) y0 y1 y2 y3 y4 y5 y6))
 | 0 => fun _ _ _ _ _ _ _ r h => by simp [spec_l5Proof.l0] at h
 | k + 1 => by
  have ih0 := spec_l5Proof.mono_l k
  ·intro y0 y1 y2 y3 y4 y5 y6
   unfold spec_l5Proof.l0
   exact mo5 ih0 spec_l5Leaf.mono spec_l5Of.mono spec_l5Peak.mono spec_l5Tree.mono
theorem spec_l5Proof.mono : ∀ a0 a1 k, LeO (spec_l5Proof.f k a0 a1) (spec_l5Proof.f (k + 1) a0 a1) := by
 intro a0 a1 k
 have ih0 := spec_l5Proof.mono_l k
 unfold spec_l5Proof.f
 exact mo5 ih0 spec_l5Leaf.mono spec_l5Of.mono spec_l5Peak.mono spec_l5Tree.mono
theorem spec_l5Proof.calls (k : Nat) (A0 : Option Addr) (c0 : Nat) (l0 : List (S24)) (a1 : Int) (r1 : List (S93)) (r2 : List (S93)) (w : World) (hr0 : Kd.C k24 w A0 l0.length l0) (hc0 : l0.length ≤ c0) (h : spec_l5Proof.f k l0 a1 = some (r1, r2)) :
  Calls Tryz.prog 74 #[.slice A0 l0.length c0, .int .i64 a1] w fun e w' => ∃ v0_ v1_ : Value, e = .returned (.agg #[v0_, v1_]) ∧ Kd.R k93 93 w' w.heap.size (fun k_ => some k_ ≠ (v1_ : Value).ownBlock) v0_ r1 ∧ Kd.R k93 93 w' w.heap.size (fun k_ => some k_ ≠ (v0_ : Value).ownBlock) v1_ r2 ∧ Below w.heap.size w w' := by
 have hu27 := Tryz.underlying27
 have hu24 := Tryz.underlying24
 have HR0 := Aside0.mk hr0
 have HC0 := Aside0.mk hc0
 clear hr0 hc0
 have HB := Aside0.mk (Below.refl w.heap.size w)
 have H : ((spec_l5Of.f k l0).bind fun t400 => ((spec_l5Peak.f k t400 a1).bind fun bt403 => (spec_l5Proof.l0 k l0 a1 t400 bt403.1 bt403.2 (([] : List (S93))) bt403.2))) = some (r1, r2) := h
 clear h
 replace H := oa H
 obtain ⟨t400, A3, H⟩ := H
 replace H := Option.bind_eq_some_iff.mp H
 obtain ⟨⟨t403, t404⟩, A40, H⟩ := H
 have A4 := Aside0.mk A40
 clear A40
 obtain ⟨y405, Ny405⟩ := yA (([] : List (S93)) : List (S93))
 rw [← Ny405.out] at H
 have H' := Aside0.mk H
 clear H
 go_enter Tryz.func74, Tryz.ntmps74
 go_wp2_with (first | ((with_reducible refine gg ?_); first | (refine bE 4 #[.slice none 0 0, .slice none 0 0] 27 ?_; intro gb399 hg w5 hbox hb; have BK399 := am (hbox); have GW399 := zB hg HB; have GE399 := zB hg HB; replace HB := kH HB hb; clear hb hbox hg) | (refine gL 11 Tryz.func43 #[.slice A0 l0.length c0] ?_; (with_reducible refine (spec_l5Of.calls k _ _ l0 t400 _ ?side1 ?side2 A3.out).mono ?_); (case side1 => exact cb HR0 HB); (case side2 => exact HC0.out); rintro e w6 ⟨v401, rfl, ho0, hb⟩; refine ⟨_, rfl, ?_⟩; have HO402 := am (Kd.R_lower ho0 (below_size (xB HB))); replace BK399 := kP _ BK399 hb; replace HB := kH HB hb; (try clear hb); (try clear ho0); obtain ⟨Ao7, co7, eo7⟩ := Kd.R_slice HO402.out; subst eo7) | (refine gL 15 Tryz.func91 #[.slice Ao7 t400.length co7, .int .i64 a1] ?_; (with_reducible refine (spec_l5Peak.calls k _ _ t400 a1 t403 t404 _ ?side1 ?side2 A4.out).mono ?_); (case side1 => exact cr (Kd.R_reads' HO402.out).2.2); (case side2 => exact sl HO402); rintro e w' ⟨rfl, ⟨nd, rfl⟩⟩; refine ⟨_, rfl, ?_⟩)) | ((with_reducible refine gate_dst (N := 18) rfl ?_); refine Kd.R_lit k93 _ 93 ?hg (N := 18) ?hd (xs := ([] : List (S93))) (inner := []) (ok := fun _ => True) (okp := fun _ => True) ?hr ?hp (fun _ hk => hk) trivial (Below.refl _ _) (Nat.le_refl _) (by simp) ?_; (case hd => rfl); (case hg => rfl); (case hr => first | (go_simp; done) | (go_simp; rfl)); (case hp => exact xP); intro v406 w8 ho9 hb hg_ hnew_; clear hg_ hnew_; (first | rw [← Ny405.out] at ho9 | (simp only [Int.reduceToNat] at ho9; rw [← Ny405.out] at ho9)); have HO407 := am (Kd.R_lower (Kd.R_new' ho9 (Kd.R_lt (ra HO402))) (below_size (xB HB))); replace HO402 := am (Kd.R_elder' (ra HO402) (Kd.R_base ho9) hb); replace BK399 := kP _ BK399 hb; replace HB := kH HB hb; clear hb ho9))
 go_loopg [8, 9] k (fun kq v8 v9 w' => ∃ (x8_1 : List (S93)) (x9_1 : Int), v9 = .int .i64 x9_1 ∧ Aside0 (spec_l5Proof.l0 kq l0 a1 t400 t403 t404 x8_1 x9_1 = some (r1, r2)) ∧ Aside0 (kq ≤ k) ∧ Aside0 (Kd.R k93 93 w' w.heap.size (fun k_ => some k_ ≠ (v8 : Value).ownBlock) (.slice Ao7 t400.length co7) t400) ∧ Aside0 (Kd.R k93 93 w' w.heap.size (fun k_ => some k_ ≠ ((.slice Ao7 t400.length co7) : Value).ownBlock) v8 x8_1) ∧ Aside0 (w'.heap[gb399]? = some (.cells #[(.slice none 0 0), (.slice none 0 0)] 27 (0, 0))) ∧ Aside0 (Below w.heap.size w w'))
 case atStart => exact ⟨(y405), (t404), xR, H', ⟨Nat.le_refl _⟩, ⟨rM HO402 (fun _ hk => hk.2)⟩, ⟨rM HO407 (fun _ hk => hk.2)⟩, ⟨kb BK399⟩, ⟨xB HB⟩⟩
 case round =>
  clear H'
  try clear p2
  try clear c4
  try clear c7
  try clear c9
  obtain ⟨x8_1, x9_1, rfl, HA, HK1, HO_5, HO_8, BK399, HB⟩ := hrel
  cases gk with
  | zero => exact absurd HA.out (by simp [spec_l5Proof.l0])
  | succ k1 =>
   have H := HA.out
   clear HA
   simp only [spec_l5Proof.l0] at H
   replace H := ipd H
   obtain ⟨c10b0, H⟩ := H
   replace H := ipd H
   obtain ⟨c11b0, H⟩ := H
   have p408 : 0 ≤ (t403 : Int) := of_decide_eq_true xA
   have q408 : t403 < (t400.length : Int) := of_decide_eq_true xA
   obtain ⟨ad408, e408, hx408_0, hx408_1, hx408_2⟩ := at_T93 (Kd.R_reads' HO_5.out).2.2 t403 p408 q408
   cases e408
   replace p408 := eq_true p408
   replace q408 := eq_true q408
   by_cases c12 : x9_1 < (wrap64 (t404 + ((rd_T93 t400 t403).f2)))
   rotate_left
   ·rw [if_neg c12] at H
    have c12b0 := decide_eq_false c12
    clear c12
    replace H := oa H
    obtain ⟨t416, A19, H⟩ := H
    simp only [Option.some.injEq, Prod.mk.injEq] at H
    obtain ⟨rfl, rfl⟩ := H
    obtain ⟨Ao20, co20, eo20⟩ := Kd.R_slice HO_8.out
    subst eo20
    go_wp2_with ((with_reducible refine gg ?_); refine gL 44 Tryz.func92 #[.slice Ao20 x8_1.length co20, .int .i64 (wrap64 (a1 - t404))] ?_; (with_reducible refine (spec_l5Tree.calls k1 (fun k_ => some k_ = (.slice Ao20 x8_1.length co20 : Value).ownBlock) _ _ x8_1 (wrap64 (a1 - t404)) t416 _ ?side1 A19.out).mono ?_); (case side1 => exact Kd.R_V (Kd.R_tight rfl (Kd.R_types (HO_8.out) BK399.out (by decide)))); rintro e w21 ⟨v417, rfl, ho0, hb⟩; refine ⟨_, rfl, ?_⟩; have HO418 := am (Kd.R_lower (Kd.R_new' (Kd.R_new' (Kd.R_mono (ok' := fun k_ => True) ho0 (fun _ hk_ => trivial)) (Kd.R_lt (ra HO_5))) (Kd.R_lt (ra HO_8))) (below_size (xB HB))); replace HO_5 := am (Kd.R_elder' (ra HO_5) (Kd.R_base ho0) hb); replace HO_8 := am (Kd.R_elder' (ra HO_8) (Kd.R_base ho0) hb); replace BK399 := kP _ BK399 hb; replace HB := kH HB hb; (try clear hb); (try clear ho0); obtain ⟨Ao22, co22, eo22⟩ := Kd.R_slice HO418.out; subst eo22; have hz23 := bc2 BK399)
    refine bodyPost_ret (results_cell_row rfl _ _ gb399 27 #[.slice (some ad408) t400.length co7, .slice Ao22 t416.length co22] (0, 0) _ rfl (fb BK399) Tryz.underlying27 rfl (by kernel_rfl)) rfl ?_
    exact ⟨_, _, xE, rF HO_5 BK399 (fun _ hk => hk.2), rF HO418 BK399 (fun _ hk => hk.1.2), xB HB⟩
   rw [if_pos c12] at H
   have c12b0 := decide_eq_true c12
   clear c12
   replace H := ipd H
   obtain ⟨c13b0, H⟩ := H
   replace H := ipd H
   obtain ⟨c14b0, H⟩ := H
   replace H := Option.bind_eq_some_iff.mp H
   obtain ⟨⟨t410, t411, t412⟩, A150, H⟩ := H
   have A15 := Aside0.mk A150
   clear A150
   replace H := ipa H
   obtain ⟨LMc16, H⟩ := H
   obtain ⟨y413, Ny413⟩ := yA (x8_1 ++ [(⟨t410, t411, t412⟩ : S93)] : List (S93))
   rw [← Ny413.out] at H
   have H' := Aside0.mk H
   clear H
   have p409 : 0 ≤ (x9_1 : Int) := of_decide_eq_true xA
   have q409 : x9_1 < (l0.length : Int) := of_decide_eq_true xA
   obtain ⟨ad409, e409, hx409_0, hx409_1, hx409_2, hx409_3, hx409_4⟩ := at_T24 HR0.out x9_1 p409 q409
   cases e409
   replace hx409_0 := hc HB hx409_0
   replace hx409_1 := hc HB hx409_1
   replace hx409_2 := hc HB hx409_2
   replace hx409_3 := hc HB hx409_3
   replace hx409_4 := hc HB hx409_4
   replace p409 := eq_true p409
   replace q409 := eq_true q409
   go_wp2_with (first | ((with_reducible refine gg ?_); refine gL 36 Tryz.func73 #[.agg #[.string ((rd_T24 l0 x9_1).f0), .string ((rd_T24 l0 x9_1).f1), .int .i64 ((rd_T24 l0 x9_1).f2), .int .i64 ((rd_T24 l0 x9_1).f3), .int .i64 ((rd_T24 l0 x9_1).f4)]] ?_; (with_reducible refine (spec_l5Leaf.calls k1 ((rd_T24 l0 x9_1).f0) ((rd_T24 l0 x9_1).f1) ((rd_T24 l0 x9_1).f2) ((rd_T24 l0 x9_1).f3) ((rd_T24 l0 x9_1).f4) t410 t411 t412 _ A15.out).mono ?_); rintro e w17 ⟨rfl, hb⟩; refine ⟨_, rfl, ?_⟩; replace HO_5 := rk HO_5 hb; replace HO_8 := rk HO_8 hb; replace BK399 := kP _ BK399 hb; replace HB := kH HB hb; (try clear hb)) | ((with_reducible refine gate_builtin (b := .append) (xs := #[.tmp 31, .tmp 37]) rfl ?_); at_builtin; refine Kd.R_append k93 (w0 := w) w.heap.size rfl (.tmp 31) (.tmp 37) 25 93 (.agg #[(.string ⟨#[]⟩), (.int .i64 0), (.int .i64 0)]) 32 rfl Tryz.underlying25 info93 rfl (by decide) (by omega) u8 x8_1 (⟨t410, t411, t412⟩ : S93) [.string t410, .int .i64 t411, .int .i64 t412] (fun k_ => some k_ ≠ (.slice (some ad408) t400.length co7 : Value).ownBlock) (fun _ => False) rfl rfl ?aP (fun _ hk => hk.elim) ?aF ?aO ?aB ?aS ?aL ?_; (case aP => exact k93_mkM _ _ _ (⟨t410, t411, t412⟩ : S93)); (case aB => exact (xB HB)); (case aF => exact (fun k_ hk => Kd.fresh' (Kd.R_lt (ra HO_5)) k_ hk)); (case aO => exact (ra HO_8)); (case aS => exact (below_size (xB HB))); (case aL => have := LMc16.out; omega); intro v414 w18 ho hb hg hat; rw [← Ny413.out] at ho; have n0_ := Aside0.mk (Kd.R_after (ok := (fun _ => True)) (rM HO_5 (fun _ hk => ⟨trivial, hk⟩)) hg hat); have n1_ := Aside0.mk (blk_grown (g := gb399) (o := .cells #[.slice none 0 0, .slice none 0 0] 27 (0, 0)) (kb BK399) hg (Kd.R_ne HO_8.out BK399.out (by decide))); have n2_ := Aside0.mk (hb); have n3_ := Aside0.mk (ho); clear HO_5; clear BK399; clear HB; clear HO_8; have HO_5 := n0_; have BK399 := n1_; have HB := n2_; have HO415 := n3_; clear n0_ n1_ n2_ n3_; clear ho hb hg hat))
   go_roundg k1
   case measure => have := HK1.out; omega
   case rel => exact ⟨(y413), (wrap64 (x9_1 + 1)), xR, H', ⟨xL HK1⟩, ⟨rM HO_5 (fun _ hk => hk.2)⟩, ⟨ra HO415⟩, ⟨kb BK399⟩, ⟨xB HB⟩⟩
def spec_l3Proof.l0 : Nat → Int → List (S48) → List ByteArray → Option ((List (S48)))
 | 0, _, _, _ => none
 | k + 1, x1, x5, x6 => if (x6.length : Int) > 1 then (if (wrap64 ((wrap64 (x1 + 1)) - (wrap64 ((Int.tmod x1 2) * 2)))) < (x6.length : Int) then (if 0 ≤ (wrap64 ((wrap64 (x1 + 1)) - (wrap64 ((Int.tmod x1 2) * 2)))) then (if x5.length < 5864062014805 then ((spec_l3Up.f k x6).bind fun t429 => (spec_l3Proof.l0 k (wrap64 (Int.tdiv x1 2)) (x5 ++ [(⟨rdOf ByteArray.empty x6 (wrap64 ((wrap64 (x1 + 1)) - (wrap64 ((Int.tmod x1 2) * 2)))), decide ((wrap64 ((wrap64 (x1 + 1)) - (wrap64 ((Int.tmod x1 2) * 2)))) < x1)⟩ : S48)]) t429)) else (none)) else (none)) else ((spec_l3Up.f k x6).bind fun t432 => (spec_l3Proof.l0 k (wrap64 (Int.tdiv x1 2)) x5 t432))) else (some x5)
def spec_l3Proof.f (k : Nat) (l0 : List ByteArray) (a1 : Int) : Option ((List (S48))) := (spec_l3Row.f k l0).bind fun t422 => (spec_l3Proof.l0 k a1 (([] : List (S48))) t422)
theorem spec_l3Proof.mono_l : ∀ k, (∀ y0 y1 y2, LeO (spec_l3Proof.l0 k y0 y1 y2) (spec_l3Proof.l0 (k + 1) y0 y1 y2))
 | 0 => fun _ _ _ r h => by simp [spec_l3Proof.l0] at h
 | k + 1 => by
  have ih0 := spec_l3Proof.mono_l k
  ·intro y0 y1 y2
   unfold spec_l3Proof.l0
   exact mo3 ih0 spec_l3Row.mono spec_l3Up.mono
theorem spec_l3Proof.mono : ∀ a0 a1 k, LeO (spec_l3Proof.f k a0 a1) (spec_l3Proof.f (k + 1) a0 a1) := by
 intro a0 a1 k
 have ih0 := spec_l3Proof.mono_l k
 unfold spec_l3Proof.f
 exact mo3 ih0 spec_l3Row.mono spec_l3Up.mono
theorem spec_l3Proof.calls (k : Nat) (A0 : Option Addr) (c0 : Nat) (l0 : List ByteArray) (a1 : Int) (r : List (S48)) (w : World) (hr0 : Kd.C Kd.string w A0 l0.length l0) (hc0 : l0.length ≤ c0) (h : spec_l3Proof.f k l0 a1 = some r) :
  Calls Tryz.prog 75 #[.slice A0 l0.length c0, .int .i64 a1] w fun e w' => ∃ v0_ : Value, e = .returned (v0_) ∧ Kd.R k48 48 w' w.heap.size (fun _ => True) v0_ r ∧ Below w.heap.size w w' := by
 have hu48 := Tryz.underlying48
 have HR0 := Aside0.mk hr0
 have HC0 := Aside0.mk hc0
 clear hr0 hc0
 have HB := Aside0.mk (Below.refl w.heap.size w)
 have H : ((spec_l3Row.f k l0).bind fun t422 => (spec_l3Proof.l0 k a1 (([] : List (S48))) t422)) = some r := h
 clear h
 obtain ⟨y419, Ny419⟩ := yA (([] : List (S48)) : List (S48))
 rw [← Ny419.out] at H
 replace H := oa H
 obtain ⟨t422, A3, H⟩ := H
 have H' := Aside0.mk H
 clear H
 go_enter Tryz.func75, Tryz.ntmps75
 go_wp2_with (first | ((with_reducible refine gate_dst (N := 8) rfl ?_); refine Kd.R_lit k48 _ 48 ?hg (N := 8) ?hd (xs := ([] : List (S48))) (inner := []) (ok := fun _ => True) (okp := fun _ => True) ?hr ?hp (fun _ hk => hk) trivial (Below.refl _ _) (Nat.le_refl _) (by simp) ?_; (case hd => rfl); (case hg => rfl); (case hr => first | (go_simp; done) | (go_simp; rfl)); (case hp => exact xP); intro v420 w4 ho5 hb hg_ hnew_; clear hg_ hnew_; (first | rw [← Ny419.out] at ho5 | (simp only [Int.reduceToNat] at ho5; rw [← Ny419.out] at ho5)); have HO421 := am (Kd.R_lower ho5 (below_size (bl HB))); replace HB := kH HB hb; clear hb ho5) | ((with_reducible refine gg ?_); refine gL 10 Tryz.func93 #[.slice A0 l0.length c0] ?_; (with_reducible refine (spec_l3Row.calls k _ _ l0 t422 _ ?side1 ?side2 A3.out).mono ?_); (case side1 => exact cb HR0 HB); (case side2 => exact HC0.out); rintro e w6 ⟨v423, rfl, ho0, hb⟩; refine ⟨_, rfl, ?_⟩; replace HO421 := rk HO421 hb; have HO424 := am (Kd.R_lower ho0 (below_size (bl HB))); replace HB := kH HB hb; (try clear hb); (try clear ho0)))
 go_loopg [1, 5, 6] k (fun kq v1 v5 v6 w' => ∃ (x1_1 : Int) (x5_1 : List (S48)) (x6_1 : List ByteArray), v1 = .int .i64 x1_1 ∧ Aside0 (spec_l3Proof.l0 kq x1_1 x5_1 x6_1 = some r) ∧ Aside0 (kq ≤ k) ∧ Aside0 (Kd.R k48 48 w' w.heap.size (fun _ => True) v5 x5_1) ∧ Aside0 (Kd.R Kd.string 9 w' w.heap.size (fun _ => True) v6 x6_1) ∧ Aside0 (Below w.heap.size w w'))
 case atStart => exact ⟨(a1), (y419), (t422), xR, H', ⟨Nat.le_refl _⟩, ⟨ra HO421⟩, ⟨ra HO424⟩, ⟨bl HB⟩⟩
 case round =>
  clear H'
  try clear p2
  obtain ⟨x1_1, x5_1, x6_1, rfl, HA, HK1, HO_5, HO_6, HB⟩ := hrel
  cases gk with
  | zero => exact absurd HA.out (by simp [spec_l3Proof.l0])
  | succ k1 =>
   have H := HA.out
   clear HA
   simp only [spec_l3Proof.l0] at H
   by_cases c7 : (x6_1.length : Int) > 1
   rotate_left
   ·rw [if_neg c7] at H
    have c7b0 := decide_eq_false c7
    have c7b1 : decide (1 < x6_1.length) = false := decide_eq_false (by omega)
    clear c7
    obtain rfl := Option.some.inj H
    obtain ⟨Ao19, co19, eo19⟩ := Kd.R_slice HO_6.out
    subst eo19
    go_wp2
    go_ret
    exact ⟨_, xE, ra HO_5, bl HB⟩
   rw [if_pos c7] at H
   have c7b0 := decide_eq_true c7
   have c7b1 : decide (1 < x6_1.length) = true := decide_eq_true (by omega)
   clear c7
   by_cases c8 : (wrap64 ((wrap64 (x1_1 + 1)) - (wrap64 ((Int.tmod x1_1 2) * 2)))) < (x6_1.length : Int)
   rotate_left
   ·rw [if_neg c8] at H
    have c8b0 := decide_eq_false c8
    clear c8
    replace H := oa H
    obtain ⟨t432, A16, H⟩ := H
    have H' := Aside0.mk H
    clear H
    obtain ⟨Ao17, co17, eo17⟩ := Kd.R_slice HO_6.out
    subst eo17
    go_wp2_with ((with_reducible refine gg ?_); refine gL 38 Tryz.func94 #[.slice Ao17 x6_1.length co17] ?_; (with_reducible refine (spec_l3Up.calls k1 _ _ x6_1 t432 _ ?side1 ?side2 A16.out).mono ?_); (case side1 => exact cr (Kd.R_reads' HO_6.out).2.2); (case side2 => exact sl HO_6); rintro e w18 ⟨v433, rfl, ho0, hb⟩; refine ⟨_, rfl, ?_⟩; replace HO_5 := rk HO_5 hb; have HO434 := am (Kd.R_lower (Kd.R_new' ho0 (Kd.R_lt (ra HO_6))) (below_size (bl HB))); replace HO_6 := am (Kd.R_elder' (ra HO_6) (Kd.R_base ho0) hb); replace HB := kH HB hb; (try clear hb); (try clear ho0))
    go_roundg k1
    case measure => have := HK1.out; omega
    case rel => exact ⟨(wrap64 (Int.tdiv x1_1 2)), (x5_1), (t432), xR, H', ⟨xL HK1⟩, ⟨ra HO_5⟩, ⟨rM HO434 (fun _ hk => trivial)⟩, ⟨bl HB⟩⟩
   rw [if_pos c8] at H
   have c8b0 := decide_eq_true c8
   clear c8
   obtain ⟨ji9, hji9⟩ := je (wrap64 ((wrap64 (x1_1 + 1)) - (wrap64 ((Int.tmod x1_1 2) * 2))))
   first | rw [hji9] at H | simp only [hji9] at H
   (try rw [hji9] at c8b0)
   have hji9w : (IntKind.i64.wrap ((wrap64 (x1_1 + 1)) - (wrap64 ((Int.tmod x1_1 2) * 2)))) = ji9 := (i64_w _).trans hji9
   replace H := ipd H
   obtain ⟨c10b0, H⟩ := H
   replace H := ipa H
   obtain ⟨LMc11, H⟩ := H
   obtain ⟨y426, Ny426⟩ := yA (x5_1 ++ [(⟨rdOf ByteArray.empty x6_1 (ji9), decide ((ji9) < x1_1)⟩ : S48)] : List (S48))
   rw [← Ny426.out] at H
   replace H := oa H
   obtain ⟨t429, A12, H⟩ := H
   have H' := Aside0.mk H
   clear H
   obtain ⟨Ao13, co13, eo13⟩ := Kd.R_slice HO_6.out
   subst eo13
   have p425 : 0 ≤ ((ji9) : Int) := of_decide_eq_true xA
   have q425 : (ji9) < (x6_1.length : Int) := of_decide_eq_true xA
   obtain ⟨ad425, e425, hx425_0⟩ := Kd.at_string (Kd.R_reads' HO_6.out).2.2 (ji9) p425 q425
   cases e425
   replace p425 := eq_true p425
   replace q425 := eq_true q425
   go_wp2_with (first | ((with_reducible refine gate_builtin (b := .append) (xs := #[.tmp 24, .tmp 33]) rfl ?_); at_builtin; refine Kd.R_append k48 (w0 := w) w.heap.size rfl (.tmp 24) (.tmp 33) 28 48 (.agg #[(.string ⟨#[]⟩), (.bool false)]) 24 rfl Tryz.underlying28 info48 rfl (by decide) (by omega) u5 x5_1 (⟨rdOf ByteArray.empty x6_1 (ji9), decide ((ji9) < x1_1)⟩ : S48) [.string (rdOf ByteArray.empty x6_1 (ji9)), .bool (decide ((ji9) < x1_1))] (fun _ => True) (fun _ => False) rfl rfl ?aP (fun _ hk => hk.elim) ?aF ?aO ?aB ?aS ?aL ?_; (case aP => exact k48_mkM _ _ _ (⟨rdOf ByteArray.empty x6_1 (ji9), decide ((ji9) < x1_1)⟩ : S48)); (case aB => exact (bl HB)); (case aF => exact (fun _ _ => trivial)); (case aO => exact (ra HO_5)); (case aS => exact (below_size (bl HB))); (case aL => have := LMc11.out; omega); intro v427 w14 ho hb hg hat; rw [← Ny426.out] at ho; have n0_ := Aside0.mk (Kd.R_over' (ra HO_6) (Kd.R_typed (ra HO_5)) (by decide) hg); have n1_ := Aside0.mk (hb); have n2_ := Aside0.mk (ho); clear HO_6; clear HB; clear HO_5; have HO_6 := n0_; have HB := n1_; have HO428 := n2_; clear n0_ n1_ n2_; clear ho hb hg hat) | ((with_reducible refine gg ?_); refine gL 38 Tryz.func94 #[.slice (some ad425) x6_1.length co13] ?_; (with_reducible refine (spec_l3Up.calls k1 _ _ x6_1 t429 _ ?side1 ?side2 A12.out).mono ?_); (case side1 => exact cr (Kd.R_reads' HO_6.out).2.2); (case side2 => exact sl HO_6); rintro e w15 ⟨v430, rfl, ho0, hb⟩; refine ⟨_, rfl, ?_⟩; replace HO428 := rk HO428 hb; have HO431 := am (Kd.R_lower (Kd.R_new' ho0 (Kd.R_lt (ra HO_6))) (below_size (bl HB))); replace HO_6 := am (Kd.R_elder' (ra HO_6) (Kd.R_base ho0) hb); replace HB := kH HB hb; (try clear hb); (try clear ho0)))
   go_roundg k1
   case measure => have := HK1.out; omega
   case rel => exact ⟨(wrap64 (Int.tdiv x1_1 2)), (y426), (t429), xR, H', ⟨xL HK1⟩, ⟨ra HO428⟩, ⟨rM HO431 (fun _ hk => trivial)⟩, ⟨bl HB⟩⟩
def spec_l9Of.f (k : Nat) (l0 : List (S82)) (a1 : Int) (a2 : Int) : Option (Int × ByteArray × ByteArray × Int × Int × Int × (List (S93)) × (List (S93)) × (List (S48))) := (spec_l4Heads.f k l0).bind fun t436 => (if 0 ≤ a1 then (if a1 < (t436.length : Int) then ((spec_l5Proof.f k t436 a1).bind fun bt440 => (if a1 < (l0.length : Int) then ((spec_l3Proof.f k ((rd_T82 l0 a1).f1) a2).bind fun t447 => (some (a1, (rd_T24 t436 a1).f0, (rd_T24 t436 a1).f1, (rd_T24 t436 a1).f2, (rd_T24 t436 a1).f3, (rd_T24 t436 a1).f4, bt440.1, bt440.2, t447))) else (none))) else (none)) else (none))
theorem spec_l9Of.mono : ∀ a0 a1 a2 k, LeO (spec_l9Of.f k a0 a1 a2) (spec_l9Of.f (k + 1) a0 a1 a2) := by
 intro a0 a1 a2 k
 unfold spec_l9Of.f
 exact mo3 spec_l3Proof.mono spec_l4Heads.mono spec_l5Proof.mono
def spec_l9Of.T2 : Bool × List (List Nat × List Nat) := (true, [([], []), ([], []), ([], []), ([1, 2], [1, 2]), ([3], [3]), ([], []), ([], []), ([5, 6], [5, 6]), ([], []), ([], []), ([8, 9], [8, 9]), ([10], [10]), ([11], [11]), ([], []), ([12, 13, 7], [12, 13]), ([0, 4, 7, 14], [0, 4, 7, 14]), ([15, 14, 0, 1, 2, 3, 4, 5, 6, 7, 8, 9, 10, 11, 12, 13, 14, 15], [15])])
def spec_l9Of.B2 : List Nat := [0, 0, 0, 6, 14, 0, 0, 96, 0, 0, 768, 1792, 3840, 0, 16352, 32767, 65535]
theorem spec_l9Of.tab2 : rtab .any (opsOf Tryz.f45 2) = spec_l9Of.T2 := by kernel_rfl
theorem spec_l9Of.bits2 : waitsOk spec_l9Of.T2.2 spec_l9Of.B2 = true := by kernel_rfl
theorem spec_l9Of.calls (k : Nat) (A0 : Option Addr) (c0 : Nat) (l0 : List (S82)) (a1 : Int) (a2 : Int) (r1 : Int) (r2 : ByteArray) (r3 : ByteArray) (r4 : Int) (r5 : Int) (r6 : Int) (r7 : List (S93)) (r8 : List (S93)) (r9 : List (S48)) (w : World) (hr0 : Kd.C k82 w A0 l0.length l0) (hc0 : l0.length ≤ c0) (h : spec_l9Of.f k l0 a1 a2 = some (r1, r2, r3, r4, r5, r6, r7, r8, r9)) :
  Calls Tryz.prog 45 #[.slice A0 l0.length c0, .int .i64 a1, .int .i64 a2] w fun e w' => ∃ v6_ v7_ v8_ : Value, e = .returned (.agg #[.int .i64 r1, .string r2, .string r3, .int .i64 r4, .int .i64 r5, .int .i64 r6, v6_, v7_, v8_]) ∧ Kd.R k93 93 w' w.heap.size (fun k_ => some k_ ≠ (v7_ : Value).ownBlock) v6_ r7 ∧ Kd.R k93 93 w' w.heap.size (fun k_ => some k_ ≠ (v6_ : Value).ownBlock) v7_ r8 ∧ Kd.R k48 48 w' w.heap.size (fun _ => True) v8_ r9 ∧ Below w.heap.size w w' := by
 have hu30 := Tryz.underlying30
 have hu24 := Tryz.underlying24
 have HR0 := Aside0.mk hr0
 have HC0 := Aside0.mk hc0
 clear hr0 hc0
 have HB := Aside0.mk (Below.refl w.heap.size w)
 have H : ((spec_l4Heads.f k l0).bind fun t436 => (if 0 ≤ a1 then (if a1 < (t436.length : Int) then ((spec_l5Proof.f k t436 a1).bind fun bt440 => (if a1 < (l0.length : Int) then ((spec_l3Proof.f k ((rd_T82 l0 a1).f1) a2).bind fun t447 => (some (a1, (rd_T24 t436 a1).f0, (rd_T24 t436 a1).f1, (rd_T24 t436 a1).f2, (rd_T24 t436 a1).f3, (rd_T24 t436 a1).f4, bt440.1, bt440.2, t447))) else (none))) else (none)) else (none))) = some (r1, r2, r3, r4, r5, r6, r7, r8, r9) := h
 clear h
 replace H := oa H
 obtain ⟨t436, A4, H⟩ := H
 replace H := ipd H
 obtain ⟨c5b0, H⟩ := H
 replace H := ipd H
 obtain ⟨c6b0, H⟩ := H
 replace H := Option.bind_eq_some_iff.mp H
 obtain ⟨⟨t440, t443⟩, A70, H⟩ := H
 have A7 := Aside0.mk A70
 clear A70
 replace H := ipd H
 obtain ⟨c8b0, H⟩ := H
 replace H := oa H
 obtain ⟨t447, A9, H⟩ := H
 simp only [Option.some.injEq, Prod.mk.injEq] at H
 obtain ⟨rfl, rfl, rfl, rfl, rfl, rfl, rfl, rfl, rfl⟩ := H
 go_enter Tryz.func45, Tryz.ntmps45
 try go_wp2_with ((with_reducible refine gg ?_); first | (refine bE 6 #[.int .i64 0, .string (⟨#[]⟩ : ByteArray), .string (⟨#[]⟩ : ByteArray), .int .i64 0, .int .i64 0, .int .i64 0, .slice none 0 0, .slice none 0 0, .slice none 0 0] 30 ?_; intro gb435 hg w10 hbox hb; have BK435 := am (hbox); have GW435 := zB hg HB; have GE435 := zB hg HB; replace HB := kH HB hb; clear hb hbox hg) | (refine store_event (t := 30) (p := 6) (v := ?vo_) (w1 := ?wo_) ?hg ?ho ?hn ?hr ?_; (case ho => rfl); (case hg => rfl); (case hn => rfl); (case hr => go_simp; rfl); intro wq_ hW_; have BQ_ := am hW_; have hzq_ := am hW_; replace hW_ := am hW_) | (refine gL 9 Tryz.func44 #[.slice A0 l0.length c0] ?_; (try (clear hzq_ BQ_; obtain ⟨hW_⟩ := hW_; subst hW_)); (with_reducible refine (spec_l4Heads.calls k _ _ l0 t436 _ ?side1 ?side2 A4.out).mono ?_); (case side1 => exact cb HR0 HB); (case side2 => exact HC0.out); rintro e w11 ⟨v437, rfl, ho0, hb⟩; refine ⟨_, rfl, ?_⟩; have HO438 := am (Kd.R_lower ho0 (below_size (xB HB))); replace BK435 := kP _ BK435 hb; replace HB := kH HB hb; (try clear hb); (try clear ho0)))
 replace HO438 := am (Kd.R_drew HO438.out)
 replace BK435 := am (blk_drew BK435.out)
 replace HB := am (below_drew1 HB.out)
 obtain ⟨Ao13, co13, eo13⟩ := Kd.R_slice HO438.out
 (first | subst eo13 | (injection eo13 with f1_ f2_ f3_; have f4_ := f1_.symm; have f5_ := f3_.symm; clear f1_ f2_ f3_; subst f4_; subst f5_))
 have p439 : 0 ≤ (a1 : Int) := of_decide_eq_true xA
 have q439 : a1 < (t436.length : Int) := of_decide_eq_true xA
 obtain ⟨ad439, e439, hx439_0, hx439_1, hx439_2, hx439_3, hx439_4⟩ := at_T24 (Kd.R_reads' HO438.out).2.2 a1 p439 q439
 cases e439
 replace p439 := eq_true p439
 replace q439 := eq_true q439
 have p446 : 0 ≤ (a1 : Int) := of_decide_eq_true xA
 have q446 : a1 < (l0.length : Int) := of_decide_eq_true xA
 obtain ⟨ad446, A446_5, c446_5, e446, hx446_0, hx446_1, hx446_2, hx446_3, hx446_4, hx446_5, hl446_5, hi446_5⟩ := at_T82 HR0.out a1 p446 q446
 have hw446_5 := hx446_5
 have hw446_4 := hx446_4
 have hw446_3 := hx446_3
 have hw446_2 := hx446_2
 have hw446_1 := hx446_1
 have hw446_0 := hx446_0
 cases e446
 replace hx446_0 := hc HB hx446_0
 replace hx446_1 := hc HB hx446_1
 replace hx446_2 := hc HB hx446_2
 replace hx446_3 := hc HB hx446_3
 replace hx446_4 := hc HB hx446_4
 replace hx446_5 := hc HB hx446_5
 have HR446_5 := Aside0.mk hi446_5
 have HC446_5 := Aside0.mk hl446_5
 clear hi446_5 hl446_5
 replace p446 := eq_true p446
 replace q446 := eq_true q446
 (try (clear hzq_ BQ_; obtain ⟨hW_⟩ := hW_; subst hW_))
 refine start_ (n := 17) (S := fun w' => w'.cell? (ad439.add ((a1).toNat * 5)) = some (.string ((rd_T24 t436 a1).f0)) ∧ w'.cell? ⟨(ad439.add ((a1).toNat * 5)).block, (ad439.add ((a1).toNat * 5)).off + 1, none⟩ = some (.string ((rd_T24 t436 a1).f1)) ∧ w'.cell? ⟨(ad439.add ((a1).toNat * 5)).block, (ad439.add ((a1).toNat * 5)).off + 2, none⟩ = some (.int .i64 ((rd_T24 t436 a1).f2)) ∧ w'.cell? ⟨(ad439.add ((a1).toNat * 5)).block, (ad439.add ((a1).toNat * 5)).off + 3, none⟩ = some (.int .i64 ((rd_T24 t436 a1).f3)) ∧ w'.cell? ⟨(ad439.add ((a1).toNat * 5)).block, (ad439.add ((a1).toNat * 5)).off + 4, none⟩ = some (.int .i64 ((rd_T24 t436 a1).f4)) ∧ w'.cell? (ad446.add ((a1).toNat * 6)) = some (.string ((rd_T82 l0 a1).f0.f0)) ∧ w'.cell? ⟨(ad446.add ((a1).toNat * 6)).block, (ad446.add ((a1).toNat * 6)).off + 1, none⟩ = some (.string ((rd_T82 l0 a1).f0.f1)) ∧ w'.cell? ⟨(ad446.add ((a1).toNat * 6)).block, (ad446.add ((a1).toNat * 6)).off + 2, none⟩ = some (.int .i64 ((rd_T82 l0 a1).f0.f2)) ∧ w'.cell? ⟨(ad446.add ((a1).toNat * 6)).block, (ad446.add ((a1).toNat * 6)).off + 3, none⟩ = some (.int .i64 ((rd_T82 l0 a1).f0.f3)) ∧ w'.cell? ⟨(ad446.add ((a1).toNat * 6)).block, (ad446.add ((a1).toNat * 6)).off + 4, none⟩ = some (.int .i64 ((rd_T82 l0 a1).f0.f4)) ∧ w'.cell? ⟨(ad446.add ((a1).toNat * 6)).block, (ad446.add ((a1).toNat * 6)).off + 5, none⟩ = some (.slice A446_5 ((rd_T82 l0 a1).f1).length c446_5)) (ds := []) (bm 17 0) (by kernel_rfl) rfl rfl ⟨hx439_0, hx439_1, hx439_2, hx439_3, hx439_4, (hd HB hw446_0), (hd HB hw446_1), (hd HB hw446_2), (hd HB hw446_3), (hd HB hw446_4), (hd HB hw446_5)⟩ (fun hHeld => ?_); refine with_tabW spec_l9Of.tab2 spec_l9Of.bits2 (fun HT_ HW_ => ?_)
 generalize w11.drew = w12 at HO438 BK435 HB HR446_5 hx439_0 hx439_1 hx439_2 hx439_3 hx439_4 hx446_0 hx446_1 hx446_2 hx446_3 hx446_4 hx446_5 hHeld ⊢
 refine pA 0 10 (bm 17 1) HT_ ?_
 refine pA 1 11 (bm 17 3) HT_ ?_
 refine pA 2 12 (bm 17 7) HT_ ?_
 refine pA 3 13 (bm 17 15) HT_ ?_
 refine pA 5 15 (bm 17 47) HT_ ?_
 refine pA 6 16 (bm 17 111) HT_ ?_
 refine pA 8 18 (bm 17 367) HT_ ?_
 refine pA 9 19 (bm 17 879) HT_ ?_
 refine pA 10 20 (bm 17 1903) HT_ ?_
 refine pA 11 21 (bm 17 3951) HT_ ?_
 refine pA 13 23 (bm 17 12143) HT_ ?_
 refine tA 4 14 (bm 17 12159) HT_ HW_ hHeld ?_
 refine tA 12 22 (bm 17 16255) HT_ HW_ hHeld ?_
 refine oA 7 (some 17) (bm 17 16383) HT_ fun K hK => ?_
 refine gA Tryz.func74 #[.slice (some ad439) t436.length co13, .int .i64 a1] ?_
 with_reducible refine (spec_l5Proof.calls k _ _ t436 a1 t440 t443 _ ?side1 ?side2 A7.out).mono ?_
 (case side1 => exact cr (Kd.R_reads' HO438.out).2.2)
 (case side2 => exact sl HO438)
 rintro e w14 ⟨v441, v444, rfl, ho0, ho1, hb⟩
 have HS0_ := cB hb hHeld.1
 have HS1_ := cB hb hHeld.2.1
 have HS2_ := cB hb hHeld.2.2.1
 have HS3_ := cB hb hHeld.2.2.2.1
 have HS4_ := cB hb hHeld.2.2.2.2.1
 refine ⟨_, rfl, ?_⟩
 replace HO438 := rk HO438 hb
 have HO442 := am (Kd.R_lower ho0 (below_size (xB HB)))
 have HO445 := am (Kd.R_lower ho1 (below_size (xB HB)))
 replace BK435 := kP _ BK435 hb
 replace HB := kH HB hb
 (try clear hb)
 (try clear hb2)
 (try clear hk)
 (try clear hi)
 (try clear ho0)
 (try clear ho1)
 refine hK.out _ _ ⟨HS0_, HS1_, HS2_, HS3_, HS4_, (hd HB hw446_0), (hd HB hw446_1), (hd HB hw446_2), (hd HB hw446_3), (hd HB hw446_4), (hd HB hw446_5)⟩ (fun hHeld => ?_)
 clear hK K
 refine nA (some 17) ?_
 refine oA 14 (some 24) (bm 17 32767) HT_ fun K hK => ?_
 refine gA Tryz.func75 #[.slice A446_5 ((rd_T82 l0 a1).f1).length c446_5, .int .i64 a2] ?_
 with_reducible refine (spec_l3Proof.calls k _ _ ((rd_T82 l0 a1).f1) a2 t447 _ ?side1 ?side2 A9.out).mono ?_
 (case side1 => exact cb HR446_5 HB)
 (case side2 => exact HC446_5.out)
 rintro e w15 ⟨v448, rfl, ho0, hb⟩
 have HS0_ := cB hb hHeld.1
 have HS1_ := cB hb hHeld.2.1
 have HS2_ := cB hb hHeld.2.2.1
 have HS3_ := cB hb hHeld.2.2.2.1
 have HS4_ := cB hb hHeld.2.2.2.2.1
 refine ⟨_, rfl, ?_⟩
 replace HO438 := rk HO438 hb
 replace HO442 := rk HO442 hb
 replace HO445 := rk HO445 hb
 have HO449 := am (Kd.R_lower ho0 (below_size (xB HB)))
 replace BK435 := kP _ BK435 hb
 replace HB := kH HB hb
 (try clear hb)
 (try clear hb2)
 (try clear hk)
 (try clear hi)
 (try clear ho0)
 obtain ⟨Ao16, co16, eo16⟩ := Kd.R_slice HO449.out
 (first | subst eo16 | (injection eo16 with f1_ f2_ f3_; have f4_ := f1_.symm; have f5_ := f3_.symm; clear f1_ f2_ f3_; subst f4_; subst f5_))
 obtain ⟨Ao17, co17, eo17⟩ := Kd.R_slice HO445.out
 (first | subst eo17 | (injection eo17 with f1_ f2_ f3_; have f4_ := f1_.symm; have f5_ := f3_.symm; clear f1_ f2_ f3_; subst f4_; subst f5_))
 obtain ⟨Ao18, co18, eo18⟩ := Kd.R_slice HO442.out
 (first | subst eo18 | (injection eo18 with f1_ f2_ f3_; have f4_ := f1_.symm; have f5_ := f3_.symm; clear f1_ f2_ f3_; subst f4_; subst f5_))
 refine hK.out _ _ ⟨HS0_, HS1_, HS2_, HS3_, HS4_, (hd HB hw446_0), (hd HB hw446_1), (hd HB hw446_2), (hd HB hw446_3), (hd HB hw446_4), (hd HB hw446_5)⟩ (fun hHeld => ?_)
 clear hK K
 refine nA (some 24) ?_
 refine pA 15 25 (bm 17 65535) HT_ ?_
 refine oA 16 none (bm 17 131071) HT_ fun K hK => ?_
 have hs19 : w15.cell? ⟨gb435, 0, none⟩ = some (.int .i64 0) := (blk_cell BK435.out 0).trans rfl
 have hfs19 := blk_frozen BK435.out 0
 have hs20 : w15.cell? ⟨gb435, 1, none⟩ = some (.string (⟨#[]⟩ : ByteArray)) := (blk_cell BK435.out 1).trans rfl
 have hfs20 := blk_frozen BK435.out 1
 have hs21 : w15.cell? ⟨gb435, 2, none⟩ = some (.string (⟨#[]⟩ : ByteArray)) := (blk_cell BK435.out 2).trans rfl
 have hfs21 := blk_frozen BK435.out 2
 have hs22 : w15.cell? ⟨gb435, 3, none⟩ = some (.int .i64 0) := (blk_cell BK435.out 3).trans rfl
 have hfs22 := blk_frozen BK435.out 3
 have hs23 : w15.cell? ⟨gb435, 4, none⟩ = some (.int .i64 0) := (blk_cell BK435.out 4).trans rfl
 have hfs23 := blk_frozen BK435.out 4
 have hs24 : w15.cell? ⟨gb435, 5, none⟩ = some (.int .i64 0) := (blk_cell BK435.out 5).trans rfl
 have hfs24 := blk_frozen BK435.out 5
 have hs25 : w15.cell? ⟨gb435, 6, none⟩ = some (.slice none 0 0) := (blk_cell BK435.out 6).trans rfl
 have hfs25 := blk_frozen BK435.out 6
 have hs26 : w15.cell? ⟨gb435, 7, none⟩ = some (.slice none 0 0) := (blk_cell BK435.out 7).trans rfl
 have hfs26 := blk_frozen BK435.out 7
 have hs27 : w15.cell? ⟨gb435, 8, none⟩ = some (.slice none 0 0) := (blk_cell BK435.out 8).trans rfl
 have hfs27 := blk_frozen BK435.out 8
 refine skip_ (w1 := ?_) (by rfl) rfl ?_ ?_
 rotate_left
 ·go_simp
  rfl
 have hne_ := Kd.own_blk (Kd.R_ne HO438.out BK435.out (by decide))
 refine hK.out _ _ ⟨(cf hne_ hHeld.1), (cf hne_ hHeld.2.1), (cf hne_ hHeld.2.2.1), (cf hne_ hHeld.2.2.2.1), (cf hne_ hHeld.2.2.2.2.1), (cg gb435 (by first | exact Nat.ne_of_lt (Nat.lt_of_lt_of_le (by have := World.block_lt_of_cell? _ _ hw446_0; first | rwa [add_block] at this | exact this) GW435.out) | (rw [add_block]; exact Nat.ne_of_lt (Nat.lt_of_lt_of_le (by have := World.block_lt_of_cell? _ _ hw446_0; first | rwa [add_block] at this | exact this) GW435.out))) hHeld.2.2.2.2.2.1), (cg gb435 (by first | exact Nat.ne_of_lt (Nat.lt_of_lt_of_le (by have := World.block_lt_of_cell? _ _ hw446_1; first | rwa [add_block] at this | exact this) GW435.out) | (rw [add_block]; exact Nat.ne_of_lt (Nat.lt_of_lt_of_le (by have := World.block_lt_of_cell? _ _ hw446_1; first | rwa [add_block] at this | exact this) GW435.out))) hHeld.2.2.2.2.2.2.1), (cg gb435 (by first | exact Nat.ne_of_lt (Nat.lt_of_lt_of_le (by have := World.block_lt_of_cell? _ _ hw446_2; first | rwa [add_block] at this | exact this) GW435.out) | (rw [add_block]; exact Nat.ne_of_lt (Nat.lt_of_lt_of_le (by have := World.block_lt_of_cell? _ _ hw446_2; first | rwa [add_block] at this | exact this) GW435.out))) hHeld.2.2.2.2.2.2.2.1), (cg gb435 (by first | exact Nat.ne_of_lt (Nat.lt_of_lt_of_le (by have := World.block_lt_of_cell? _ _ hw446_3; first | rwa [add_block] at this | exact this) GW435.out) | (rw [add_block]; exact Nat.ne_of_lt (Nat.lt_of_lt_of_le (by have := World.block_lt_of_cell? _ _ hw446_3; first | rwa [add_block] at this | exact this) GW435.out))) hHeld.2.2.2.2.2.2.2.2.1), (cg gb435 (by first | exact Nat.ne_of_lt (Nat.lt_of_lt_of_le (by have := World.block_lt_of_cell? _ _ hw446_4; first | rwa [add_block] at this | exact this) GW435.out) | (rw [add_block]; exact Nat.ne_of_lt (Nat.lt_of_lt_of_le (by have := World.block_lt_of_cell? _ _ hw446_4; first | rwa [add_block] at this | exact this) GW435.out))) hHeld.2.2.2.2.2.2.2.2.2.1), (cg gb435 (by first | exact Nat.ne_of_lt (Nat.lt_of_lt_of_le (by have := World.block_lt_of_cell? _ _ hw446_5; first | rwa [add_block] at this | exact this) GW435.out) | (rw [add_block]; exact Nat.ne_of_lt (Nat.lt_of_lt_of_le (by have := World.block_lt_of_cell? _ _ hw446_5; first | rwa [add_block] at this | exact this) GW435.out))) hHeld.2.2.2.2.2.2.2.2.2.2)⟩ (fun hHeld => ?_)
 clear hK K
 refine done_ (done_of HT_.out (by kernel_rfl)) ?_
 try go_wp2
 (try (clear hzq_ BQ_; obtain ⟨hW_⟩ := hW_; subst hW_))
 refine bodyPost_ret (results_cell_row rfl _ _ gb435 30 #[.int .i64 a1, .string ((rd_T24 t436 a1).f0), .string ((rd_T24 t436 a1).f1), .int .i64 ((rd_T24 t436 a1).f2), .int .i64 ((rd_T24 t436 a1).f3), .int .i64 ((rd_T24 t436 a1).f4), .slice Ao18 t440.length co18, .slice Ao17 t443.length co17, .slice Ao16 t447.length co16] (0, 0) _ rfl (fb BK435) Tryz.underlying30 rfl (by kernel_rfl)) rfl ?_
 exact ⟨_, _, _, xE, rF HO442 BK435 (fun _ hk => hk), rF HO445 BK435 (fun _ hk => hk), rF HO449 BK435 (fun _ hk => trivial), xB HB⟩

end Go.Proofs.YtgjljbaadglpnaaGreatDoor.PFnPaidPut
