/- Functions of the program and what each answers: the kit's print, shortened (wip/press2.py). -/
import Derived.Test.YtgjljbaadglpnaaGreatDoorPFnPaidGetx0
import Derived.Test.YtgjljbaadglpnaaGreatDoorPFnPaidGetx18
import Derived.Test.YtgjljbaadglpnaaGreatDoorPFnPaidGetx21
import Derived.Test.YtgjljbaadglpnaaGreatDoorPFnPaidGetx23
import Derived.Test.YtgjljbaadglpnaaGreatDoorPFnPaidGetx27
namespace Go.Proofs.YtgjljbaadglpnaaGreatDoor.PFnPaidGet
open Go.Proofs.YtgjljbaadglpnaaGreatDoor.Sq Go.RowKit Go.Proofs.YtgjljbaadglpnaaGreatDoorW.PrintWords Go.Proofs.YtgjljbaadglpnaaGreatDoorW.PrintLast Go.Proofs.YtgjljbaadglpnaaGreatDoorW.PrintMore
open Kd
set_option linter.unusedVariables false
set_option linter.unusedSimpArgs false
set_option maxHeartbeats 64000000
set_option maxRecDepth 100000
def spec_l5Of.l0 : Nat → List S24 → List S93 → Int → Option (List S93)
 | 0, _, _, _ => none
 | k + 1, x0, x3, x4 => if x4 < (x0.length : Int) then (if 0 ≤ x4 then ((spec_l5Leaf.f k ((rd_T24 x0 x4).f0) ((rd_T24 x0 x4).f1) ((rd_T24 x0 x4).f2) ((rd_T24 x0 x4).f3) ((rd_T24 x0 x4).f4)).bind fun bt569 => ((spec_l5Add.f k x3 bt569.1 bt569.2.1 bt569.2.2).bind fun t572 => (spec_l5Of.l0 k x0 t572 (wrap64 (x4 + 1))))) else (none)) else (some x3)
def spec_l5Of.f (k : Nat) (l0 : List S24) : Option (List S93) := spec_l5Of.l0 k l0 (([] : List S93)) 0
theorem spec_l5Of.calls (k : Nat) (A0 : Option Addr) (c0 : Nat) (l0 : List S24) (r : List S93) (w : World) (hr0 : Kd.C k24 w A0 l0.length l0) (hc0 : l0.length ≤ c0) (h : spec_l5Of.f k l0 = some r) :
  Calls Tryz.prog 43 #[.slice A0 l0.length c0] w fun e w' => ∃ v0_ : Value, e = .returned (v0_) ∧ Kd.R k93 93 w' w.heap.size (fun _ => True) v0_ r ∧ Below w.heap.size w w' := by
 have hu24 := Tryz.underlying24
 have HR0 := am hr0
 have HC0 := am hc0
 clear hr0 hc0
 have HB := am (Below.refl w.heap.size w)
 have H : (spec_l5Of.l0 k l0 (([] : List S93)) 0) = some r := h
 clear h
 obtain ⟨y565, Ny565⟩ := yA (([] : List S93) : List S93)
 rw [← Ny565.out] at H
 have H' := am H
 clear H
 go_enter Tryz.func43, Tryz.ntmps43
 go_wp2_with ((with_reducible refine gate_dst (N := 5) rfl ?_); refine R_lit k93 _ 93 ?hg (N := 5) ?hd (xs := ([] : List S93)) (inner := []) (ok := fun _ => True) (okp := fun _ => True) ?hr ?hp (fun _ hk => hk) trivial (Below.refl _ _) (Nat.le_refl _) (by simp) ?_; (case hd => rfl); (case hg => rfl); (case hr => first | (go_simp; done) | (go_simp; rfl)); (case hp => exact xP); intro v566 w2 ho3 hb hg_ hnew_; clear hg_ hnew_; (first | rw [← Ny565.out] at ho3 | (simp only [Int.reduceToNat] at ho3; rw [← Ny565.out] at ho3)); have HO567 := am (R_lower ho3 (below_size (bl HB))); replace HB := kH HB hb; clear hb ho3)
 go_loopg [3, 4] k (fun kq v3 v4 w' => ∃ (x3_1 : List S93) (x4_1 : Int), v4 = .int .i64 x4_1 ∧ Aside0 (spec_l5Of.l0 kq l0 x3_1 x4_1 = some r) ∧ Aside0 (kq ≤ k) ∧ Aside0 (Kd.R k93 93 w' w.heap.size (fun _ => True) v3 x3_1) ∧ Aside0 (Below w.heap.size w w'))
 case atStart => exact ⟨(y565), (0), xR, H', ⟨Nat.le_refl _⟩, ⟨ra HO567⟩, ⟨bl HB⟩⟩
 case round =>
  clear H'
  try clear p2
  obtain ⟨x3_1, x4_1, rfl, HA, HK1, HO_3, HB⟩ := hrel
  cases gk with
  | zero => exact absurd HA.out (by simp [spec_l5Of.l0])
  | succ k1 =>
   have H := HA.out
   clear HA
   simp only [spec_l5Of.l0] at H
   by_cases c4 : x4_1 < (l0.length : Int)
   rotate_left
   ·rw [if_neg c4] at H
    have c4b0 := df c4
    clear c4
    obtain rfl := oI H
    go_wp2
    go_ret
    exact ⟨_, xE, ra HO_3, bl HB⟩
   rw [if_pos c4] at H
   have c4b0 := dt c4
   clear c4
   replace ⟨c5b0, H⟩ := ipd H
   replace H := Option.bind_eq_some_iff.mp H
   obtain ⟨⟨t569, t570, t571⟩, A60, H⟩ := H
   have A6 := am A60
   clear A60
   replace ⟨t572, A7, H⟩ := oa H
   have H' := am H
   clear H
   have p568 : 0 ≤ (x4_1 : Int) := oX
   have q568 : x4_1 < (l0.length : Int) := oX
   obtain ⟨ad568, e568, hx568_0, hx568_1, hx568_2, hx568_3, hx568_4⟩ := at_T24 (hC HB HR0.out) x4_1 p568 q568
   cases e568
   replace ⟨p568, q568⟩ := eT p568 q568
   go_wp2_with ((with_reducible refine gg ?_); first | (refine gL 17 Tryz.func73 #[.agg #[.string ((rd_T24 l0 x4_1).f0), .string ((rd_T24 l0 x4_1).f1), .int .i64 ((rd_T24 l0 x4_1).f2), .int .i64 ((rd_T24 l0 x4_1).f3), .int .i64 ((rd_T24 l0 x4_1).f4)]] ?_; (with_reducible refine (spec_l5Leaf.calls k1 ((rd_T24 l0 x4_1).f0) ((rd_T24 l0 x4_1).f1) ((rd_T24 l0 x4_1).f2) ((rd_T24 l0 x4_1).f3) ((rd_T24 l0 x4_1).f4) t569 t570 t571 _ A6.out).mono ?_); rintro e w8 ⟨rfl, hb⟩; refine ⟨_, rfl, ?_⟩; replace HO_3 := rk HO_3 hb; replace HB := kH HB hb; (try clear hb); obtain ⟨Ao9, co9, rfl⟩ := R_slice HO_3.out) | (refine gL 18 Tryz.func72 #[.slice Ao9 x3_1.length co9, .agg #[.string t569, .int .i64 t570, .int .i64 t571]] ?_; (with_reducible refine (spec_l5Add.calls k1 _ _ x3_1 t569 t570 t571 t572 _ ?side1 ?side2 A7.out).mono ?_); (case side1 => exact cr (R_reads' HO_3.out).2.2); (case side2 => exact sl HO_3); rintro e w10 ⟨v573, rfl, ho0, hb⟩; refine ⟨_, rfl, ?_⟩; have HO574 := am (R_lower (R_new' ho0 (R_lt (ra HO_3))) (below_size (bl HB))); replace HO_3 := am (R_elder' (ra HO_3) (R_base ho0) hb); replace HB := kH HB hb; (try clear hb); (try clear ho0)))
   go_roundg k1
   case measure => have := HK1.out; omega
   case rel => exact ⟨(t572), (wrap64 (x4_1 + 1)), xR, H', ⟨xL HK1⟩, ⟨rM HO574 (fun _ hk => trivial)⟩, ⟨bl HB⟩⟩
def spec_l5Peak.l0 : Nat → List S93 → Int → Int → Int → Option (Int × Int)
 | 0, _, _, _, _ => none
 | k + 1, x0, x1, x6, x7 => if x7 < (x0.length : Int) then (if 0 ≤ x7 then (if x1 < (wrap64 (x6 + ((rd_T93 x0 x7).f2))) then (some (x7, x6)) else (spec_l5Peak.l0 k x0 x1 (wrap64 (x6 + ((rd_T93 x0 x7).f2))) (wrap64 (x7 + 1)))) else (none)) else (some ((-1), x6))
def spec_l5Peak.f (k : Nat) (l0 : List S93) (a1 : Int) : Option (Int × Int) := spec_l5Peak.l0 k l0 a1 0 0
theorem spec_l5Peak.calls (k : Nat) (A0 : Option Addr) (c0 : Nat) (l0 : List S93) (a1 : Int) (r1 : Int) (r2 : Int) (w : World) (hr0 : Kd.C k93 w A0 l0.length l0) (hc0 : l0.length ≤ c0) (h : spec_l5Peak.f k l0 a1 = some (r1, r2)) :
  Calls Tryz.prog 91 #[.slice A0 l0.length c0, .int .i64 a1] w fun e w' => e = .returned (.tuple #[.int .i64 r1, .int .i64 r2]) ∧ Drawn0 w w' := by
 have HR0 := am hr0
 have HC0 := am hc0
 clear hr0 hc0
 have H : (spec_l5Peak.l0 k l0 a1 0 0) = some (r1, r2) := h
 clear h
 have H' := am H
 clear H
 go_enter Tryz.func91, Tryz.ntmps91
 go_wp2
 go_loopg [6, 7] k (fun kq v6 v7 w' => ∃ (x6_1 : Int) (x7_1 : Int), v6 = .int .i64 x6_1 ∧ v7 = .int .i64 x7_1 ∧ Aside0 (spec_l5Peak.l0 kq l0 a1 x6_1 x7_1 = some (r1, r2)) ∧ Aside0 (kq ≤ k) ∧ Drawn0 w w')
 case atStart => exact ⟨(0), (0), xR, xR, H', ⟨Nat.le_refl _⟩, xW⟩
 case round =>
  clear H'
  try clear p2
  obtain ⟨x6_1, x7_1, rfl, rfl, HA, HK1, ⟨m1, rfl⟩⟩ := hrel
  cases gk with
  | zero => exact absurd HA.out (by simp [spec_l5Peak.l0])
  | succ k1 =>
   have H := HA.out
   clear HA
   simp only [spec_l5Peak.l0] at H
   by_cases c3 : x7_1 < (l0.length : Int)
   rotate_left
   ·rw [if_neg c3] at H
    have c3b0 := df c3
    clear c3
    simp only [Option.some.injEq, Prod.mk.injEq] at H
    obtain ⟨rfl, rfl⟩ := H
    go_wp2
    go_ret2
    exact ⟨xR, xW⟩
   rw [if_pos c3] at H
   have c3b0 := dt c3
   clear c3
   replace ⟨c4b0, H⟩ := ipd H
   have p575 : 0 ≤ (x7_1 : Int) := oX
   have q575 : x7_1 < (l0.length : Int) := oX
   obtain ⟨ad575, e575, hx575_0, hx575_1, hx575_2⟩ := at_T93 HR0.out x7_1 p575 q575
   cases e575
   replace ⟨p575, q575⟩ := eT p575 q575
   by_cases c5 : a1 < (wrap64 (x6_1 + ((rd_T93 l0 x7_1).f2)))
   ·rw [if_pos c5] at H
    have c5b0 := dt c5
    clear c5
    simp only [Option.some.injEq, Prod.mk.injEq] at H
    obtain ⟨rfl, rfl⟩ := H
    go_wp2
    go_ret2
    exact ⟨xR, xW⟩
   rw [if_neg c5] at H
   have c5b0 := df c5
   clear c5
   have H' := am H
   clear H
   have p576 : 0 ≤ (x7_1 : Int) := oX
   have q576 : x7_1 < (l0.length : Int) := oX
   obtain ⟨ad576, e576, hx576_0, hx576_1, hx576_2⟩ := at_T93 HR0.out x7_1 p576 q576
   obtain rfl : ad575 = ad576 := (by injection e576)
   replace ⟨p576, q576⟩ := eT p576 q576
   go_wp2
   go_roundg k1
   case measure => have := HK1.out; omega
   case rel => exact ⟨(wrap64 (x6_1 + ((rd_T93 l0 x7_1).f2))), (wrap64 (x7_1 + 1)), xR, xR, H', ⟨xL HK1⟩, xW⟩
mutual
def spec_l5Tree.l0 : Nat → Int → List S93 → List S93 → Option (List S93)
 | 0, _, _, _ => none
 | k + 1, x1, x5, x6 => if (x6.length : Int) > 1 then (if 0 ≤ (wrap64 ((wrap64 (x1 + 1)) - (wrap64 ((Int.tmod x1 2) * 2)))) then (if (wrap64 ((wrap64 (x1 + 1)) - (wrap64 ((Int.tmod x1 2) * 2)))) < (x6.length : Int) then (if x5.length < 4398046511104 then (spec_l5Tree.l1 k x1 (x5 ++ [(⟨(rd_T93 x6 (wrap64 ((wrap64 (x1 + 1)) - (wrap64 ((Int.tmod x1 2) * 2))))).f0, (rd_T93 x6 (wrap64 ((wrap64 (x1 + 1)) - (wrap64 ((Int.tmod x1 2) * 2))))).f1, (rd_T93 x6 (wrap64 ((wrap64 (x1 + 1)) - (wrap64 ((Int.tmod x1 2) * 2))))).f2⟩ : S93)]) x6 (([] : List S93)) 0) else (none)) else (none)) else (none)) else (some x5)
def spec_l5Tree.l1 : Nat → Int → List S93 → List S93 → List S93 → Int → Option (List S93)
 | 0, _, _, _, _, _ => none
 | k + 1, x1, x5, x6, x7, x8 => if x8 < (x6.length : Int) then (if 0 ≤ x8 then (if 0 ≤ (wrap64 (x8 + 1)) then (if (wrap64 (x8 + 1)) < (x6.length : Int) then ((spec_l5Both.f k ((rd_T93 x6 x8).f0) ((rd_T93 x6 x8).f1) ((rd_T93 x6 x8).f2) ((rd_T93 x6 (wrap64 (x8 + 1))).f0) ((rd_T93 x6 (wrap64 (x8 + 1))).f1) ((rd_T93 x6 (wrap64 (x8 + 1))).f2)).bind fun bt589 => (if x7.length < 4398046511104 then (spec_l5Tree.l1 k x1 x5 x6 (x7 ++ [(⟨bt589.1, bt589.2.1, bt589.2.2⟩ : S93)]) (wrap64 (x8 + 2))) else (none))) else (none)) else (none)) else (none)) else (spec_l5Tree.l0 k (wrap64 (Int.tdiv x1 2)) x5 x7)
end
def spec_l5Tree.f (k : Nat) (l0 : List S93) (a1 : Int) : Option (List S93) := spec_l5Tree.l0 k a1 (([] : List S93)) l0
def spec_l5Tree.T9 : Bool × List (List Nat × List Nat) := (true, [([], []), ([], []), ([], []), ([1, 2], [1, 2]), ([3], [3]), ([], []), ([], []), ([6], [6]), ([5, 7], [5, 7]), ([8], [8]), ([4, 9], [4, 9]), ([10], [10]), ([0, 11, 10], [0, 11]), ([12, 12, 0, 1, 2, 3, 4, 5, 6, 7, 8, 9, 10, 11, 12], [0, 12])])
def spec_l5Tree.B9 : List Nat := [0, 0, 0, 6, 14, 0, 0, 64, 224, 480, 1022, 2046, 4095, 8191]
theorem spec_l5Tree.tab9 : rtab .any (opsOf Tryz.f92 9) = spec_l5Tree.T9 := by kernel_rfl
theorem spec_l5Tree.bits9 : waitsOk spec_l5Tree.T9.2 spec_l5Tree.B9 = true := by kernel_rfl
theorem spec_l5Tree.calls (k : Nat) (P0_ : Nat → Prop) (A0 : Option Addr) (c0 : Nat) (l0 : List S93) (a1 : Int) (r : List S93) (w : World) (hs0 : Kd.V k93 93 w w.heap.size (fun k_ => P0_ k_) (.slice A0 l0.length c0) l0) (h : spec_l5Tree.f k l0 a1 = some r) :
  Calls Tryz.prog 92 #[.slice A0 l0.length c0, .int .i64 a1] w fun e w' => ∃ v0_ : Value, e = .returned (v0_) ∧ Kd.R k93 93 w' w.heap.size (fun k_ => (w.heap.size ≤ k_)) v0_ r ∧ Below w.heap.size w w' := by
 have hu93 := Tryz.underlying93
 have HO0 := am (show Kd.V k93 93 w w.heap.size (fun k_ => (P0_ k_ ∨ w.heap.size ≤ k_)) (.slice A0 l0.length c0) l0 from V_mono hs0 (fun k_ hk => .inl hk))
 have HB := am (Below.refl w.heap.size w)
 have H : (spec_l5Tree.l0 k a1 (([] : List S93)) l0) = some r := h
 clear h
 obtain ⟨y577, Ny577⟩ := yA (([] : List S93) : List S93)
 rw [← Ny577.out] at H
 have H' := am H
 clear H
 go_enter Tryz.func92, Tryz.ntmps92
 go_wp2_with ((with_reducible refine gate_dst (N := 9) rfl ?_); refine R_lit k93 _ 93 ?hg (N := 9) ?hd (xs := ([] : List S93)) (inner := []) (ok := fun _ => True) (okp := fun _ => True) ?hr ?hp (fun _ hk => hk) trivial (Below.refl _ _) (Nat.le_refl _) (by simp) ?_; (case hd => rfl); (case hg => rfl); (case hr => first | (go_simp; done) | (go_simp; rfl)); (case hp => exact xP); intro v578 w3 ho4 hb hg_ hnew_; clear hg_ hnew_; (first | rw [← Ny577.out] at ho4 | (simp only [Int.reduceToNat] at ho4; rw [← Ny577.out] at ho4)); replace HO0 := am (V_elder' (va HO0) (R_base ho4) hb); have HO579 := am (R_lower (R_newM (M := fun k_ => (w.heap.size ≤ k_)) ho4 (below_size (bl HB)) (fun k_ h_ => h_)) (below_size (bl HB))); replace HB := kH HB hb; clear hb ho4)
 go_loopg [1, 5, 6] k (fun kq v1 v5 v6 w' => ∃ (x1_1 : Int) (x5_1 : List S93) (x6_1 : List S93), v1 = .int .i64 x1_1 ∧ Aside0 (spec_l5Tree.l0 kq x1_1 x5_1 x6_1 = some r) ∧ Aside0 (kq ≤ k) ∧ Aside0 (Kd.R k93 93 w' w.heap.size (fun k_ => (w.heap.size ≤ k_)) v5 x5_1) ∧ Aside0 (Kd.V k93 93 w' w.heap.size (fun k_ => (P0_ k_ ∨ w.heap.size ≤ k_) ∧ some k_ ≠ (v5 : Value).ownBlock) v6 x6_1) ∧ Aside0 (Below w.heap.size w w'))
 case atStart => exact ⟨(a1), (y577), (l0), xR, H', ⟨Nat.le_refl _⟩, ⟨rM HO579 (fun _ hk => hk.1)⟩, ⟨va HO0⟩, ⟨bl HB⟩⟩
 case round =>
  clear H'
  try clear p2
  obtain ⟨x1_1, x5_1, x6_1, rfl, HA, HK1, HO_5, HO_6, HB⟩ := hrel
  cases gk with
  | zero => exact absurd HA.out (by simp [spec_l5Tree.l0])
  | succ k1 =>
   have H := HA.out
   clear HA
   simp only [spec_l5Tree.l0] at H
   by_cases c5 : (x6_1.length : Int) > 1
   rotate_left
   ·rw [if_neg c5] at H
    have c5b0 := df c5
    have c5b1 : decide (1 < x6_1.length) = false := decide_eq_false (by omega)
    clear c5
    obtain rfl := oI H
    obtain ⟨Ao24, co24, rfl⟩ := V_slice HO_6.out
    go_wp2
    go_ret
    exact ⟨_, xE, ra HO_5, bl HB⟩
   rw [if_pos c5] at H
   have c5b0 := dt c5
   have c5b1 : decide (1 < x6_1.length) = true := dt (by omega)
   clear c5
   obtain ⟨ji6, hji6⟩ := je (wrap64 ((wrap64 (x1_1 + 1)) - (wrap64 ((Int.tmod x1_1 2) * 2))))
   first | rw [hji6] at H | simp only [hji6] at H
   have hji6w : (IntKind.i64.wrap ((wrap64 (x1_1 + 1)) - (wrap64 ((Int.tmod x1_1 2) * 2)))) = ji6 := (i64_w _).trans hji6
   replace ⟨c7b0, H⟩ := ipd H
   replace ⟨c8b0, H⟩ := ipd H
   replace ⟨LMc9, H⟩ := ipa H
   obtain ⟨y581, Ny581⟩ := yA (x5_1 ++ [(⟨(rd_T93 x6_1 (ji6)).f0, (rd_T93 x6_1 (ji6)).f1, (rd_T93 x6_1 (ji6)).f2⟩ : S93)] : List S93)
   rw [← Ny581.out] at H
   obtain ⟨y584, Ny584⟩ := yA (([] : List S93) : List S93)
   rw [← Ny584.out] at H
   have H' := am H
   clear H
   obtain ⟨Ao10, co10, rfl⟩ := V_slice HO_6.out
   have p580 : 0 ≤ ((ji6) : Int) := oX
   have q580 : (ji6) < (x6_1.length : Int) := oX
   obtain ⟨ad580, e580, hx580_0, hx580_1, hx580_2⟩ := at_T93 (V_reads' HO_6.out).2.2 (ji6) p580 q580
   cases e580
   replace ⟨p580, q580⟩ := eT p580 q580
   go_wp2_with (first | ((with_reducible refine gate_builtin (b := .append) (xs := #[.tmp 14, .tmp 24]) rfl ?_); at_builtin; refine R_append k93 (w0 := w) w.heap.size rfl (.tmp 14) (.tmp 24) 25 93 (.agg #[(.string ⟨#[]⟩), (.int .i64 0), (.int .i64 0)]) 32 rfl Tryz.underlying25 info93 rfl (by decide) (by omega) u5 x5_1 (⟨(rd_T93 x6_1 (ji6)).f0, (rd_T93 x6_1 (ji6)).f1, (rd_T93 x6_1 (ji6)).f2⟩ : S93) [.string ((rd_T93 x6_1 (ji6)).f0), .int .i64 ((rd_T93 x6_1 (ji6)).f1), .int .i64 ((rd_T93 x6_1 (ji6)).f2)] (fun k_ => (w.heap.size ≤ k_)) (fun _ => False) rfl rfl ?aP (fun _ hk => hk.elim) ?aF ?aO ?aB ?aS ?aL ?_; (case aP => exact k93_mkM _ _ _ (⟨(rd_T93 x6_1 (ji6)).f0, (rd_T93 x6_1 (ji6)).f1, (rd_T93 x6_1 (ji6)).f2⟩ : S93)); (case aB => exact (bl HB)); (case aF => exact (fun k_ hk => (Nat.le_trans (below_size (bl HB)) hk))); (case aO => exact (ra HO_5)); (case aS => exact (below_size (bl HB))); (case aL => have := LMc9.out; omega); intro v582 w11 ho hb hg hat; rw [← Ny581.out] at ho; have n0_ := am (V_afterv (ok := (fun k_ => (P0_ k_ ∨ w.heap.size ≤ k_))) (va HO_6) hg hat); have n1_ := am (hb); have n2_ := am (ho); clear HO_6; clear HB; clear HO_5; have HO_6 := n0_; have HB := n1_; have HO583 := n2_; clear n0_ n1_ n2_; clear ho hb hg hat) | ((with_reducible refine gate_dst (N := 26) rfl ?_); refine R_lit k93 _ 93 ?hg (N := 26) ?hd (xs := ([] : List S93)) (inner := []) (ok := fun _ => True) (okp := fun _ => True) ?hr ?hp (fun _ hk => hk) trivial (Below.refl _ _) (Nat.le_refl _) (by simp) ?_; (case hd => rfl); (case hg => rfl); (case hr => first | (go_simp; done) | (go_simp; rfl)); (case hp => exact xP); intro v585 w12 ho13 hb hg_ hnew_; clear hg_ hnew_; (first | rw [← Ny584.out] at ho13 | (simp only [Int.reduceToNat] at ho13; rw [← Ny584.out] at ho13)); replace HO_6 := am (V_elder' (va HO_6) (R_base ho13) hb); have HO586 := am (R_lower (R_new' (R_newM (M := fun k_ => (w.heap.size ≤ k_)) ho13 (below_size (bl HB)) (fun k_ h_ => h_)) (R_lt (ra HO583))) (below_size (bl HB))); replace HO583 := am (R_elder' (ra HO583) (R_base ho13) hb); replace HB := kH HB hb; clear hb ho13))
   go_loopg [7, 8] k1 (fun kq v7 v8 w' => ∃ (x7_2 : List S93) (x8_2 : Int), v8 = .int .i64 x8_2 ∧ Aside0 (spec_l5Tree.l1 kq x1_1 y581 x6_1 x7_2 x8_2 = some r) ∧ Aside0 (kq ≤ k1) ∧ Aside0 (Kd.R k93 93 w' w.heap.size (fun k_ => (w.heap.size ≤ k_) ∧ some k_ ≠ (v7 : Value).ownBlock) v582 y581) ∧ Aside0 (Kd.V k93 93 w' w.heap.size (fun k_ => (P0_ k_ ∨ w.heap.size ≤ k_) ∧ some k_ ≠ (v582 : Value).ownBlock ∧ some k_ ≠ (v7 : Value).ownBlock) (.slice (some ad580) x6_1.length co10) x6_1) ∧ Aside0 (Kd.R k93 93 w' w.heap.size (fun k_ => (w.heap.size ≤ k_) ∧ some k_ ≠ (v582 : Value).ownBlock) v7 x7_2) ∧ Aside0 (Below w.heap.size w w'))
   case atStart => exact ⟨(y584), (0), xR, H', ⟨Nat.le_refl _⟩, ⟨ra HO583⟩, ⟨vM HO_6 (fun _ hk => ⟨hk.1.1, ⟨hk.1.2, hk.2⟩⟩)⟩, ⟨rM HO586 (fun _ hk => ⟨hk.1.1, hk.2⟩)⟩, ⟨bl HB⟩⟩
   case round =>
    clear H'
    try clear c5 c5b0 c5b1 c7b0 c8b0 hx580_0 hx580_1 hx580_2 p580 q580
    obtain ⟨x7_2, x8_2, rfl, HA, HK2, HO_5, HO_6, HO_7, HB⟩ := hrel
    cases gk with
    | zero => exact absurd HA.out (by simp [spec_l5Tree.l1])
    | succ k2 =>
     have H := HA.out
     clear HA
     simp only [spec_l5Tree.l1] at H
     by_cases c14 : x8_2 < (x6_1.length : Int)
     rotate_left
     ·rw [if_neg c14] at H
      have c14b0 := df c14
      clear c14
      have H' := am H
      clear H
      go_wp2
      go_roundg k2
      case measure => have := HK1.out; have := HK2.out; omega
      case rel => exact ⟨(wrap64 (Int.tdiv x1_1 2)), (y581), (x7_2), xR, H', ⟨by have := HK1.out; have := HK2.out; omega⟩, ⟨rM HO_5 (fun _ hk => hk.1)⟩, ⟨V_mono (R_V (ra HO_7)) (fun k_ hk => by first | exact ⟨(.inr (hk.1)), hk.2⟩ | exact (.inr (hk)))⟩, ⟨bl HB⟩⟩
     rw [if_pos c14] at H
     have c14b0 := dt c14
     clear c14
     replace ⟨c15b0, H⟩ := ipd H
     obtain ⟨ji16, hji16⟩ := je (wrap64 (x8_2 + 1))
     first | rw [hji16] at H | simp only [hji16] at H
     have hji16w : (IntKind.i64.wrap (x8_2 + 1)) = ji16 := (i64_w _).trans hji16
     replace ⟨c17b0, H⟩ := ipd H
     replace ⟨c18b0, H⟩ := ipd H
     replace H := Option.bind_eq_some_iff.mp H
     obtain ⟨⟨t589, t590, t591⟩, A190, H⟩ := H
     have A19 := am A190
     clear A190
     replace ⟨LMc20, H⟩ := ipa H
     obtain ⟨y592, Ny592⟩ := yA (x7_2 ++ [(⟨t589, t590, t591⟩ : S93)] : List S93)
     rw [← Ny592.out] at H
     have H' := am H
     clear H
     try go_wp2
     replace HO_5 := am (R_drew HO_5.out)
     replace HO_6 := am (V_drew HO_6.out)
     replace HO_7 := am (R_drew HO_7.out)
     replace HB := am (below_drew1 HB.out)
     have p587 : 0 ≤ (x8_2 : Int) := oX
     have q587 : x8_2 < (x6_1.length : Int) := oX
     obtain ⟨ad587, e587, hx587_0, hx587_1, hx587_2⟩ := at_T93 (V_reads' HO_6.out).2.2 x8_2 p587 q587
     obtain rfl : ad580 = ad587 := (by injection e587)
     replace ⟨p587, q587⟩ := eT p587 q587
     have p588 : 0 ≤ ((ji16) : Int) := oX
     have q588 : (ji16) < (x6_1.length : Int) := oX
     obtain ⟨ad588, e588, hx588_0, hx588_1, hx588_2⟩ := at_T93 (V_reads' HO_6.out).2.2 (ji16) p588 q588
     obtain rfl : ad580 = ad588 := (by injection e588)
     replace ⟨p588, q588⟩ := eT p588 q588
     refine start_ (n := 14) (S := fun w' => w'.cell? (ad580.add ((x8_2).toNat * 3)) = some (.string ((rd_T93 x6_1 x8_2).f0)) ∧ w'.cell? ⟨(ad580.add ((x8_2).toNat * 3)).block, (ad580.add ((x8_2).toNat * 3)).off + 1, none⟩ = some (.int .i64 ((rd_T93 x6_1 x8_2).f1)) ∧ w'.cell? ⟨(ad580.add ((x8_2).toNat * 3)).block, (ad580.add ((x8_2).toNat * 3)).off + 2, none⟩ = some (.int .i64 ((rd_T93 x6_1 x8_2).f2)) ∧ w'.cell? (ad580.add (((ji16)).toNat * 3)) = some (.string ((rd_T93 x6_1 (ji16)).f0)) ∧ w'.cell? ⟨(ad580.add (((ji16)).toNat * 3)).block, (ad580.add (((ji16)).toNat * 3)).off + 1, none⟩ = some (.int .i64 ((rd_T93 x6_1 (ji16)).f1)) ∧ w'.cell? ⟨(ad580.add (((ji16)).toNat * 3)).block, (ad580.add (((ji16)).toNat * 3)).off + 2, none⟩ = some (.int .i64 ((rd_T93 x6_1 (ji16)).f2))) (ds := [11, 12]) (bm 14 0) (by kernel_rfl) rfl rfl ⟨hx587_0, hx587_1, hx587_2, hx588_0, hx588_1, hx588_2⟩ (fun hHeld => ?_); refine with_tabW spec_l5Tree.tab9 spec_l5Tree.bits9 (fun HT_ HW_ => ?_)
     generalize wr.drew = w21 at HO_5 HO_6 HO_7 HB hx587_0 hx587_1 hx587_2 hx588_0 hx588_1 hx588_2 hHeld ⊢
     refine pA 0 33 (bm 14 1) HT_ ?_
     refine pA 1 34 (bm 14 3) HT_ ?_
     refine pA 2 35 (bm 14 7) HT_ ?_
     refine pA 3 36 (bm 14 15) HT_ ?_
     refine pA 5 38 (bm 14 47) HT_ ?_
     refine pA 6 39 (bm 14 111) HT_ ?_
     refine pA 7 40 (bm 14 239) HT_ ?_
     refine pA 8 41 (bm 14 495) HT_ ?_
     refine tA 4 37 (bm 14 511) HT_ HW_ hHeld ?_
     refine tA 9 42 (bm 14 1023) HT_ HW_ hHeld ?_
     refine oA 10 (some 43) (bm 14 2047) HT_ fun K hK => ?_
     refine goes_ Tryz.func90 (by kernel_rfl) rfl #[.agg #[.string ((rd_T93 x6_1 x8_2).f0), .int .i64 ((rd_T93 x6_1 x8_2).f1), .int .i64 ((rd_T93 x6_1 x8_2).f2)], .agg #[.string ((rd_T93 x6_1 (ji16)).f0), .int .i64 ((rd_T93 x6_1 (ji16)).f1), .int .i64 ((rd_T93 x6_1 (ji16)).f2)]] (by rfl) rfl rfl (by (try simp only [List.map_toArray, List.map_cons, List.map_nil]); first | done | (simp only [hji16]; rfl) | rfl | (simp only [List.length_drop, List.length_take]; rfl)) ?_
     with_reducible refine (spec_l5Both.calls k2 ((rd_T93 x6_1 x8_2).f0) ((rd_T93 x6_1 x8_2).f1) ((rd_T93 x6_1 x8_2).f2) ((rd_T93 x6_1 (ji16)).f0) ((rd_T93 x6_1 (ji16)).f1) ((rd_T93 x6_1 (ji16)).f2) t589 t590 t591 _ A19.out).mono ?_
     rintro e w22 ⟨rfl, hb⟩
     have HS0_ := cB hb hHeld.1
     have HS1_ := cB hb hHeld.2.1
     have HS2_ := cB hb hHeld.2.2.1
     have HS3_ := cB hb hHeld.2.2.2.1
     have HS4_ := cB hb hHeld.2.2.2.2.1
     have HS5_ := cB hb hHeld.2.2.2.2.2
     refine ⟨_, rfl, ?_⟩
     replace HO_5 := rk HO_5 hb
     replace HO_6 := am (V_below (va HO_6) hb)
     replace HO_7 := rk HO_7 hb
     replace HB := kH HB hb
     (try clear hb)
     (try clear hb2)
     (try clear hk)
     (try clear hi)
     refine hK.out _ _ ⟨HS0_, HS1_, HS2_, HS3_, HS4_, HS5_⟩ (fun hHeld => ?_)
     clear hK K
     refine nA (some 43) ?_
     refine last_ (i := 11) (N := some 44) (bm 14 4095) rfl rfl (one_of HT_.out (by kernel_rfl)) (by decide) (fun K hK => ?_)
     refine value_ (w1 := ?_) (v := ?_) (by rfl) rfl ?_ ?_
     rotate_left 2
     ·go_simp
      constructor
      ·rfl
      ·rfl
     refine hK.out _ _ ?_
     clear hK K
     refine nA (some 44) ?_
     refine last_ (i := 12) (N := some 45) (bm 14 8191) rfl rfl (one_of HT_.out (by kernel_rfl)) (by decide) (fun K hK => ?_)
     refine R_append_step k93 (w0 := w) w.heap.size (by rfl) (.tmp 33) (.tmp 44) 25 93 (.agg #[(.string ⟨#[]⟩), (.int .i64 0), (.int .i64 0)]) 32 rfl Tryz.underlying25 info93 rfl (by decide) (by omega) u7 x7_2 (⟨t589, t590, t591⟩ : S93) [.string t589, .int .i64 t590, .int .i64 t591] (fun k_ => (w.heap.size ≤ k_) ∧ some k_ ≠ (v582 : Value).ownBlock) (fun _ => False) rfl rfl ?aP (fun _ hk => hk.elim) ?aF ?aO ?aB ?aS ?aL ?_
     (case aP => exact k93_mkM _ _ _ (⟨t589, t590, t591⟩ : S93))
     (case aB => exact (bl HB))
     (case aF => exact (fun k_ hk => ⟨(Nat.le_trans (below_size (bl HB)) hk), Kd.fresh' (R_lt (ra HO_5)) k_ hk⟩))
     (case aO => exact (ra HO_7))
     (case aS => exact (below_size (bl HB)))
     (case aL => have := LMc20.out; omega)
     intro v593 w23 ho hb hg hat
     rw [← Ny592.out] at ho
     have n0_ := am (R_after (ok := (fun k_ => (w.heap.size ≤ k_))) (ra HO_5) hg hat)
     have n1_ := am (V_afterv (ok := (fun k_ => (P0_ k_ ∨ w.heap.size ≤ k_) ∧ some k_ ≠ (v582 : Value).ownBlock)) (vM HO_6 (fun _ hk => ⟨⟨hk.1, hk.2.1⟩, hk.2.2⟩)) hg hat)
     have n2_ := am (hb)
     have n3_ := am (ho)
     clear HO_5
     clear HO_6
     clear HB
     clear HO_7
     have HO_5 := n0_
     have HO_6 := n1_
     have HB := n2_
     have HO594 := n3_
     clear n0_ n1_ n2_ n3_
     clear ho hb hg hat
     refine hK.out _ _ ?_
     clear hK K
     refine nA (some 45) ?_
     refine pA 13 7 (bm 14 16383) HT_ ?_
     refine done_ (done_of HT_.out (by kernel_rfl)) ?_
     try go_wp2
     go_roundg k2
     case measure => have := HK1.out; have := HK2.out; omega
     case rel => exact ⟨(y592), (wrap64 (x8_2 + 2)), xR, H', ⟨by have := HK1.out; have := HK2.out; omega⟩, ⟨ra HO_5⟩, ⟨vM HO_6 (fun _ hk => ⟨hk.1.1, ⟨hk.1.2, hk.2⟩⟩)⟩, ⟨ra HO594⟩, ⟨bl HB⟩⟩
def spec_l5Proof.l0 : Nat → List S24 → Int → List S93 → Int → Int → List S93 → Int → Option ((List S93) × (List S93))
 | 0, _, _, _, _, _, _, _ => none
 | k + 1, x0, x1, x5, x6, x7, x8, x9 => if 0 ≤ x6 then (if x6 < (x5.length : Int) then (if x9 < (wrap64 (x7 + ((rd_T93 x5 x6).f2))) then (if 0 ≤ x9 then (if x9 < (x0.length : Int) then ((spec_l5Leaf.f k ((rd_T24 x0 x9).f0) ((rd_T24 x0 x9).f1) ((rd_T24 x0 x9).f2) ((rd_T24 x0 x9).f3) ((rd_T24 x0 x9).f4)).bind fun bt606 => (if x8.length < 4398046511104 then (spec_l5Proof.l0 k x0 x1 x5 x6 x7 (x8 ++ [(⟨bt606.1, bt606.2.1, bt606.2.2⟩ : S93)]) (wrap64 (x9 + 1))) else (none))) else (none)) else (none)) else ((spec_l5Tree.f k x8 (wrap64 (x1 - x7))).bind fun t612 => (some (x5, t612)))) else (none)) else (none)
def spec_l5Proof.f (k : Nat) (l0 : List S24) (a1 : Int) : Option ((List S93) × (List S93)) := (spec_l5Of.f k l0).bind fun t596 => ((spec_l5Peak.f k t596 a1).bind fun bt599 => (spec_l5Proof.l0 k l0 a1 t596 bt599.1 bt599.2 (([] : List S93)) bt599.2))
theorem spec_l5Proof.calls (k : Nat) (A0 : Option Addr) (c0 : Nat) (l0 : List S24) (a1 : Int) (r1 : List S93) (r2 : List S93) (w : World) (hr0 : Kd.C k24 w A0 l0.length l0) (hc0 : l0.length ≤ c0) (h : spec_l5Proof.f k l0 a1 = some (r1, r2)) :
  Calls Tryz.prog 74 #[.slice A0 l0.length c0, .int .i64 a1] w fun e w' => ∃ v0_ v1_ : Value, e = .returned (.agg #[v0_, v1_]) ∧ Kd.R k93 93 w' w.heap.size (fun k_ => some k_ ≠ (v1_ : Value).ownBlock) v0_ r1 ∧ Kd.R k93 93 w' w.heap.size (fun k_ => some k_ ≠ (v0_ : Value).ownBlock) v1_ r2 ∧ Below w.heap.size w w' := by
 have hu27 := Tryz.underlying27
 have hu24 := Tryz.underlying24
 have HR0 := am hr0
 have HC0 := am hc0
 clear hr0 hc0
 have HB := am (Below.refl w.heap.size w)
 have H : ((spec_l5Of.f k l0).bind fun t596 => ((spec_l5Peak.f k t596 a1).bind fun bt599 => (spec_l5Proof.l0 k l0 a1 t596 bt599.1 bt599.2 (([] : List S93)) bt599.2))) = some (r1, r2) := h
 clear h
 replace ⟨t596, A3, H⟩ := oa H
 replace H := Option.bind_eq_some_iff.mp H
 obtain ⟨⟨t599, t600⟩, A40, H⟩ := H
 have A4 := am A40
 clear A40
 obtain ⟨y601, Ny601⟩ := yA (([] : List S93) : List S93)
 rw [← Ny601.out] at H
 have H' := am H
 clear H
 go_enter Tryz.func74, Tryz.ntmps74
 go_wp2_with (first | ((with_reducible refine gg ?_); first | (refine bE 4 #[.slice none 0 0, .slice none 0 0] 27 ?_; intro gb595 hg w5 hbox hb; have BK595 := am (hbox); have GW595 := zB hg HB; have GE595 := zB hg HB; replace HB := kH HB hb; clear hb hbox hg) | (refine gL 11 Tryz.func43 #[.slice A0 l0.length c0] ?_; (with_reducible refine (spec_l5Of.calls k _ _ l0 t596 _ ?side1 ?side2 A3.out).mono ?_); (case side1 => exact cb HR0 HB); (case side2 => exact HC0.out); rintro e w6 ⟨v597, rfl, ho0, hb⟩; refine ⟨_, rfl, ?_⟩; have HO598 := am (R_lower ho0 (below_size (xB HB))); replace BK595 := kP _ BK595 hb; replace HB := kH HB hb; (try clear hb); (try clear ho0); obtain ⟨Ao7, co7, rfl⟩ := R_slice HO598.out) | (refine gL 15 Tryz.func91 #[.slice Ao7 t596.length co7, .int .i64 a1] ?_; (with_reducible refine (spec_l5Peak.calls k _ _ t596 a1 t599 t600 _ ?side1 ?side2 A4.out).mono ?_); (case side1 => exact cr (R_reads' HO598.out).2.2); (case side2 => exact sl HO598); rintro e w' ⟨rfl, ⟨nd, rfl⟩⟩; refine ⟨_, rfl, ?_⟩)) | ((with_reducible refine gate_dst (N := 18) rfl ?_); refine R_lit k93 _ 93 ?hg (N := 18) ?hd (xs := ([] : List S93)) (inner := []) (ok := fun _ => True) (okp := fun _ => True) ?hr ?hp (fun _ hk => hk) trivial (Below.refl _ _) (Nat.le_refl _) (by simp) ?_; (case hd => rfl); (case hg => rfl); (case hr => first | (go_simp; done) | (go_simp; rfl)); (case hp => exact xP); intro v602 w8 ho9 hb hg_ hnew_; clear hg_ hnew_; (first | rw [← Ny601.out] at ho9 | (simp only [Int.reduceToNat] at ho9; rw [← Ny601.out] at ho9)); have HO603 := am (R_lower (R_new' ho9 (R_lt (ra HO598))) (below_size (xB HB))); replace HO598 := am (R_elder' (ra HO598) (R_base ho9) hb); replace BK595 := kP _ BK595 hb; replace HB := kH HB hb; clear hb ho9))
 go_loopg [8, 9] k (fun kq v8 v9 w' => ∃ (x8_1 : List S93) (x9_1 : Int), v9 = .int .i64 x9_1 ∧ Aside0 (spec_l5Proof.l0 kq l0 a1 t596 t599 t600 x8_1 x9_1 = some (r1, r2)) ∧ Aside0 (kq ≤ k) ∧ Aside0 (Kd.R k93 93 w' w.heap.size (fun k_ => some k_ ≠ (v8 : Value).ownBlock) (.slice Ao7 t596.length co7) t596) ∧ Aside0 (Kd.R k93 93 w' w.heap.size (fun k_ => some k_ ≠ ((.slice Ao7 t596.length co7) : Value).ownBlock) v8 x8_1) ∧ Aside0 (w'.heap[gb595]? = some (.cells #[(.slice none 0 0), (.slice none 0 0)] 27 (0, 0))) ∧ Aside0 (Below w.heap.size w w'))
 case atStart => exact ⟨(y601), (t600), xR, H', ⟨Nat.le_refl _⟩, ⟨rM HO598 h2⟩, ⟨rM HO603 h2⟩, ⟨kb BK595⟩, ⟨xB HB⟩⟩
 case round =>
  clear H'
  obtain ⟨x8_1, x9_1, rfl, HA, HK1, HO_5, HO_8, BK595, HB⟩ := hrel
  cases gk with
  | zero => exact absurd HA.out (by simp [spec_l5Proof.l0])
  | succ k1 =>
   have H := HA.out
   clear HA
   simp only [spec_l5Proof.l0] at H
   replace ⟨c10b0, H⟩ := ipd H
   replace ⟨c11b0, H⟩ := ipd H
   have p604 : 0 ≤ (t599 : Int) := oX
   have q604 : t599 < (t596.length : Int) := oX
   obtain ⟨ad604, e604, hx604_0, hx604_1, hx604_2⟩ := at_T93 (R_reads' HO_5.out).2.2 t599 p604 q604
   cases e604
   replace ⟨p604, q604⟩ := eT p604 q604
   by_cases c12 : x9_1 < (wrap64 (t600 + ((rd_T93 t596 t599).f2)))
   rotate_left
   ·rw [if_neg c12] at H
    have c12b0 := df c12
    clear c12
    replace ⟨t612, A19, H⟩ := oa H
    simp only [Option.some.injEq, Prod.mk.injEq] at H
    obtain ⟨rfl, rfl⟩ := H
    obtain ⟨Ao20, co20, rfl⟩ := R_slice HO_8.out
    go_wp2_with ((with_reducible refine gg ?_); refine gL 44 Tryz.func92 #[.slice Ao20 x8_1.length co20, .int .i64 (wrap64 (a1 - t600))] ?_; (with_reducible refine (spec_l5Tree.calls k1 (fun k_ => some k_ = (.slice Ao20 x8_1.length co20 : Value).ownBlock) _ _ x8_1 (wrap64 (a1 - t600)) t612 _ ?side1 A19.out).mono ?_); (case side1 => exact R_V (R_tight rfl (R_types (HO_8.out) BK595.out (by decide)))); rintro e w21 ⟨v613, rfl, ho0, hb⟩; refine ⟨_, rfl, ?_⟩; have HO614 := am (R_lower (R_new' (R_new' (R_mono (ok' := fun k_ => True) ho0 (fun _ hk_ => trivial)) (R_lt (ra HO_5))) (R_lt (ra HO_8))) (below_size (xB HB))); replace HO_5 := am (R_elder' (ra HO_5) (R_base ho0) hb); replace HO_8 := am (R_elder' (ra HO_8) (R_base ho0) hb); replace BK595 := kP _ BK595 hb; replace HB := kH HB hb; (try clear hb); (try clear ho0); obtain ⟨Ao22, co22, rfl⟩ := R_slice HO614.out; have hz23 := bc2 BK595)
    refine bodyPost_ret (results_cell_row rfl _ _ gb595 27 #[.slice (some ad604) t596.length co7, .slice Ao22 t612.length co22] (0, 0) _ rfl (fb BK595) Tryz.underlying27 rfl (by kernel_rfl)) rfl ?_
    exact ⟨_, _, xE, rF HO_5 BK595 h2, rF HO614 BK595 (fun _ hk => hk.1.2), xB HB⟩
   rw [if_pos c12] at H
   have c12b0 := dt c12
   clear c12
   replace ⟨c13b0, H⟩ := ipd H
   replace ⟨c14b0, H⟩ := ipd H
   replace H := Option.bind_eq_some_iff.mp H
   obtain ⟨⟨t606, t607, t608⟩, A150, H⟩ := H
   have A15 := am A150
   clear A150
   replace ⟨LMc16, H⟩ := ipa H
   obtain ⟨y609, Ny609⟩ := yA (x8_1 ++ [(⟨t606, t607, t608⟩ : S93)] : List S93)
   rw [← Ny609.out] at H
   have H' := am H
   clear H
   have p605 : 0 ≤ (x9_1 : Int) := oX
   have q605 : x9_1 < (l0.length : Int) := oX
   obtain ⟨ad605, e605, hx605_0, hx605_1, hx605_2, hx605_3, hx605_4⟩ := at_T24 (hC HB HR0.out) x9_1 p605 q605
   cases e605
   replace ⟨p605, q605⟩ := eT p605 q605
   go_wp2_with (first | ((with_reducible refine gg ?_); refine gL 36 Tryz.func73 #[.agg #[.string ((rd_T24 l0 x9_1).f0), .string ((rd_T24 l0 x9_1).f1), .int .i64 ((rd_T24 l0 x9_1).f2), .int .i64 ((rd_T24 l0 x9_1).f3), .int .i64 ((rd_T24 l0 x9_1).f4)]] ?_; (with_reducible refine (spec_l5Leaf.calls k1 ((rd_T24 l0 x9_1).f0) ((rd_T24 l0 x9_1).f1) ((rd_T24 l0 x9_1).f2) ((rd_T24 l0 x9_1).f3) ((rd_T24 l0 x9_1).f4) t606 t607 t608 _ A15.out).mono ?_); rintro e w17 ⟨rfl, hb⟩; refine ⟨_, rfl, ?_⟩; replace HO_5 := rk HO_5 hb; replace HO_8 := rk HO_8 hb; replace BK595 := kP _ BK595 hb; replace HB := kH HB hb; (try clear hb)) | ((with_reducible refine gate_builtin (b := .append) (xs := #[.tmp 31, .tmp 37]) rfl ?_); at_builtin; refine R_append k93 (w0 := w) w.heap.size rfl (.tmp 31) (.tmp 37) 25 93 (.agg #[(.string ⟨#[]⟩), (.int .i64 0), (.int .i64 0)]) 32 rfl Tryz.underlying25 info93 rfl (by decide) (by omega) u8 x8_1 (⟨t606, t607, t608⟩ : S93) [.string t606, .int .i64 t607, .int .i64 t608] (fun k_ => some k_ ≠ (.slice (some ad604) t596.length co7 : Value).ownBlock) (fun _ => False) rfl rfl ?aP (fun _ hk => hk.elim) ?aF ?aO ?aB ?aS ?aL ?_; (case aP => exact k93_mkM _ _ _ (⟨t606, t607, t608⟩ : S93)); (case aB => exact (xB HB)); (case aF => exact (fun k_ hk => Kd.fresh' (R_lt (ra HO_5)) k_ hk)); (case aO => exact (ra HO_8)); (case aS => exact (below_size (xB HB))); (case aL => have := LMc16.out; omega); intro v610 w18 ho hb hg hat; rw [← Ny609.out] at ho; have n0_ := am (R_after (ok := (fun _ => True)) (rM HO_5 (fun _ hk => ⟨trivial, hk⟩)) hg hat); have n1_ := am (blk_grown (g := gb595) (o := .cells #[.slice none 0 0, .slice none 0 0] 27 (0, 0)) (kb BK595) hg (R_ne HO_8.out BK595.out (by decide))); have n2_ := am (hb); have n3_ := am (ho); clear HO_5; clear BK595; clear HB; clear HO_8; have HO_5 := n0_; have BK595 := n1_; have HB := n2_; have HO611 := n3_; clear n0_ n1_ n2_ n3_; clear ho hb hg hat))
   go_roundg k1
   case measure => have := HK1.out; omega
   case rel => exact ⟨(y609), (wrap64 (x9_1 + 1)), xR, H', ⟨xL HK1⟩, ⟨rM HO_5 h2⟩, ⟨ra HO611⟩, ⟨kb BK595⟩, ⟨xB HB⟩⟩
open Kd
set_option linter.unusedVariables false
set_option linter.unusedSimpArgs false
set_option maxHeartbeats 64000000
set_option maxRecDepth 100000
def spec_l3Proof.l0 : Nat → Int → List S48 → List ByteArray → Option (List S48)
 | 0, _, _, _ => none
 | k + 1, x1, x5, x6 => if (x6.length : Int) > 1 then (if (wrap64 ((wrap64 (x1 + 1)) - (wrap64 ((Int.tmod x1 2) * 2)))) < (x6.length : Int) then (if 0 ≤ (wrap64 ((wrap64 (x1 + 1)) - (wrap64 ((Int.tmod x1 2) * 2)))) then (if x5.length < 5864062014805 then ((spec_l3Up.f k x6).bind fun t625 => (spec_l3Proof.l0 k (wrap64 (Int.tdiv x1 2)) (x5 ++ [(⟨rdOf ByteArray.empty x6 (wrap64 ((wrap64 (x1 + 1)) - (wrap64 ((Int.tmod x1 2) * 2)))), decide ((wrap64 ((wrap64 (x1 + 1)) - (wrap64 ((Int.tmod x1 2) * 2)))) < x1)⟩ : S48)]) t625)) else (none)) else (none)) else ((spec_l3Up.f k x6).bind fun t628 => (spec_l3Proof.l0 k (wrap64 (Int.tdiv x1 2)) x5 t628))) else (some x5)
def spec_l3Proof.f (k : Nat) (l0 : List ByteArray) (a1 : Int) : Option (List S48) := (spec_l3Row.f k l0).bind fun t618 => (spec_l3Proof.l0 k a1 (([] : List S48)) t618)
theorem spec_l3Proof.calls (k : Nat) (A0 : Option Addr) (c0 : Nat) (l0 : List ByteArray) (a1 : Int) (r : List S48) (w : World) (hr0 : Kd.C Kd.string w A0 l0.length l0) (hc0 : l0.length ≤ c0) (h : spec_l3Proof.f k l0 a1 = some r) :
  Calls Tryz.prog 75 #[.slice A0 l0.length c0, .int .i64 a1] w fun e w' => ∃ v0_ : Value, e = .returned (v0_) ∧ Kd.R k48 48 w' w.heap.size (fun _ => True) v0_ r ∧ Below w.heap.size w w' := by
 have hu48 := Tryz.underlying48
 have HR0 := am hr0
 have HC0 := am hc0
 clear hr0 hc0
 have HB := am (Below.refl w.heap.size w)
 have H : ((spec_l3Row.f k l0).bind fun t618 => (spec_l3Proof.l0 k a1 (([] : List S48)) t618)) = some r := h
 clear h
 obtain ⟨y615, Ny615⟩ := yA (([] : List S48) : List S48)
 rw [← Ny615.out] at H
 replace ⟨t618, A3, H⟩ := oa H
 have H' := am H
 clear H
 go_enter Tryz.func75, Tryz.ntmps75
 go_wp2_with (first | ((with_reducible refine gate_dst (N := 8) rfl ?_); refine R_lit k48 _ 48 ?hg (N := 8) ?hd (xs := ([] : List S48)) (inner := []) (ok := fun _ => True) (okp := fun _ => True) ?hr ?hp (fun _ hk => hk) trivial (Below.refl _ _) (Nat.le_refl _) (by simp) ?_; (case hd => rfl); (case hg => rfl); (case hr => first | (go_simp; done) | (go_simp; rfl)); (case hp => exact xP); intro v616 w4 ho5 hb hg_ hnew_; clear hg_ hnew_; (first | rw [← Ny615.out] at ho5 | (simp only [Int.reduceToNat] at ho5; rw [← Ny615.out] at ho5)); have HO617 := am (R_lower ho5 (below_size (bl HB))); replace HB := kH HB hb; clear hb ho5) | ((with_reducible refine gg ?_); refine gL 10 Tryz.func93 #[.slice A0 l0.length c0] ?_; (with_reducible refine (spec_l3Row.calls k _ _ l0 t618 _ ?side1 ?side2 A3.out).mono ?_); (case side1 => exact cb HR0 HB); (case side2 => exact HC0.out); rintro e w6 ⟨v619, rfl, ho0, hb⟩; refine ⟨_, rfl, ?_⟩; replace HO617 := rk HO617 hb; have HO620 := am (R_lower ho0 (below_size (bl HB))); replace HB := kH HB hb; (try clear hb); (try clear ho0)))
 go_loopg [1, 5, 6] k (fun kq v1 v5 v6 w' => ∃ (x1_1 : Int) (x5_1 : List S48) (x6_1 : List ByteArray), v1 = .int .i64 x1_1 ∧ Aside0 (spec_l3Proof.l0 kq x1_1 x5_1 x6_1 = some r) ∧ Aside0 (kq ≤ k) ∧ Aside0 (Kd.R k48 48 w' w.heap.size (fun _ => True) v5 x5_1) ∧ Aside0 (Kd.R Kd.string 9 w' w.heap.size (fun _ => True) v6 x6_1) ∧ Aside0 (Below w.heap.size w w'))
 case atStart => exact ⟨(a1), (y615), (t618), xR, H', ⟨Nat.le_refl _⟩, ⟨ra HO617⟩, ⟨ra HO620⟩, ⟨bl HB⟩⟩
 case round =>
  clear H'
  try clear p2
  obtain ⟨x1_1, x5_1, x6_1, rfl, HA, HK1, HO_5, HO_6, HB⟩ := hrel
  cases gk with
  | zero => exact absurd HA.out (by simp [spec_l3Proof.l0])
  | succ k1 =>
   have H := HA.out
   clear HA
   simp only [spec_l3Proof.l0] at H
   by_cases c7 : (x6_1.length : Int) > 1
   rotate_left
   ·rw [if_neg c7] at H
    have c7b0 := df c7
    have c7b1 : decide (1 < x6_1.length) = false := decide_eq_false (by omega)
    clear c7
    obtain rfl := oI H
    obtain ⟨Ao19, co19, rfl⟩ := R_slice HO_6.out
    go_wp2
    go_ret
    exact ⟨_, xE, ra HO_5, bl HB⟩
   rw [if_pos c7] at H
   have c7b0 := dt c7
   have c7b1 : decide (1 < x6_1.length) = true := dt (by omega)
   clear c7
   by_cases c8 : (wrap64 ((wrap64 (x1_1 + 1)) - (wrap64 ((Int.tmod x1_1 2) * 2)))) < (x6_1.length : Int)
   rotate_left
   ·rw [if_neg c8] at H
    have c8b0 := df c8
    clear c8
    replace ⟨t628, A16, H⟩ := oa H
    have H' := am H
    clear H
    obtain ⟨Ao17, co17, rfl⟩ := R_slice HO_6.out
    go_wp2_with ((with_reducible refine gg ?_); refine gL 38 Tryz.func94 #[.slice Ao17 x6_1.length co17] ?_; (with_reducible refine (spec_l3Up.calls k1 _ _ x6_1 t628 _ ?side1 ?side2 A16.out).mono ?_); (case side1 => exact cr (R_reads' HO_6.out).2.2); (case side2 => exact sl HO_6); rintro e w18 ⟨v629, rfl, ho0, hb⟩; refine ⟨_, rfl, ?_⟩; replace HO_5 := rk HO_5 hb; have HO630 := am (R_lower (R_new' ho0 (R_lt (ra HO_6))) (below_size (bl HB))); replace HO_6 := am (R_elder' (ra HO_6) (R_base ho0) hb); replace HB := kH HB hb; (try clear hb); (try clear ho0))
    go_roundg k1
    case measure => have := HK1.out; omega
    case rel => exact ⟨(wrap64 (Int.tdiv x1_1 2)), (x5_1), (t628), xR, H', ⟨xL HK1⟩, ⟨ra HO_5⟩, ⟨rM HO630 (fun _ hk => trivial)⟩, ⟨bl HB⟩⟩
   rw [if_pos c8] at H
   have c8b0 := dt c8
   clear c8
   obtain ⟨ji9, hji9⟩ := je (wrap64 ((wrap64 (x1_1 + 1)) - (wrap64 ((Int.tmod x1_1 2) * 2))))
   first | rw [hji9] at H | simp only [hji9] at H
   (try rw [hji9] at c8b0)
   have hji9w : (IntKind.i64.wrap ((wrap64 (x1_1 + 1)) - (wrap64 ((Int.tmod x1_1 2) * 2)))) = ji9 := (i64_w _).trans hji9
   replace ⟨c10b0, H⟩ := ipd H
   replace ⟨LMc11, H⟩ := ipa H
   obtain ⟨y622, Ny622⟩ := yA (x5_1 ++ [(⟨rdOf ByteArray.empty x6_1 (ji9), decide ((ji9) < x1_1)⟩ : S48)] : List S48)
   rw [← Ny622.out] at H
   replace ⟨t625, A12, H⟩ := oa H
   have H' := am H
   clear H
   obtain ⟨Ao13, co13, rfl⟩ := R_slice HO_6.out
   have p621 : 0 ≤ ((ji9) : Int) := oX
   have q621 : (ji9) < (x6_1.length : Int) := oX
   obtain ⟨ad621, e621, hx621_0⟩ := at_string (R_reads' HO_6.out).2.2 (ji9) p621 q621
   cases e621
   replace ⟨p621, q621⟩ := eT p621 q621
   go_wp2_with (first | ((with_reducible refine gate_builtin (b := .append) (xs := #[.tmp 24, .tmp 33]) rfl ?_); at_builtin; refine R_append k48 (w0 := w) w.heap.size rfl (.tmp 24) (.tmp 33) 28 48 (.agg #[(.string ⟨#[]⟩), (.bool false)]) 24 rfl Tryz.underlying28 info48 rfl (by decide) (by omega) u5 x5_1 (⟨rdOf ByteArray.empty x6_1 (ji9), decide ((ji9) < x1_1)⟩ : S48) [.string (rdOf ByteArray.empty x6_1 (ji9)), .bool (decide ((ji9) < x1_1))] (fun _ => True) (fun _ => False) rfl rfl ?aP (fun _ hk => hk.elim) ?aF ?aO ?aB ?aS ?aL ?_; (case aP => exact k48_mkM _ _ _ (⟨rdOf ByteArray.empty x6_1 (ji9), decide ((ji9) < x1_1)⟩ : S48)); (case aB => exact (bl HB)); (case aF => exact (fun _ _ => trivial)); (case aO => exact (ra HO_5)); (case aS => exact (below_size (bl HB))); (case aL => have := LMc11.out; omega); intro v623 w14 ho hb hg hat; rw [← Ny622.out] at ho; have n0_ := am (R_over' (ra HO_6) (R_typed (ra HO_5)) (by decide) hg); have n1_ := am (hb); have n2_ := am (ho); clear HO_6; clear HB; clear HO_5; have HO_6 := n0_; have HB := n1_; have HO624 := n2_; clear n0_ n1_ n2_; clear ho hb hg hat) | ((with_reducible refine gg ?_); refine gL 38 Tryz.func94 #[.slice (some ad621) x6_1.length co13] ?_; (with_reducible refine (spec_l3Up.calls k1 _ _ x6_1 t625 _ ?side1 ?side2 A12.out).mono ?_); (case side1 => exact cr (R_reads' HO_6.out).2.2); (case side2 => exact sl HO_6); rintro e w15 ⟨v626, rfl, ho0, hb⟩; refine ⟨_, rfl, ?_⟩; replace HO624 := rk HO624 hb; have HO627 := am (R_lower (R_new' ho0 (R_lt (ra HO_6))) (below_size (bl HB))); replace HO_6 := am (R_elder' (ra HO_6) (R_base ho0) hb); replace HB := kH HB hb; (try clear hb); (try clear ho0)))
   go_roundg k1
   case measure => have := HK1.out; omega
   case rel => exact ⟨(wrap64 (Int.tdiv x1_1 2)), (y622), (t625), xR, H', ⟨xL HK1⟩, ⟨ra HO624⟩, ⟨rM HO627 (fun _ hk => trivial)⟩, ⟨bl HB⟩⟩
def spec_l9Of.f (k : Nat) (l0 : List S82) (a1 : Int) (a2 : Int) : Option (Int × ByteArray × ByteArray × Int × Int × Int × (List S93) × (List S93) × (List S48)) := (spec_l4Heads.f k l0).bind fun t632 => (if 0 ≤ a1 then (if a1 < (t632.length : Int) then ((spec_l5Proof.f k t632 a1).bind fun bt636 => (if a1 < (l0.length : Int) then ((spec_l3Proof.f k ((rd_T82 l0 a1).f1) a2).bind fun t643 => (some (a1, (rd_T24 t632 a1).f0, (rd_T24 t632 a1).f1, (rd_T24 t632 a1).f2, (rd_T24 t632 a1).f3, (rd_T24 t632 a1).f4, bt636.1, bt636.2, t643))) else (none))) else (none)) else (none))
def spec_l9Of.T2 : Bool × List (List Nat × List Nat) := (true, [([], []), ([], []), ([], []), ([1, 2], [1, 2]), ([3], [3]), ([], []), ([], []), ([5, 6], [5, 6]), ([], []), ([], []), ([8, 9], [8, 9]), ([10], [10]), ([11], [11]), ([], []), ([12, 13, 7], [12, 13]), ([0, 4, 7, 14], [0, 4, 7, 14]), ([15, 14, 0, 1, 2, 3, 4, 5, 6, 7, 8, 9, 10, 11, 12, 13, 14, 15], [15])])
def spec_l9Of.B2 : List Nat := [0, 0, 0, 6, 14, 0, 0, 96, 0, 0, 768, 1792, 3840, 0, 16352, 32767, 65535]
theorem spec_l9Of.tab2 : rtab .any (opsOf Tryz.f45 2) = spec_l9Of.T2 := by kernel_rfl
theorem spec_l9Of.bits2 : waitsOk spec_l9Of.T2.2 spec_l9Of.B2 = true := by kernel_rfl
theorem spec_l9Of.calls (k : Nat) (A0 : Option Addr) (c0 : Nat) (l0 : List S82) (a1 : Int) (a2 : Int) (r1 : Int) (r2 : ByteArray) (r3 : ByteArray) (r4 : Int) (r5 : Int) (r6 : Int) (r7 : List S93) (r8 : List S93) (r9 : List S48) (w : World) (hr0 : Kd.C k82 w A0 l0.length l0) (hc0 : l0.length ≤ c0) (h : spec_l9Of.f k l0 a1 a2 = some (r1, r2, r3, r4, r5, r6, r7, r8, r9)) :
  Calls Tryz.prog 45 #[.slice A0 l0.length c0, .int .i64 a1, .int .i64 a2] w fun e w' => ∃ v6_ v7_ v8_ : Value, e = .returned (.agg #[.int .i64 r1, .string r2, .string r3, .int .i64 r4, .int .i64 r5, .int .i64 r6, v6_, v7_, v8_]) ∧ Kd.R k93 93 w' w.heap.size (fun k_ => some k_ ≠ (v7_ : Value).ownBlock) v6_ r7 ∧ Kd.R k93 93 w' w.heap.size (fun k_ => some k_ ≠ (v6_ : Value).ownBlock) v7_ r8 ∧ Kd.R k48 48 w' w.heap.size (fun _ => True) v8_ r9 ∧ Below w.heap.size w w' := by
 have hu30 := Tryz.underlying30
 have hu24 := Tryz.underlying24
 have HR0 := am hr0
 have HC0 := am hc0
 clear hr0 hc0
 have HB := am (Below.refl w.heap.size w)
 have H : ((spec_l4Heads.f k l0).bind fun t632 => (if 0 ≤ a1 then (if a1 < (t632.length : Int) then ((spec_l5Proof.f k t632 a1).bind fun bt636 => (if a1 < (l0.length : Int) then ((spec_l3Proof.f k ((rd_T82 l0 a1).f1) a2).bind fun t643 => (some (a1, (rd_T24 t632 a1).f0, (rd_T24 t632 a1).f1, (rd_T24 t632 a1).f2, (rd_T24 t632 a1).f3, (rd_T24 t632 a1).f4, bt636.1, bt636.2, t643))) else (none))) else (none)) else (none))) = some (r1, r2, r3, r4, r5, r6, r7, r8, r9) := h
 clear h
 replace ⟨t632, A4, H⟩ := oa H
 replace ⟨c5b0, H⟩ := ipd H
 replace ⟨c6b0, H⟩ := ipd H
 replace H := Option.bind_eq_some_iff.mp H
 obtain ⟨⟨t636, t639⟩, A70, H⟩ := H
 have A7 := am A70
 clear A70
 replace ⟨c8b0, H⟩ := ipd H
 replace ⟨t643, A9, H⟩ := oa H
 simp only [Option.some.injEq, Prod.mk.injEq] at H
 obtain ⟨rfl, rfl, rfl, rfl, rfl, rfl, rfl, rfl, rfl⟩ := H
 go_enter Tryz.func45, Tryz.ntmps45
 try go_wp2_with ((with_reducible refine gg ?_); first | (refine bE 6 #[.int .i64 0, .string (⟨#[]⟩ : ByteArray), .string (⟨#[]⟩ : ByteArray), .int .i64 0, .int .i64 0, .int .i64 0, .slice none 0 0, .slice none 0 0, .slice none 0 0] 30 ?_; intro gb631 hg w10 hbox hb; have BK631 := am (hbox); have GW631 := zB hg HB; have GE631 := zB hg HB; replace HB := kH HB hb; clear hb hbox hg) | (refine store_event (t := 30) (p := 6) (v := ?vo_) (w1 := ?wo_) ?hg ?ho ?hn ?hr ?_; (case ho => rfl); (case hg => rfl); (case hn => rfl); (case hr => go_simp; rfl); intro wq_ hW_; have BQ_ := am hW_; have hzq_ := am hW_; replace hW_ := am hW_) | (refine gL 9 Tryz.func44 #[.slice A0 l0.length c0] ?_; (try (clear hzq_ BQ_; obtain ⟨hW_⟩ := hW_; subst hW_)); (with_reducible refine (spec_l4Heads.calls k _ _ l0 t632 _ ?side1 ?side2 A4.out).mono ?_); (case side1 => exact cb HR0 HB); (case side2 => exact HC0.out); rintro e w11 ⟨v633, rfl, ho0, hb⟩; refine ⟨_, rfl, ?_⟩; have HO634 := am (R_lower ho0 (below_size (xB HB))); replace BK631 := kP _ BK631 hb; replace HB := kH HB hb; (try clear hb); (try clear ho0)))
 replace HO634 := am (R_drew HO634.out)
 replace BK631 := am (blk_drew BK631.out)
 replace HB := am (below_drew1 HB.out)
 obtain ⟨Ao13, co13, eo13⟩ := R_slice HO634.out
 (first | subst eo13 | (obtain ⟨f4_, f5_⟩ := eS eo13; subst f4_ f5_))
 have p635 : 0 ≤ (a1 : Int) := oX
 have q635 : a1 < (t632.length : Int) := oX
 obtain ⟨ad635, e635, hx635_0, hx635_1, hx635_2, hx635_3, hx635_4⟩ := at_T24 (R_reads' HO634.out).2.2 a1 p635 q635
 cases e635
 replace ⟨p635, q635⟩ := eT p635 q635
 have p642 : 0 ≤ (a1 : Int) := oX
 have q642 : a1 < (l0.length : Int) := oX
 obtain ⟨ad642, A642_5, c642_5, e642, hx642_0, hx642_1, hx642_2, hx642_3, hx642_4, hx642_5, hl642_5, hi642_5⟩ := at_T82 HR0.out a1 p642 q642
 have hw642_5 := hx642_5
 have hw642_4 := hx642_4
 have hw642_3 := hx642_3
 have hw642_2 := hx642_2
 have hw642_1 := hx642_1
 have hw642_0 := hx642_0
 cases e642
 replace hx642_0 := hc HB hx642_0
 replace hx642_1 := hc HB hx642_1
 replace hx642_2 := hc HB hx642_2
 replace hx642_3 := hc HB hx642_3
 replace hx642_4 := hc HB hx642_4
 replace hx642_5 := hc HB hx642_5
 have HR642_5 := am hi642_5
 have HC642_5 := am hl642_5
 clear hi642_5 hl642_5
 replace ⟨p642, q642⟩ := eT p642 q642
 (try (clear hzq_ BQ_; obtain ⟨hW_⟩ := hW_; subst hW_))
 refine start_ (n := 17) (S := fun w' => w'.cell? (ad635.add ((a1).toNat * 5)) = some (.string ((rd_T24 t632 a1).f0)) ∧ w'.cell? ⟨(ad635.add ((a1).toNat * 5)).block, (ad635.add ((a1).toNat * 5)).off + 1, none⟩ = some (.string ((rd_T24 t632 a1).f1)) ∧ w'.cell? ⟨(ad635.add ((a1).toNat * 5)).block, (ad635.add ((a1).toNat * 5)).off + 2, none⟩ = some (.int .i64 ((rd_T24 t632 a1).f2)) ∧ w'.cell? ⟨(ad635.add ((a1).toNat * 5)).block, (ad635.add ((a1).toNat * 5)).off + 3, none⟩ = some (.int .i64 ((rd_T24 t632 a1).f3)) ∧ w'.cell? ⟨(ad635.add ((a1).toNat * 5)).block, (ad635.add ((a1).toNat * 5)).off + 4, none⟩ = some (.int .i64 ((rd_T24 t632 a1).f4)) ∧ w'.cell? (ad642.add ((a1).toNat * 6)) = some (.string ((rd_T82 l0 a1).f0.f0)) ∧ w'.cell? ⟨(ad642.add ((a1).toNat * 6)).block, (ad642.add ((a1).toNat * 6)).off + 1, none⟩ = some (.string ((rd_T82 l0 a1).f0.f1)) ∧ w'.cell? ⟨(ad642.add ((a1).toNat * 6)).block, (ad642.add ((a1).toNat * 6)).off + 2, none⟩ = some (.int .i64 ((rd_T82 l0 a1).f0.f2)) ∧ w'.cell? ⟨(ad642.add ((a1).toNat * 6)).block, (ad642.add ((a1).toNat * 6)).off + 3, none⟩ = some (.int .i64 ((rd_T82 l0 a1).f0.f3)) ∧ w'.cell? ⟨(ad642.add ((a1).toNat * 6)).block, (ad642.add ((a1).toNat * 6)).off + 4, none⟩ = some (.int .i64 ((rd_T82 l0 a1).f0.f4)) ∧ w'.cell? ⟨(ad642.add ((a1).toNat * 6)).block, (ad642.add ((a1).toNat * 6)).off + 5, none⟩ = some (.slice A642_5 ((rd_T82 l0 a1).f1).length c642_5)) (ds := []) (bm 17 0) (by kernel_rfl) rfl rfl ⟨hx635_0, hx635_1, hx635_2, hx635_3, hx635_4, (hd HB hw642_0), (hd HB hw642_1), (hd HB hw642_2), (hd HB hw642_3), (hd HB hw642_4), (hd HB hw642_5)⟩ (fun hHeld => ?_); refine with_tabW spec_l9Of.tab2 spec_l9Of.bits2 (fun HT_ HW_ => ?_)
 generalize w11.drew = w12 at HO634 BK631 HB HR642_5 hx635_0 hx635_1 hx635_2 hx635_3 hx635_4 hx642_0 hx642_1 hx642_2 hx642_3 hx642_4 hx642_5 hHeld ⊢
 refine pA 0 10 (bm 17 1) HT_ ?_
 refine pA 1 11 (bm 17 3) HT_ ?_
 refine pA 2 12 (bm 17 7) HT_ ?_
 refine pA 3 13 (bm 17 15) HT_ ?_
 refine pA 5 15 (bm 17 47) HT_ ?_
 refine pA 6 16 (bm 17 111) HT_ ?_
 refine pA 8 18 (bm 17 367) HT_ ?_
 refine pA 9 19 (bm 17 879) HT_ ?_
 refine pA 10 20 (bm 17 1903) HT_ ?_
 refine pA 11 21 (bm 17 3951) HT_ ?_
 refine pA 13 23 (bm 17 12143) HT_ ?_
 refine tA 4 14 (bm 17 12159) HT_ HW_ hHeld ?_
 refine tA 12 22 (bm 17 16255) HT_ HW_ hHeld ?_
 refine oA 7 (some 17) (bm 17 16383) HT_ fun K hK => ?_
 refine gA Tryz.func74 #[.slice (some ad635) t632.length co13, .int .i64 a1] ?_
 with_reducible refine (spec_l5Proof.calls k _ _ t632 a1 t636 t639 _ ?side1 ?side2 A7.out).mono ?_
 (case side1 => exact cr (R_reads' HO634.out).2.2)
 (case side2 => exact sl HO634)
 rintro e w14 ⟨v637, v640, rfl, ho0, ho1, hb⟩
 have HS0_ := cB hb hHeld.1
 have HS1_ := cB hb hHeld.2.1
 have HS2_ := cB hb hHeld.2.2.1
 have HS3_ := cB hb hHeld.2.2.2.1
 have HS4_ := cB hb hHeld.2.2.2.2.1
 refine ⟨_, rfl, ?_⟩
 replace HO634 := rk HO634 hb
 have HO638 := am (R_lower ho0 (below_size (xB HB)))
 have HO641 := am (R_lower ho1 (below_size (xB HB)))
 replace BK631 := kP _ BK631 hb
 replace HB := kH HB hb
 (try clear hb)
 (try clear hb2)
 (try clear hk)
 (try clear hi)
 (try clear ho0)
 (try clear ho1)
 refine hK.out _ _ ⟨HS0_, HS1_, HS2_, HS3_, HS4_, (hd HB hw642_0), (hd HB hw642_1), (hd HB hw642_2), (hd HB hw642_3), (hd HB hw642_4), (hd HB hw642_5)⟩ (fun hHeld => ?_)
 clear hK K
 refine nA (some 17) ?_
 refine oA 14 (some 24) (bm 17 32767) HT_ fun K hK => ?_
 refine gA Tryz.func75 #[.slice A642_5 ((rd_T82 l0 a1).f1).length c642_5, .int .i64 a2] ?_
 with_reducible refine (spec_l3Proof.calls k _ _ ((rd_T82 l0 a1).f1) a2 t643 _ ?side1 ?side2 A9.out).mono ?_
 (case side1 => exact cb HR642_5 HB)
 (case side2 => exact HC642_5.out)
 rintro e w15 ⟨v644, rfl, ho0, hb⟩
 have HS0_ := cB hb hHeld.1
 have HS1_ := cB hb hHeld.2.1
 have HS2_ := cB hb hHeld.2.2.1
 have HS3_ := cB hb hHeld.2.2.2.1
 have HS4_ := cB hb hHeld.2.2.2.2.1
 refine ⟨_, rfl, ?_⟩
 replace HO634 := rk HO634 hb
 replace HO638 := rk HO638 hb
 replace HO641 := rk HO641 hb
 have HO645 := am (R_lower ho0 (below_size (xB HB)))
 replace BK631 := kP _ BK631 hb
 replace HB := kH HB hb
 (try clear hb)
 (try clear hb2)
 (try clear hk)
 (try clear hi)
 (try clear ho0)
 obtain ⟨Ao16, co16, eo16⟩ := R_slice HO645.out
 (first | subst eo16 | (obtain ⟨f4_, f5_⟩ := eS eo16; subst f4_ f5_))
 obtain ⟨Ao17, co17, eo17⟩ := R_slice HO641.out
 (first | subst eo17 | (obtain ⟨f4_, f5_⟩ := eS eo17; subst f4_ f5_))
 obtain ⟨Ao18, co18, eo18⟩ := R_slice HO638.out
 (first | subst eo18 | (obtain ⟨f4_, f5_⟩ := eS eo18; subst f4_ f5_))
 refine hK.out _ _ ⟨HS0_, HS1_, HS2_, HS3_, HS4_, (hd HB hw642_0), (hd HB hw642_1), (hd HB hw642_2), (hd HB hw642_3), (hd HB hw642_4), (hd HB hw642_5)⟩ (fun hHeld => ?_)
 clear hK K
 refine nA (some 24) ?_
 refine pA 15 25 (bm 17 65535) HT_ ?_
 refine oA 16 none (bm 17 131071) HT_ fun K hK => ?_
 have hs19 : w15.cell? ⟨gb631, 0, none⟩ = some (.int .i64 0) := (blk_cell BK631.out 0).trans rfl
 have hfs19 := blk_frozen BK631.out 0
 have hs20 : w15.cell? ⟨gb631, 1, none⟩ = some (.string (⟨#[]⟩ : ByteArray)) := (blk_cell BK631.out 1).trans rfl
 have hfs20 := blk_frozen BK631.out 1
 have hs21 : w15.cell? ⟨gb631, 2, none⟩ = some (.string (⟨#[]⟩ : ByteArray)) := (blk_cell BK631.out 2).trans rfl
 have hfs21 := blk_frozen BK631.out 2
 have hs22 : w15.cell? ⟨gb631, 3, none⟩ = some (.int .i64 0) := (blk_cell BK631.out 3).trans rfl
 have hfs22 := blk_frozen BK631.out 3
 have hs23 : w15.cell? ⟨gb631, 4, none⟩ = some (.int .i64 0) := (blk_cell BK631.out 4).trans rfl
 have hfs23 := blk_frozen BK631.out 4
 have hs24 : w15.cell? ⟨gb631, 5, none⟩ = some (.int .i64 0) := (blk_cell BK631.out 5).trans rfl
 have hfs24 := blk_frozen BK631.out 5
 have hs25 : w15.cell? ⟨gb631, 6, none⟩ = some (.slice none 0 0) := (blk_cell BK631.out 6).trans rfl
 have hfs25 := blk_frozen BK631.out 6
 have hs26 : w15.cell? ⟨gb631, 7, none⟩ = some (.slice none 0 0) := (blk_cell BK631.out 7).trans rfl
 have hfs26 := blk_frozen BK631.out 7
 have hs27 : w15.cell? ⟨gb631, 8, none⟩ = some (.slice none 0 0) := (blk_cell BK631.out 8).trans rfl
 have hfs27 := blk_frozen BK631.out 8
 refine skip_ (w1 := ?_) (by rfl) rfl ?_ ?_
 rotate_left
 ·go_simp
  rfl
 have hne_ := own_blk (R_ne HO634.out BK631.out (by decide))
 refine hK.out _ _ ⟨(cf hne_ hHeld.1), (cf hne_ hHeld.2.1), (cf hne_ hHeld.2.2.1), (cf hne_ hHeld.2.2.2.1), (cf hne_ hHeld.2.2.2.2.1), (cg gb631 (by first | exact Nat.ne_of_lt (Nat.lt_of_lt_of_le (by have := World.block_lt_of_cell? _ _ hw642_0; first | rwa [add_block] at this | exact this) GW631.out) | (rw [add_block]; exact Nat.ne_of_lt (Nat.lt_of_lt_of_le (by have := World.block_lt_of_cell? _ _ hw642_0; first | rwa [add_block] at this | exact this) GW631.out))) hHeld.2.2.2.2.2.1), (cg gb631 (by first | exact Nat.ne_of_lt (Nat.lt_of_lt_of_le (by have := World.block_lt_of_cell? _ _ hw642_1; first | rwa [add_block] at this | exact this) GW631.out) | (rw [add_block]; exact Nat.ne_of_lt (Nat.lt_of_lt_of_le (by have := World.block_lt_of_cell? _ _ hw642_1; first | rwa [add_block] at this | exact this) GW631.out))) hHeld.2.2.2.2.2.2.1), (cg gb631 (by first | exact Nat.ne_of_lt (Nat.lt_of_lt_of_le (by have := World.block_lt_of_cell? _ _ hw642_2; first | rwa [add_block] at this | exact this) GW631.out) | (rw [add_block]; exact Nat.ne_of_lt (Nat.lt_of_lt_of_le (by have := World.block_lt_of_cell? _ _ hw642_2; first | rwa [add_block] at this | exact this) GW631.out))) hHeld.2.2.2.2.2.2.2.1), (cg gb631 (by first | exact Nat.ne_of_lt (Nat.lt_of_lt_of_le (by have := World.block_lt_of_cell? _ _ hw642_3; first | rwa [add_block] at this | exact this) GW631.out) | (rw [add_block]; exact Nat.ne_of_lt (Nat.lt_of_lt_of_le (by have := World.block_lt_of_cell? _ _ hw642_3; first | rwa [add_block] at this | exact this) GW631.out))) hHeld.2.2.2.2.2.2.2.2.1), (cg gb631 (by first | exact Nat.ne_of_lt (Nat.lt_of_lt_of_le (by have := World.block_lt_of_cell? _ _ hw642_4; first | rwa [add_block] at this | exact this) GW631.out) | (rw [add_block]; exact Nat.ne_of_lt (Nat.lt_of_lt_of_le (by have := World.block_lt_of_cell? _ _ hw642_4; first | rwa [add_block] at this | exact this) GW631.out))) hHeld.2.2.2.2.2.2.2.2.2.1), (cg gb631 (by first | exact Nat.ne_of_lt (Nat.lt_of_lt_of_le (by have := World.block_lt_of_cell? _ _ hw642_5; first | rwa [add_block] at this | exact this) GW631.out) | (rw [add_block]; exact Nat.ne_of_lt (Nat.lt_of_lt_of_le (by have := World.block_lt_of_cell? _ _ hw642_5; first | rwa [add_block] at this | exact this) GW631.out))) hHeld.2.2.2.2.2.2.2.2.2.2)⟩ (fun hHeld => ?_)
 clear hK K
 refine done_ (done_of HT_.out (by kernel_rfl)) ?_
 try go_wp2
 (try (clear hzq_ BQ_; obtain ⟨hW_⟩ := hW_; subst hW_))
 refine bodyPost_ret (results_cell_row rfl _ _ gb631 30 #[.int .i64 a1, .string ((rd_T24 t632 a1).f0), .string ((rd_T24 t632 a1).f1), .int .i64 ((rd_T24 t632 a1).f2), .int .i64 ((rd_T24 t632 a1).f3), .int .i64 ((rd_T24 t632 a1).f4), .slice Ao18 t636.length co18, .slice Ao17 t639.length co17, .slice Ao16 t643.length co16] (0, 0) _ rfl (fb BK631) Tryz.underlying30 rfl (by kernel_rfl)) rfl ?_
 exact ⟨_, _, _, xE, rF HO638 BK631 (fun _ hk => hk), rF HO641 BK631 (fun _ hk => hk), rF HO645 BK631 (fun _ hk => trivial), xB HB⟩

end Go.Proofs.YtgjljbaadglpnaaGreatDoor.PFnPaidGet
