/- Functions of the program and what each answers: the kit's print, shortened (wip/press2.py). -/
import Derived.Test.YtgjljbaadglpnaaGreatDoorPFnPaidGetx0
import Derived.Test.YtgjljbaadglpnaaGreatDoorPFnPaidGetx4
import Derived.Test.YtgjljbaadglpnaaGreatDoorPFnPaidGetx11
namespace Go.Proofs.YtgjljbaadglpnaaGreatDoor.PFnPaidGet
open Go.Proofs.YtgjljbaadglpnaaGreatDoor.Sq Go.RowKit Go.Proofs.YtgjljbaadglpnaaGreatDoorW.PrintWords Go.Proofs.YtgjljbaadglpnaaGreatDoorW.PrintLast Go.Proofs.YtgjljbaadglpnaaGreatDoorW.PrintMore
open Kd
set_option linter.unusedVariables false
set_option linter.unusedSimpArgs false
set_option maxHeartbeats 64000000
set_option maxRecDepth 100000
attribute [local go_sem high] eqA24
def laws_coPaid.f (k : Nat) (a0_0 : Int) (a0_1 : ByteArray) (a0_2 : ByteArray) (a0_3 : Int) (a0_4 : Int) (a0_5 : Int) (l0_6 : List S93) (l0_7 : List S93) (l0_8 : List S48) (a1_0 : Int) (a1_1 : ByteArray) (a1_2 : ByteArray) (a1_3 : Int) (a1_4 : Int) (a1_5 : Int) (l1_6 : List S93) (l1_7 : List S93) (l1_8 : List S48) : Option (Bool) := if a0_0 = a1_0 then (if (a0_1.toList == a1_1.toList && (a0_2.toList == a1_2.toList && (a0_3 == a1_3 && (a0_4 == a1_4 && (a0_5 == a1_5))))) = true then ((laws_coProof.f k l0_6 l0_7 l1_6 l1_7).bind fun t251 => (if t251 = true then ((laws_coSides.f k l0_8 l1_8).bind fun t252 => (some t252)) else (some false))) else (some false)) else (some false)
theorem laws_coPaid.calls (k : Nat) (a0_0 : Int) (a0_1 : ByteArray) (a0_2 : ByteArray) (a0_3 : Int) (a0_4 : Int) (a0_5 : Int) (A0_6 : Option Addr) (c0_6 : Nat) (l0_6 : List S93) (A0_7 : Option Addr) (c0_7 : Nat) (l0_7 : List S93) (A0_8 : Option Addr) (c0_8 : Nat) (l0_8 : List S48) (a1_0 : Int) (a1_1 : ByteArray) (a1_2 : ByteArray) (a1_3 : Int) (a1_4 : Int) (a1_5 : Int) (A1_6 : Option Addr) (c1_6 : Nat) (l1_6 : List S93) (A1_7 : Option Addr) (c1_7 : Nat) (l1_7 : List S93) (A1_8 : Option Addr) (c1_8 : Nat) (l1_8 : List S48) (r : Bool) (w : World) (hr0_6 : Kd.C k93 w A0_6 l0_6.length l0_6) (hc0_6 : l0_6.length ≤ c0_6) (hr0_7 : Kd.C k93 w A0_7 l0_7.length l0_7) (hc0_7 : l0_7.length ≤ c0_7) (hr0_8 : Kd.C k48 w A0_8 l0_8.length l0_8) (hc0_8 : l0_8.length ≤ c0_8) (hr1_6 : Kd.C k93 w A1_6 l1_6.length l1_6) (hc1_6 : l1_6.length ≤ c1_6) (hr1_7 : Kd.C k93 w A1_7 l1_7.length l1_7) (hc1_7 : l1_7.length ≤ c1_7) (hr1_8 : Kd.C k48 w A1_8 l1_8.length l1_8) (hc1_8 : l1_8.length ≤ c1_8) (h : laws_coPaid.f k a0_0 a0_1 a0_2 a0_3 a0_4 a0_5 l0_6 l0_7 l0_8 a1_0 a1_1 a1_2 a1_3 a1_4 a1_5 l1_6 l1_7 l1_8 = some r) :
  Calls Tryz.prog 9 #[.agg #[.int .i64 a0_0, .string a0_1, .string a0_2, .int .i64 a0_3, .int .i64 a0_4, .int .i64 a0_5, .slice A0_6 l0_6.length c0_6, .slice A0_7 l0_7.length c0_7, .slice A0_8 l0_8.length c0_8], .agg #[.int .i64 a1_0, .string a1_1, .string a1_2, .int .i64 a1_3, .int .i64 a1_4, .int .i64 a1_5, .slice A1_6 l1_6.length c1_6, .slice A1_7 l1_7.length c1_7, .slice A1_8 l1_8.length c1_8]] w fun e w' => e = .returned (.bool r) ∧ Below w.heap.size w w' := by
 have hu30 := Tryz.underlying30
 have hu24 := Tryz.underlying24
 have hu27 := Tryz.underlying27
 have HR0_6 := am hr0_6
 have HC0_6 := am hc0_6
 clear hr0_6 hc0_6
 have HR0_7 := am hr0_7
 have HC0_7 := am hc0_7
 clear hr0_7 hc0_7
 have HR0_8 := am hr0_8
 have HC0_8 := am hc0_8
 clear hr0_8 hc0_8
 have HR1_6 := am hr1_6
 have HC1_6 := am hc1_6
 clear hr1_6 hc1_6
 have HR1_7 := am hr1_7
 have HC1_7 := am hc1_7
 clear hr1_7 hc1_7
 have HR1_8 := am hr1_8
 have HC1_8 := am hc1_8
 clear hr1_8 hc1_8
 have HB := am (Below.refl w.heap.size w)
 have H : (if a0_0 = a1_0 then (if (a0_1.toList == a1_1.toList && (a0_2.toList == a1_2.toList && (a0_3 == a1_3 && (a0_4 == a1_4 && (a0_5 == a1_5))))) = true then ((laws_coProof.f k l0_6 l0_7 l1_6 l1_7).bind fun t251 => (if t251 = true then ((laws_coSides.f k l0_8 l1_8).bind fun t252 => (some t252)) else (some false))) else (some false)) else (some false)) = some r := h
 clear h
 by_cases c3 : a0_0 = a1_0
 rotate_left
 ·rw [if_neg c3] at H
  have c3b0 := beq_eq_false_iff_ne.mpr c3
  have c3b1 := bne_iff_ne.mpr c3
  obtain rfl := oI H
  go_enter Tryz.func9, Tryz.ntmps9
  go_wp2_with ((with_reducible refine gg ?_); first | (refine bE 2 #[.int .i64 a0_0, .string a0_1, .string a0_2, .int .i64 a0_3, .int .i64 a0_4, .int .i64 a0_5, .slice A0_6 l0_6.length c0_6, .slice A0_7 l0_7.length c0_7, .slice A0_8 l0_8.length c0_8] 30 ?_; intro gb249 hg w27 hbox hb; have BK249 := am (hbox); have GW249 := zB hg HB; have GE249 := zB hg HB; replace HB := kH HB hb; clear hb hbox hg) | (refine bE 3 #[.int .i64 a1_0, .string a1_1, .string a1_2, .int .i64 a1_3, .int .i64 a1_4, .int .i64 a1_5, .slice A1_6 l1_6.length c1_6, .slice A1_7 l1_7.length c1_7, .slice A1_8 l1_8.length c1_8] 30 ?_; intro gb250 hg w28 hbox hb; have BK250 := am (hbox); have GW250 := zB hg HB; have GE250 := zB hg HB; replace HB := kH HB hb; have NB249_250 := nl hg (kb BK249); have NB250_249 := ng hg (kb BK249); replace BK249 := kP _ BK249 hb; clear hb hbox hg; have hnb29 := NB249_250.out; have hnc29 := NB250_249.out; have hz30 := bc9 BK249; have hz31 := bc9 BK250))
  go_ret
  exact ⟨xE, xB HB⟩
 rw [if_pos c3] at H
 have c3b0 := beq_iff_eq.mpr c3
 have c3b1 := bne_eq_false_iff_eq.mpr c3
 clear c3
 by_cases c4 : (a0_1.toList == a1_1.toList && (a0_2.toList == a1_2.toList && (a0_3 == a1_3 && (a0_4 == a1_4 && (a0_5 == a1_5))))) = true
 rotate_left
 ·rw [if_neg c4] at H
  have c4b0 : (a0_1.toList == a1_1.toList && (a0_2.toList == a1_2.toList && (a0_3 == a1_3 && (a0_4 == a1_4 && (a0_5 == a1_5))))) = false := by simpa using c4
  (try (have c4b1 : decide (a0_1.toList = a1_1.toList && (a0_2.toList == a1_2.toList && (a0_3 == a1_3 && (a0_4 == a1_4 && (a0_5 == a1_5))))) = false := by simpa using c4))
  (try (have c4b2 : (a0_1.toList == a1_1.toList && (a0_2.toList == a1_2.toList && (a0_3 == a1_3 && (a0_4 == a1_4 && (a0_5 == a1_5))))) = false := by simpa using c4))
  (try (have c4b3 : ¬ (a0_1.toList = a1_1.toList && (a0_2.toList == a1_2.toList && (a0_3 == a1_3 && (a0_4 == a1_4 && (a0_5 == a1_5))))) := by simpa using c4))
  clear c4
  obtain rfl := oI H
  go_enter Tryz.func9, Tryz.ntmps9
  go_wp2_with ((with_reducible refine gg ?_); first | (refine bE 2 #[.int .i64 a0_0, .string a0_1, .string a0_2, .int .i64 a0_3, .int .i64 a0_4, .int .i64 a0_5, .slice A0_6 l0_6.length c0_6, .slice A0_7 l0_7.length c0_7, .slice A0_8 l0_8.length c0_8] 30 ?_; intro gb249 hg w22 hbox hb; have BK249 := am (hbox); have GW249 := zB hg HB; have GE249 := zB hg HB; replace HB := kH HB hb; clear hb hbox hg) | (refine bE 3 #[.int .i64 a1_0, .string a1_1, .string a1_2, .int .i64 a1_3, .int .i64 a1_4, .int .i64 a1_5, .slice A1_6 l1_6.length c1_6, .slice A1_7 l1_7.length c1_7, .slice A1_8 l1_8.length c1_8] 30 ?_; intro gb250 hg w23 hbox hb; have BK250 := am (hbox); have GW250 := zB hg HB; have GE250 := zB hg HB; replace HB := kH HB hb; have NB249_250 := nl hg (kb BK249); have NB250_249 := ng hg (kb BK249); replace BK249 := kP _ BK249 hb; clear hb hbox hg; have hnb24 := NB249_250.out; have hnc24 := NB250_249.out; have hz25 := bc9 BK249; have hz26 := bc9 BK250))
  go_ret
  exact ⟨xE, xB HB⟩
 rw [if_pos c4] at H
 have c4b0 : (a0_1.toList == a1_1.toList && (a0_2.toList == a1_2.toList && (a0_3 == a1_3 && (a0_4 == a1_4 && (a0_5 == a1_5))))) = true := c4
 (try (have c4b1 : decide (a0_1.toList = a1_1.toList && (a0_2.toList == a1_2.toList && (a0_3 == a1_3 && (a0_4 == a1_4 && (a0_5 == a1_5))))) = true := by simpa using c4))
 (try (have c4b2 : (a0_1.toList == a1_1.toList && (a0_2.toList == a1_2.toList && (a0_3 == a1_3 && (a0_4 == a1_4 && (a0_5 == a1_5))))) = true := by simpa using c4))
 clear c4
 replace ⟨t251, A5, H⟩ := oa H
 by_cases c6 : t251 = true
 rotate_left
 ·replace c6 := bF c6
  subst c6
  rw [if_neg nF] at H
  obtain rfl := oI H
  go_enter Tryz.func9, Tryz.ntmps9
  go_wp2_with (first | ((with_reducible refine gg ?_); first | (refine bE 2 #[.int .i64 a0_0, .string a0_1, .string a0_2, .int .i64 a0_3, .int .i64 a0_4, .int .i64 a0_5, .slice A0_6 l0_6.length c0_6, .slice A0_7 l0_7.length c0_7, .slice A0_8 l0_8.length c0_8] 30 ?_; intro gb249 hg w16 hbox hb; have BK249 := am (hbox); have GW249 := zB hg HB; have GE249 := zB hg HB; replace HB := kH HB hb; clear hb hbox hg) | (refine bE 3 #[.int .i64 a1_0, .string a1_1, .string a1_2, .int .i64 a1_3, .int .i64 a1_4, .int .i64 a1_5, .slice A1_6 l1_6.length c1_6, .slice A1_7 l1_7.length c1_7, .slice A1_8 l1_8.length c1_8] 30 ?_; intro gb250 hg w17 hbox hb; have BK250 := am (hbox); have GW250 := zB hg HB; have GE250 := zB hg HB; replace HB := kH HB hb; have NB249_250 := nl hg (kb BK249); have NB250_249 := ng hg (kb BK249); replace BK249 := kP _ BK249 hb; clear hb hbox hg; have hnb18 := NB249_250.out; have hnc18 := NB250_249.out; have hz19 := bc9 BK249; have hz20 := bc9 BK250)) | (go_at_call 30; (with_reducible refine (laws_coProof.calls k _ _ l0_6 _ _ l0_7 _ _ l1_6 _ _ l1_7 false _ ?side1 ?side2 ?side3 ?side4 ?side5 ?side6 ?side7 ?side8 A5.out).mono ?_); (case side1 => exact cb HR0_6 HB); (case side2 => exact HC0_6.out); (case side3 => exact cb HR0_7 HB); (case side4 => exact HC0_7.out); (case side5 => exact cb HR1_6 HB); (case side6 => exact HC1_6.out); (case side7 => exact cb HR1_7 HB); (case side8 => exact HC1_7.out); rintro e w21 ⟨rfl, hb⟩; replace BK249 := kP _ BK249 hb; replace BK250 := kP _ BK250 hb; replace HB := kH HB hb; (try clear hb)))
  go_ret
  exact ⟨xE, xB HB⟩
 subst c6
 rw [if_pos rfl] at H
 replace ⟨t252, A7, H⟩ := oa H
 obtain rfl := oI H
 go_enter Tryz.func9, Tryz.ntmps9
 go_wp2_with (first | ((with_reducible refine gg ?_); first | (refine bE 2 #[.int .i64 a0_0, .string a0_1, .string a0_2, .int .i64 a0_3, .int .i64 a0_4, .int .i64 a0_5, .slice A0_6 l0_6.length c0_6, .slice A0_7 l0_7.length c0_7, .slice A0_8 l0_8.length c0_8] 30 ?_; intro gb249 hg w8 hbox hb; have BK249 := am (hbox); have GW249 := zB hg HB; have GE249 := zB hg HB; replace HB := kH HB hb; clear hb hbox hg) | (refine bE 3 #[.int .i64 a1_0, .string a1_1, .string a1_2, .int .i64 a1_3, .int .i64 a1_4, .int .i64 a1_5, .slice A1_6 l1_6.length c1_6, .slice A1_7 l1_7.length c1_7, .slice A1_8 l1_8.length c1_8] 30 ?_; intro gb250 hg w9 hbox hb; have BK250 := am (hbox); have GW250 := zB hg HB; have GE250 := zB hg HB; replace HB := kH HB hb; have NB249_250 := nl hg (kb BK249); have NB250_249 := ng hg (kb BK249); replace BK249 := kP _ BK249 hb; clear hb hbox hg; have hnb10 := NB249_250.out; have hnc10 := NB250_249.out; have hz11 := bc9 BK249; have hz12 := bc9 BK250)) | (go_at_call 30; (with_reducible refine (laws_coProof.calls k _ _ l0_6 _ _ l0_7 _ _ l1_6 _ _ l1_7 true _ ?side1 ?side2 ?side3 ?side4 ?side5 ?side6 ?side7 ?side8 A5.out).mono ?_); (case side1 => exact cb HR0_6 HB); (case side2 => exact HC0_6.out); (case side3 => exact cb HR0_7 HB); (case side4 => exact HC0_7.out); (case side5 => exact cb HR1_6 HB); (case side6 => exact HC1_6.out); (case side7 => exact cb HR1_7 HB); (case side8 => exact HC1_7.out); rintro e w13 ⟨rfl, hb⟩; replace BK249 := kP _ BK249 hb; replace BK250 := kP _ BK250 hb; replace HB := kH HB hb; (try clear hb); have hz14 := bc9 BK249; have hz15 := bc9 BK250) | (go_at_call 31; (with_reducible refine (laws_coSides.calls k _ _ l0_8 _ _ l1_8 t252 _ ?side1 ?side2 ?side3 ?side4 A7.out).mono ?_); (case side1 => exact cb HR0_8 HB); (case side2 => exact HC0_8.out); (case side3 => exact cb HR1_8 HB); (case side4 => exact HC1_8.out); rintro e w' ⟨rfl, ⟨nd, rfl⟩⟩))
 go_ret
 exact ⟨xE, xB HB⟩
def spec_l1Figure.f (a0 : Int) : Option (Bool) := if a0 ≥ 48 then (some (decide (a0 ≤ 57))) else (some false)
theorem spec_l1Figure.calls (a0 : Int) (r : Bool) (w : World) (h : spec_l1Figure.f a0 = some r) :
  Calls Tryz.prog 68 #[.int .u8 a0] w fun e w' => e = .returned (.bool r) ∧ Drawn0 w w' := by
 have H : (if a0 ≥ 48 then (some (decide (a0 ≤ 57))) else (some false)) = some r := h
 clear h
 by_cases c2 : a0 ≥ 48
 ·rw [if_pos c2] at H
  have c2b0 := dt c2
  clear c2
  obtain rfl := oI H
  go_enter Tryz.func68, Tryz.ntmps68
  go_wp2
  go_ret
  exact ⟨xR, xW⟩
 rw [if_neg c2] at H
 have c2b0 := df c2
 clear c2
 obtain rfl := oI H
 go_enter Tryz.func68, Tryz.ntmps68
 go_wp2
 go_ret
 exact ⟨xR, xW⟩
def spec_l1IsSum.l0 : Nat → ByteArray → Int → Option (Bool)
 | 0, _, _ => none
 | k + 1, x0, x3 => if x3 < (x0.size : Int) then (if 0 ≤ x3 then ((spec_l1Figure.f (bt x0 x3)).bind fun t253 => (if t253 = true then (spec_l1IsSum.l0 k x0 (wrap64 (x3 + 1))) else (if (bt x0 x3) < 97 then (some false) else (if (bt x0 x3) > 102 then (some false) else (spec_l1IsSum.l0 k x0 (wrap64 (x3 + 1))))))) else (none)) else (some ((x0.size : Int) == 16))
def spec_l1IsSum.f (k : Nat) (a0 : ByteArray) : Option (Bool) := spec_l1IsSum.l0 k a0 0
theorem spec_l1IsSum.calls (k : Nat) (a0 : ByteArray) (r : Bool) (w : World) (h : spec_l1IsSum.f k a0 = some r) :
  Calls Tryz.prog 54 #[.string a0] w fun e w' => e = .returned (.bool r) ∧ Drawn0 w w' := by
 have H : (spec_l1IsSum.l0 k a0 0) = some r := h
 clear h
 have H' := am H
 clear H
 go_enter Tryz.func54, Tryz.ntmps54
 go_wp2
 go_loopg [3] k (fun kq v3 w' => ∃ (x3_1 : Int), v3 = .int .i64 x3_1 ∧ Aside0 (spec_l1IsSum.l0 kq a0 x3_1 = some r) ∧ Aside0 (kq ≤ k) ∧ Drawn0 w w')
 case atStart => exact ⟨(0), xR, H', ⟨Nat.le_refl _⟩, xW⟩
 case round =>
  clear H'
  obtain ⟨x3_1, rfl, HA, HK1, ⟨m1, rfl⟩⟩ := hrel
  cases gk with
  | zero => exact absurd HA.out (by simp [spec_l1IsSum.l0])
  | succ k1 =>
   have H := HA.out
   clear HA
   simp only [spec_l1IsSum.l0] at H
   by_cases c2 : x3_1 < (a0.size : Int)
   rotate_left
   ·rw [if_neg c2] at H
    have c2b0 := df c2
    clear c2
    obtain rfl := oI H
    go_wp2
    go_ret
    exact ⟨xR, xW⟩
   rw [if_pos c2] at H
   have c2b0 := dt c2
   clear c2
   replace ⟨c3b0, H⟩ := ipd H
   replace ⟨t253, A5, H⟩ := oa H
   by_cases c6 : t253 = true
   ·subst c6
    rw [if_pos rfl] at H
    have H' := am H
    clear H
    have p4 : 0 ≤ (x3_1 : Int) := oX
    have q4 : x3_1 < (a0.size : Int) := oX
    have hx4 := bt_at a0 x3_1
    replace ⟨p4, q4⟩ := eT p4 q4
    go_wp2_with ((with_reducible refine gg ?_); refine gL 13 Tryz.func68 #[.int .u8 (bt a0 x3_1)] ?_; (with_reducible refine (spec_l1Figure.calls (bt a0 x3_1) true _ A5.out).mono ?_); rintro e w' ⟨rfl, ⟨nd, rfl⟩⟩; refine ⟨_, rfl, ?_⟩)
    go_roundg k1
    case measure => have := HK1.out; omega
    case rel => exact ⟨(wrap64 (x3_1 + 1)), xR, H', ⟨xL HK1⟩, xW⟩
   replace c6 := bF c6
   subst c6
   rw [if_neg nF] at H
   by_cases c8 : (bt a0 x3_1) < 97
   ·rw [if_pos c8] at H
    have c8b0 := dt c8
    clear c8
    obtain rfl := oI H
    have p4 : 0 ≤ (x3_1 : Int) := oX
    have q4 : x3_1 < (a0.size : Int) := oX
    have hx4 := bt_at a0 x3_1
    replace ⟨p4, q4⟩ := eT p4 q4
    go_wp2_with ((with_reducible refine gg ?_); refine gL 13 Tryz.func68 #[.int .u8 (bt a0 x3_1)] ?_; (with_reducible refine (spec_l1Figure.calls (bt a0 x3_1) false _ A5.out).mono ?_); rintro e w' ⟨rfl, ⟨nd, rfl⟩⟩; refine ⟨_, rfl, ?_⟩; have p7 : 0 ≤ (x3_1 : Int) := oX; have q7 : x3_1 < (a0.size : Int) := oX; have hx7 := bt_at a0 x3_1; replace ⟨p7, q7⟩ := eT p7 q7)
    go_ret
    exact ⟨xR, xW⟩
   rw [if_neg c8] at H
   have c8b0 := df c8
   clear c8
   have p4 : 0 ≤ (x3_1 : Int) := oX
   have q4 : x3_1 < (a0.size : Int) := oX
   have hx4 := bt_at a0 x3_1
   replace ⟨p4, q4⟩ := eT p4 q4
   go_upto_if 26 with ((with_reducible refine gg ?_); refine gL 13 Tryz.func68 #[.int .u8 (bt a0 x3_1)] ?_; (with_reducible refine (spec_l1Figure.calls (bt a0 x3_1) false _ A5.out).mono ?_); rintro e w' ⟨rfl, ⟨nd, rfl⟩⟩; refine ⟨_, rfl, ?_⟩; have p7 : 0 ≤ (x3_1 : Int) := oX; have q7 : x3_1 < (a0.size : Int) := oX; have hx7 := bt_at a0 x3_1; replace ⟨p7, q7⟩ := eT p7 q7; have p9 : 0 ≤ (x3_1 : Int) := oX; have q9 : x3_1 < (a0.size : Int) := oX; have hx9 := bt_at a0 x3_1; replace ⟨p9, q9⟩ := eT p9 q9)
   by_cases c10 : (bt a0 x3_1) > 102
   ·rw [if_pos c10] at H
    have c10b0 := dt c10
    try simp only [c10b0, Bool.not_true, Bool.not_false]
    clear c10
    obtain rfl := oI H
    go_wp2
    go_ret
    exact ⟨xR, xW⟩
   rw [if_neg c10] at H
   have c10b0 := df c10
   try simp only [c10b0, Bool.not_true, Bool.not_false]
   clear c10
   have H' := am H
   clear H
   go_wp2
   go_roundg k1
   case measure => have := HK1.out; omega
   case rel => exact ⟨(wrap64 (x3_1 + 1)), xR, H', ⟨xL HK1⟩, xW⟩
def spec_l1In.f (a0 : Int) (a1 : Int) (a2 : Int) : Option (Bool) := if a0 ≥ a1 then (some (decide (a0 ≤ a2))) else (some false)
theorem spec_l1In.calls (a0 : Int) (a1 : Int) (a2 : Int) (r : Bool) (w : World) (h : spec_l1In.f a0 a1 a2 = some r) :
  Calls Tryz.prog 56 #[.int .i64 a0, .int .i64 a1, .int .i64 a2] w fun e w' => e = .returned (.bool r) ∧ Drawn0 w w' := by
 have H : (if a0 ≥ a1 then (some (decide (a0 ≤ a2))) else (some false)) = some r := h
 clear h
 by_cases c4 : a0 ≥ a1
 ·rw [if_pos c4] at H
  have c4b0 := dt c4
  clear c4
  obtain rfl := oI H
  go_enter Tryz.func56, Tryz.ntmps56
  go_wp2
  go_ret
  exact ⟨xR, xW⟩
 rw [if_neg c4] at H
 have c4b0 := df c4
 clear c4
 obtain rfl := oI H
 go_enter Tryz.func56, Tryz.ntmps56
 go_wp2
 go_ret
 exact ⟨xR, xW⟩
def spec_l5PeakOk.f (k : Nat) (a0_0 : ByteArray) (a0_1 : Int) (a0_2 : Int) : Option (Bool) := (spec_l1IsSum.f k a0_0).bind fun t255 => (if t255 = true then ((spec_l1In.f a0_2 1 20).bind fun t256 => (if t256 = true then ((spec_l1In.f a0_1 a0_2 (wrap64 (a0_2 * 8))).bind fun t257 => (some t257)) else (some false))) else (some false))
theorem spec_l5PeakOk.calls (k : Nat) (a0_0 : ByteArray) (a0_1 : Int) (a0_2 : Int) (r : Bool) (w : World) (h : spec_l5PeakOk.f k a0_0 a0_1 a0_2 = some r) :
  Calls Tryz.prog 55 #[.agg #[.string a0_0, .int .i64 a0_1, .int .i64 a0_2]] w fun e w' => e = .returned (.bool r) ∧ Below w.heap.size w w' := by
 have hu93 := Tryz.underlying93
 have HB := am (Below.refl w.heap.size w)
 have H : ((spec_l1IsSum.f k a0_0).bind fun t255 => (if t255 = true then ((spec_l1In.f a0_2 1 20).bind fun t256 => (if t256 = true then ((spec_l1In.f a0_1 a0_2 (wrap64 (a0_2 * 8))).bind fun t257 => (some t257)) else (some false))) else (some false))) = some r := h
 clear h
 replace ⟨t255, A2, H⟩ := oa H
 go_enter Tryz.func55, Tryz.ntmps55
 go_upto_region 1 with ((with_reducible refine gg ?_); refine bE 1 #[.string a0_0, .int .i64 a0_1, .int .i64 a0_2] 93 ?_; intro gb254 hg w7 hbox hb; have BK254 := am (hbox); have GW254 := zB hg HB; have GE254 := zB hg HB; replace HB := kH HB hb; clear hb hbox hg; have hz8 := bc3 BK254)
 by_cases c3 : t255 = true
 rotate_left
 ·replace c3 := bF c3
  subst c3
  try simp only [Bool.not_true, Bool.not_false]
  rw [if_neg nF] at H
  obtain rfl := oI H
  go_wp2_with ((with_reducible refine gg ?_); refine gL 5 Tryz.func54 #[.string a0_0] ?_; (with_reducible refine (spec_l1IsSum.calls k a0_0 false _ A2.out).mono ?_); rintro e w' ⟨rfl, ⟨nd, rfl⟩⟩; refine ⟨_, rfl, ?_⟩)
  go_ret
  exact ⟨xE, xB HB⟩
 subst c3
 try simp only [Bool.not_true, Bool.not_false]
 rw [if_pos rfl] at H
 replace ⟨t256, A4, H⟩ := oa H
 by_cases c5 : t256 = true
 rotate_left
 ·replace c5 := bF c5
  subst c5
  rw [if_neg nF] at H
  obtain rfl := oI H
  go_wp2_with (first | ((with_reducible refine gg ?_); refine gL 5 Tryz.func54 #[.string a0_0] ?_; (with_reducible refine (spec_l1IsSum.calls k a0_0 true _ A2.out).mono ?_); rintro e w' ⟨rfl, ⟨nd, rfl⟩⟩; refine ⟨_, rfl, ?_⟩) | (go_at_call 56; (with_reducible refine (spec_l1In.calls a0_2 1 20 false _ A4.out).mono ?_); rintro e w' ⟨rfl, ⟨nd, rfl⟩⟩))
  go_ret
  exact ⟨xE, xB HB⟩
 subst c5
 rw [if_pos rfl] at H
 replace ⟨t257, A6, H⟩ := oa H
 obtain rfl := oI H
 go_wp2_with (first | ((with_reducible refine gg ?_); refine gL 5 Tryz.func54 #[.string a0_0] ?_; (with_reducible refine (spec_l1IsSum.calls k a0_0 true _ A2.out).mono ?_); rintro e w' ⟨rfl, ⟨nd, rfl⟩⟩; refine ⟨_, rfl, ?_⟩) | (go_at_call 56; (with_reducible refine (spec_l1In.calls a0_2 1 20 true _ A4.out).mono ?_); rintro e w' ⟨rfl, ⟨nd, rfl⟩⟩) | (go_at_call 56; (with_reducible refine (spec_l1In.calls a0_1 a0_2 (wrap64 (a0_2 * 8)) t257 _ A6.out).mono ?_); rintro e w' ⟨rfl, ⟨nd, rfl⟩⟩))
 go_ret
 exact ⟨xE, xB HB⟩
def spec_l3Ok.f (k : Nat) (a0_0 : ByteArray) (a0_1 : ByteArray) (a0_2 : Int) (a0_3 : Int) (a0_4 : Int) : Option (Bool) := (spec_l1IsSum.f k a0_0).bind fun t259 => (if t259 = true then ((spec_l1IsSum.f k a0_1).bind fun t260 => (if t260 = true then ((spec_l1In.f a0_2 0 99999).bind fun t261 => (if t261 = true then ((spec_l1In.f a0_3 1 8).bind fun t262 => (if t262 = true then ((spec_l1In.f a0_4 0 400).bind fun t263 => (some t263)) else (some false))) else (some false))) else (some false))) else (some false))
theorem spec_l3Ok.calls (k : Nat) (a0_0 : ByteArray) (a0_1 : ByteArray) (a0_2 : Int) (a0_3 : Int) (a0_4 : Int) (r : Bool) (w : World) (h : spec_l3Ok.f k a0_0 a0_1 a0_2 a0_3 a0_4 = some r) :
  Calls Tryz.prog 57 #[.agg #[.string a0_0, .string a0_1, .int .i64 a0_2, .int .i64 a0_3, .int .i64 a0_4]] w fun e w' => e = .returned (.bool r) ∧ Below w.heap.size w w' := by
 have hu24 := Tryz.underlying24
 have HB := am (Below.refl w.heap.size w)
 have H : ((spec_l1IsSum.f k a0_0).bind fun t259 => (if t259 = true then ((spec_l1IsSum.f k a0_1).bind fun t260 => (if t260 = true then ((spec_l1In.f a0_2 0 99999).bind fun t261 => (if t261 = true then ((spec_l1In.f a0_3 1 8).bind fun t262 => (if t262 = true then ((spec_l1In.f a0_4 0 400).bind fun t263 => (some t263)) else (some false))) else (some false))) else (some false))) else (some false))) = some r := h
 clear h
 replace ⟨t259, A2, H⟩ := oa H
 go_enter Tryz.func57, Tryz.ntmps57
 go_upto_region 1 with ((with_reducible refine gg ?_); refine bE 1 #[.string a0_0, .string a0_1, .int .i64 a0_2, .int .i64 a0_3, .int .i64 a0_4] 24 ?_; intro gb258 hg w11 hbox hb; have BK258 := am (hbox); have GW258 := zB hg HB; have GE258 := zB hg HB; replace HB := kH HB hb; clear hb hbox hg; have hz12 := bc5 BK258)
 by_cases c3 : t259 = true
 rotate_left
 ·replace c3 := bF c3
  subst c3
  try simp only [Bool.not_true, Bool.not_false]
  rw [if_neg nF] at H
  obtain rfl := oI H
  go_wp2_with ((with_reducible refine gg ?_); refine gL 5 Tryz.func54 #[.string a0_0] ?_; (with_reducible refine (spec_l1IsSum.calls k a0_0 false _ A2.out).mono ?_); rintro e w' ⟨rfl, ⟨nd, rfl⟩⟩; refine ⟨_, rfl, ?_⟩)
  go_ret
  exact ⟨xE, xB HB⟩
 subst c3
 try simp only [Bool.not_true, Bool.not_false]
 rw [if_pos rfl] at H
 replace ⟨t260, A4, H⟩ := oa H
 by_cases c5 : t260 = true
 rotate_left
 ·replace c5 := bF c5
  subst c5
  rw [if_neg nF] at H
  obtain rfl := oI H
  go_wp2_with (first | ((with_reducible refine gg ?_); refine gL 5 Tryz.func54 #[.string a0_0] ?_; (with_reducible refine (spec_l1IsSum.calls k a0_0 true _ A2.out).mono ?_); rintro e w' ⟨rfl, ⟨nd, rfl⟩⟩; refine ⟨_, rfl, ?_⟩) | (go_at_call 54; (with_reducible refine (spec_l1IsSum.calls k a0_1 false _ A4.out).mono ?_); rintro e w' ⟨rfl, ⟨nd, rfl⟩⟩))
  go_ret
  exact ⟨xE, xB HB⟩
 subst c5
 rw [if_pos rfl] at H
 replace ⟨t261, A6, H⟩ := oa H
 by_cases c7 : t261 = true
 rotate_left
 ·replace c7 := bF c7
  subst c7
  rw [if_neg nF] at H
  obtain rfl := oI H
  go_wp2_with (first | ((with_reducible refine gg ?_); refine gL 5 Tryz.func54 #[.string a0_0] ?_; (with_reducible refine (spec_l1IsSum.calls k a0_0 true _ A2.out).mono ?_); rintro e w' ⟨rfl, ⟨nd, rfl⟩⟩; refine ⟨_, rfl, ?_⟩) | (go_at_call 54; (with_reducible refine (spec_l1IsSum.calls k a0_1 true _ A4.out).mono ?_); rintro e w' ⟨rfl, ⟨nd, rfl⟩⟩) | (go_at_call 56; (with_reducible refine (spec_l1In.calls a0_2 0 99999 false _ A6.out).mono ?_); rintro e w' ⟨rfl, ⟨nd, rfl⟩⟩))
  go_ret
  exact ⟨xE, xB HB⟩
 subst c7
 rw [if_pos rfl] at H
 replace ⟨t262, A8, H⟩ := oa H
 by_cases c9 : t262 = true
 rotate_left
 ·replace c9 := bF c9
  subst c9
  rw [if_neg nF] at H
  obtain rfl := oI H
  go_wp2_with (first | ((with_reducible refine gg ?_); refine gL 5 Tryz.func54 #[.string a0_0] ?_; (with_reducible refine (spec_l1IsSum.calls k a0_0 true _ A2.out).mono ?_); rintro e w' ⟨rfl, ⟨nd, rfl⟩⟩; refine ⟨_, rfl, ?_⟩) | (go_at_call 54; (with_reducible refine (spec_l1IsSum.calls k a0_1 true _ A4.out).mono ?_); rintro e w' ⟨rfl, ⟨nd, rfl⟩⟩) | (go_at_call 56; (with_reducible refine (spec_l1In.calls a0_2 0 99999 true _ A6.out).mono ?_); rintro e w' ⟨rfl, ⟨nd, rfl⟩⟩) | (go_at_call 56; (with_reducible refine (spec_l1In.calls a0_3 1 8 false _ A8.out).mono ?_); rintro e w' ⟨rfl, ⟨nd, rfl⟩⟩))
  go_ret
  exact ⟨xE, xB HB⟩
 subst c9
 rw [if_pos rfl] at H
 replace ⟨t263, A10, H⟩ := oa H
 obtain rfl := oI H
 go_wp2_with (first | ((with_reducible refine gg ?_); refine gL 5 Tryz.func54 #[.string a0_0] ?_; (with_reducible refine (spec_l1IsSum.calls k a0_0 true _ A2.out).mono ?_); rintro e w' ⟨rfl, ⟨nd, rfl⟩⟩; refine ⟨_, rfl, ?_⟩) | (go_at_call 54; (with_reducible refine (spec_l1IsSum.calls k a0_1 true _ A4.out).mono ?_); rintro e w' ⟨rfl, ⟨nd, rfl⟩⟩) | (go_at_call 56; (with_reducible refine (spec_l1In.calls a0_2 0 99999 true _ A6.out).mono ?_); rintro e w' ⟨rfl, ⟨nd, rfl⟩⟩) | (go_at_call 56; (with_reducible refine (spec_l1In.calls a0_3 1 8 true _ A8.out).mono ?_); rintro e w' ⟨rfl, ⟨nd, rfl⟩⟩) | (go_at_call 56; (with_reducible refine (spec_l1In.calls a0_4 0 400 t263 _ A10.out).mono ?_); rintro e w' ⟨rfl, ⟨nd, rfl⟩⟩))
 go_ret
 exact ⟨xE, xB HB⟩
def spec_l5Two.l0 : Nat → Int → Int → Option (Bool)
 | 0, _, _ => none
 | k + 1, x0, x3 => if x3 < x0 then (if x3 < 20 then (spec_l5Two.l0 k x0 (wrap64 (x3 * 2))) else (some (x3 == x0))) else (some (x3 == x0))
def spec_l5Two.f (k : Nat) (a0 : Int) : Option (Bool) := spec_l5Two.l0 k a0 1
theorem spec_l5Two.mono_l : ∀ k, (∀ y0 y1, LeO (spec_l5Two.l0 k y0 y1) (spec_l5Two.l0 (k + 1) y0 y1))
 | 0 => fun _ _ r h => by simp [spec_l5Two.l0] at h
 | k + 1 => by
  have ih0 := spec_l5Two.mono_l k
  ·intro y0 y1
   unfold spec_l5Two.l0
   exact mo1 ih0
theorem spec_l5Two.mono : ∀ a0 k, LeO (spec_l5Two.f k a0) (spec_l5Two.f (k + 1) a0) := by
 intro a0 k
 have ih0 := spec_l5Two.mono_l k
 unfold spec_l5Two.f
 exact mo1 ih0
theorem spec_l5Two.calls (k : Nat) (a0 : Int) (r : Bool) (w : World) (h : spec_l5Two.f k a0 = some r) :
  Calls Tryz.prog 79 #[.int .i64 a0] w fun e w' => e = .returned (.bool r) ∧ Drawn0 w w' := by
 have H : (spec_l5Two.l0 k a0 1) = some r := h
 clear h
 have H' := am H
 clear H
 go_enter Tryz.func79, Tryz.ntmps79
 go_wp2
 go_loopg [3] k (fun kq v3 w' => ∃ (x3_1 : Int), v3 = .int .i64 x3_1 ∧ Aside0 (spec_l5Two.l0 kq a0 x3_1 = some r) ∧ Aside0 (kq ≤ k) ∧ Drawn0 w w')
 case atStart => exact ⟨(1), xR, H', ⟨Nat.le_refl _⟩, xW⟩
 case round =>
  clear H'
  obtain ⟨x3_1, rfl, HA, HK1, ⟨m1, rfl⟩⟩ := hrel
  cases gk with
  | zero => exact absurd HA.out (by simp [spec_l5Two.l0])
  | succ k1 =>
   have H := HA.out
   clear HA
   simp only [spec_l5Two.l0] at H
   by_cases c2 : x3_1 < a0
   rotate_left
   ·rw [if_neg c2] at H
    have c2b0 := df c2
    clear c2
    obtain rfl := oI H
    go_wp2
    go_ret
    exact ⟨xR, xW⟩
   rw [if_pos c2] at H
   have c2b0 := dt c2
   clear c2
   by_cases c3 : x3_1 < 20
   rotate_left
   ·rw [if_neg c3] at H
    have c3b0 := df c3
    clear c3
    obtain rfl := oI H
    go_wp2
    go_ret
    exact ⟨xR, xW⟩
   rw [if_pos c3] at H
   have c3b0 := dt c3
   clear c3
   have H' := am H
   clear H
   go_wp2
   go_roundg k1
   case measure => have := HK1.out; omega
   case rel => exact ⟨(wrap64 (x3_1 * 2)), xR, H', ⟨xL HK1⟩, xW⟩
open Kd
set_option linter.unusedVariables false
set_option linter.unusedSimpArgs false
set_option maxHeartbeats 64000000
set_option maxRecDepth 100000
def spec_l5Ok.l0 : Nat → List S93 → Int → Int → Option (Bool)
 | 0, _, _, _ => none
 | k + 1, x0, x3, x4 => if x4 < (x0.length : Int) then (if 0 ≤ x4 then ((spec_l5PeakOk.f k ((rd_T93 x0 x4).f0) ((rd_T93 x0 x4).f1) ((rd_T93 x0 x4).f2)).bind fun t265 => (if t265 = true then ((spec_l5Two.f k ((rd_T93 x0 x4).f2)).bind fun t267 => (if t267 = true then (if x4 > 0 then (if 0 ≤ (wrap64 (x4 - 1)) then (if (wrap64 (x4 - 1)) < (x0.length : Int) then (if ((rd_T93 x0 x4).f2) ≥ ((rd_T93 x0 (wrap64 (x4 - 1))).f2) then (some false) else (spec_l5Ok.l0 k x0 (wrap64 (x3 + ((rd_T93 x0 x4).f2))) (wrap64 (x4 + 1)))) else (none)) else (none)) else (spec_l5Ok.l0 k x0 (wrap64 (x3 + ((rd_T93 x0 x4).f2))) (wrap64 (x4 + 1)))) else (some false))) else (some false))) else (none)) else (some (decide (x3 ≤ 20)))
def spec_l5Ok.f (k : Nat) (l0 : List S93) : Option (Bool) := spec_l5Ok.l0 k l0 0 0
def spec_l5Ok.T5 : Bool × List (List Nat × List Nat) := (true, [([], []), ([], []), ([0, 1], [0, 1]), ([2], [2]), ([3], [3]), ([4], [4]), ([5, 4], [5]), ([6], [6]), ([6], [6]), ([7, 8, 6], [6, 7, 8]), ([9, 6], [6, 9]), ([10, 6], [6, 10]), ([11, 6, 6], [6, 11]), ([12, 6], [6, 12]), ([6, 13], [6, 13]), ([14, 12], [14]), ([15], [15]), ([16, 15], [15, 16]), ([17, 15, 15], [15, 17]), ([18], [18]), ([18], [18]), ([19, 20, 18], [18, 19, 20]), ([21, 18], [18, 21]), ([22, 18], [18, 22]), ([18], [18]), ([18], [18]), ([25, 18], [18, 25]), ([24, 26, 18], [18, 24, 26]), ([27, 18], [18, 27]), ([28, 18], [18, 28]), ([23, 29, 18], [18, 23, 29]), ([18, 30, 15], [15, 18, 30]), ([15, 31], [15, 31])])
def spec_l5Ok.B5 : List Nat := [0, 0, 3, 7, 15, 31, 63, 127, 127, 511, 1023, 2047, 4095, 8191, 16383, 32767, 65535, 131071, 262143, 524287, 524287, 2097151, 4194303, 8388607, 524287, 524287, 34078719, 117964799, 252182527, 520617983, 1073741823, 2147483647, 4294967295]
theorem spec_l5Ok.tab5 : rtab .any (opsOf Tryz.f58 5) = spec_l5Ok.T5 := by kernel_rfl
theorem spec_l5Ok.bits5 : waitsOk spec_l5Ok.T5.2 spec_l5Ok.B5 = true := by kernel_rfl
theorem spec_l5Ok.calls (k : Nat) (A0 : Option Addr) (c0 : Nat) (l0 : List S93) (r : Bool) (w : World) (hr0 : Kd.C k93 w A0 l0.length l0) (hc0 : l0.length ≤ c0) (h : spec_l5Ok.f k l0 = some r) :
  Calls Tryz.prog 58 #[.slice A0 l0.length c0] w fun e w' => e = .returned (.bool r) ∧ Below w.heap.size w w' := by
 have hu93 := Tryz.underlying93
 have HR0 := am hr0
 have HC0 := am hc0
 clear hr0 hc0
 have HB := am (Below.refl w.heap.size w)
 have H : (spec_l5Ok.l0 k l0 0 0) = some r := h
 clear h
 have H' := am H
 clear H
 go_enter Tryz.func58, Tryz.ntmps58
 go_wp2
 go_loopg [3, 4] k (fun kq v3 v4 w' => ∃ (x3_1 : Int) (x4_1 : Int), v3 = .int .i64 x3_1 ∧ v4 = .int .i64 x4_1 ∧ Aside0 (spec_l5Ok.l0 kq l0 x3_1 x4_1 = some r) ∧ Aside0 (kq ≤ k) ∧ Aside0 (Below w.heap.size w w'))
 case atStart => exact ⟨(0), (0), xR, xR, H', ⟨Nat.le_refl _⟩, ⟨bl HB⟩⟩
 case round =>
  clear H'
  obtain ⟨x3_1, x4_1, rfl, rfl, HA, HK1, HB⟩ := hrel
  cases gk with
  | zero => exact absurd HA.out (by simp [spec_l5Ok.l0])
  | succ k1 =>
   have H := HA.out
   clear HA
   simp only [spec_l5Ok.l0] at H
   by_cases c2 : x4_1 < (l0.length : Int)
   rotate_left
   ·rw [if_neg c2] at H
    have c2b0 := df c2
    clear c2
    obtain rfl := oI H
    go_wp2
    go_ret
    exact ⟨xE, bl HB⟩
   rw [if_pos c2] at H
   have c2b0 := dt c2
   clear c2
   replace ⟨c3b0, H⟩ := ipd H
   replace ⟨t265, A4, H⟩ := oa H
   by_cases c5 : t265 = true
   rotate_left
   ·replace c5 := bF c5
    subst c5
    rw [if_neg nF] at H
    obtain rfl := oI H
    try go_wp2
    replace HB := am (below_drew1 HB.out)
    have p264 : 0 ≤ (x4_1 : Int) := oX
    have q264 : x4_1 < (l0.length : Int) := oX
    obtain ⟨ad264, e264, hx264_0, hx264_1, hx264_2⟩ := at_T93 HR0.out x4_1 p264 q264
    have hw264_2 := hx264_2
    have hw264_1 := hx264_1
    have hw264_0 := hx264_0
    cases e264
    replace hx264_0 := hc HB hx264_0
    replace hx264_1 := hc HB hx264_1
    replace hx264_2 := hc HB hx264_2
    replace ⟨p264, q264⟩ := eT p264 q264
    refine start_ (n := 33) (S := fun w' => w'.cell? (ad264.add ((x4_1).toNat * 3)) = some (.string ((rd_T93 l0 x4_1).f0)) ∧ w'.cell? ⟨(ad264.add ((x4_1).toNat * 3)).block, (ad264.add ((x4_1).toNat * 3)).off + 1, none⟩ = some (.int .i64 ((rd_T93 l0 x4_1).f1)) ∧ w'.cell? ⟨(ad264.add ((x4_1).toNat * 3)).block, (ad264.add ((x4_1).toNat * 3)).off + 2, none⟩ = some (.int .i64 ((rd_T93 l0 x4_1).f2))) (ds := []) (bm 33 0) (by kernel_rfl) rfl rfl ⟨(hd HB hw264_0), (hd HB hw264_1), (hd HB hw264_2)⟩ (fun hHeld => ?_); refine with_tabW spec_l5Ok.tab5 spec_l5Ok.bits5 (fun HT_ HW_ => ?_)
    generalize wr.drew = w21 at HB hx264_0 hx264_1 hx264_2 hHeld ⊢
    refine pA 0 11 (bm 33 1) HT_ ?_
    refine pA 1 12 (bm 33 3) HT_ ?_
    refine pA 2 13 (bm 33 7) HT_ ?_
    refine tA 3 14 (bm 33 15) HT_ HW_ hHeld ?_
    refine oA 4 (some 15) (bm 33 31) HT_ fun K hK => ?_
    refine gA Tryz.func55 #[.agg #[.string ((rd_T93 l0 x4_1).f0), .int .i64 ((rd_T93 l0 x4_1).f1), .int .i64 ((rd_T93 l0 x4_1).f2)]] ?_
    with_reducible refine (spec_l5PeakOk.calls k1 ((rd_T93 l0 x4_1).f0) ((rd_T93 l0 x4_1).f1) ((rd_T93 l0 x4_1).f2) false _ A4.out).mono ?_
    rintro e w22 ⟨rfl, hb⟩
    refine ⟨_, rfl, ?_⟩
    replace HB := kH HB hb
    (try clear hb)
    (try clear hb2)
    (try clear hk)
    (try clear hi)
    refine hK.out _ _ ⟨(hd HB hw264_0), (hd HB hw264_1), (hd HB hw264_2)⟩ (fun hHeld => ?_)
    clear hK K
    refine nA (some 15) ?_
    refine pA 5 16 (bm 33 63) HT_ ?_
    refine pA 6 17 (bm 33 127) HT_ ?_
    refine pU 7 18 (bm 33 255) HT_ ?_
    refine pU 8 19 (bm 33 511) HT_ ?_
    refine pU 9 20 (bm 33 1023) HT_ ?_
    refine pU 10 21 (bm 33 2047) HT_ ?_
    refine pU 11 22 (bm 33 4095) HT_ ?_
    refine pU 12 23 (bm 33 8191) HT_ ?_
    refine pU 13 24 (bm 33 16383) HT_ ?_
    refine pA 14 25 (bm 33 32767) HT_ ?_
    refine pA 15 26 (bm 33 65535) HT_ ?_
    refine pU 16 27 (bm 33 131071) HT_ ?_
    refine pU 17 28 (bm 33 262143) HT_ ?_
    refine pU 18 29 (bm 33 524287) HT_ ?_
    refine pU 19 30 (bm 33 1048575) HT_ ?_
    refine pU 20 31 (bm 33 2097151) HT_ ?_
    refine pU 21 32 (bm 33 4194303) HT_ ?_
    refine pU 22 33 (bm 33 8388607) HT_ ?_
    refine pU 23 34 (bm 33 16777215) HT_ ?_
    refine pU 24 35 (bm 33 33554431) HT_ ?_
    refine pU 25 36 (bm 33 67108863) HT_ ?_
    refine pU 26 37 (bm 33 134217727) HT_ ?_
    refine pU 27 38 (bm 33 268435455) HT_ ?_
    refine pU 28 39 (bm 33 536870911) HT_ ?_
    refine pU 29 40 (bm 33 1073741823) HT_ ?_
    refine pU 30 41 (bm 33 2147483647) HT_ ?_
    refine pU 31 42 (bm 33 4294967295) HT_ ?_
    refine pA 32 43 (bm 33 8589934591) HT_ ?_
    refine done_ (done_of HT_.out (by kernel_rfl)) ?_
    try go_wp2
    go_ret
    exact ⟨xE, bl HB⟩
   subst c5
   rw [if_pos rfl] at H
   replace ⟨t267, A6, H⟩ := oa H
   by_cases c7 : t267 = true
   rotate_left
   ·replace c7 := bF c7
    subst c7
    rw [if_neg nF] at H
    obtain rfl := oI H
    try go_wp2
    replace HB := am (below_drew1 HB.out)
    have p264 : 0 ≤ (x4_1 : Int) := oX
    have q264 : x4_1 < (l0.length : Int) := oX
    obtain ⟨ad264, e264, hx264_0, hx264_1, hx264_2⟩ := at_T93 HR0.out x4_1 p264 q264
    have hw264_2 := hx264_2
    have hw264_1 := hx264_1
    have hw264_0 := hx264_0
    cases e264
    replace hx264_0 := hc HB hx264_0
    replace hx264_1 := hc HB hx264_1
    replace hx264_2 := hc HB hx264_2
    replace ⟨p264, q264⟩ := eT p264 q264
    have p266 : 0 ≤ (x4_1 : Int) := oX
    have q266 : x4_1 < (l0.length : Int) := oX
    obtain ⟨ad266, e266, hx266_0, hx266_1, hx266_2⟩ := at_T93 HR0.out x4_1 p266 q266
    have hw266_2 := hx266_2
    have hw266_1 := hx266_1
    have hw266_0 := hx266_0
    obtain rfl : ad264 = ad266 := (by injection e266)
    replace hx266_0 := hc HB hx266_0
    replace hx266_1 := hc HB hx266_1
    replace hx266_2 := hc HB hx266_2
    replace ⟨p266, q266⟩ := eT p266 q266
    refine start_ (n := 33) (S := fun w' => w'.cell? (ad264.add ((x4_1).toNat * 3)) = some (.string ((rd_T93 l0 x4_1).f0)) ∧ w'.cell? ⟨(ad264.add ((x4_1).toNat * 3)).block, (ad264.add ((x4_1).toNat * 3)).off + 1, none⟩ = some (.int .i64 ((rd_T93 l0 x4_1).f1)) ∧ w'.cell? ⟨(ad264.add ((x4_1).toNat * 3)).block, (ad264.add ((x4_1).toNat * 3)).off + 2, none⟩ = some (.int .i64 ((rd_T93 l0 x4_1).f2)) ∧ w'.cell? (ad264.add ((x4_1).toNat * 3)) = some (.string ((rd_T93 l0 x4_1).f0)) ∧ w'.cell? ⟨(ad264.add ((x4_1).toNat * 3)).block, (ad264.add ((x4_1).toNat * 3)).off + 1, none⟩ = some (.int .i64 ((rd_T93 l0 x4_1).f1)) ∧ w'.cell? ⟨(ad264.add ((x4_1).toNat * 3)).block, (ad264.add ((x4_1).toNat * 3)).off + 2, none⟩ = some (.int .i64 ((rd_T93 l0 x4_1).f2))) (ds := []) (bm 33 0) (by kernel_rfl) rfl rfl ⟨(hd HB hw264_0), (hd HB hw264_1), (hd HB hw264_2), (hd HB hw266_0), (hd HB hw266_1), (hd HB hw266_2)⟩ (fun hHeld => ?_); refine with_tabW spec_l5Ok.tab5 spec_l5Ok.bits5 (fun HT_ HW_ => ?_)
    generalize wr.drew = w19 at HB hx264_0 hx264_1 hx264_2 hx266_0 hx266_1 hx266_2 hHeld ⊢
    refine pA 0 11 (bm 33 1) HT_ ?_
    refine pA 1 12 (bm 33 3) HT_ ?_
    refine pA 2 13 (bm 33 7) HT_ ?_
    refine tA 3 14 (bm 33 15) HT_ HW_ hHeld ?_
    refine oA 4 (some 15) (bm 33 31) HT_ fun K hK => ?_
    refine gA Tryz.func55 #[.agg #[.string ((rd_T93 l0 x4_1).f0), .int .i64 ((rd_T93 l0 x4_1).f1), .int .i64 ((rd_T93 l0 x4_1).f2)]] ?_
    with_reducible refine (spec_l5PeakOk.calls k1 ((rd_T93 l0 x4_1).f0) ((rd_T93 l0 x4_1).f1) ((rd_T93 l0 x4_1).f2) true _ A4.out).mono ?_
    rintro e w20 ⟨rfl, hb⟩
    refine ⟨_, rfl, ?_⟩
    replace HB := kH HB hb
    (try clear hb)
    (try clear hb2)
    (try clear hk)
    (try clear hi)
    refine hK.out _ _ ⟨(hd HB hw264_0), (hd HB hw264_1), (hd HB hw264_2), (hd HB hw266_0), (hd HB hw266_1), (hd HB hw266_2)⟩ (fun hHeld => ?_)
    clear hK K
    refine nA (some 15) ?_
    refine pA 5 16 (bm 33 63) HT_ ?_
    refine pA 6 17 (bm 33 127) HT_ ?_
    refine pA 7 18 (bm 33 255) HT_ ?_
    refine pA 8 19 (bm 33 511) HT_ ?_
    refine pA 9 20 (bm 33 1023) HT_ ?_
    refine pA 10 21 (bm 33 2047) HT_ ?_
    refine tA 11 22 (bm 33 4095) HT_ HW_ hHeld ?_
    refine oA 12 (some 23) (bm 33 8191) HT_ fun K hK => ?_
    refine gA Tryz.func79 #[.int .i64 ((rd_T93 l0 x4_1).f2)] ?_
    with_reducible refine (spec_l5Two.calls k1 ((rd_T93 l0 x4_1).f2) false _ A6.out).mono ?_
    rintro e w' ⟨rfl, ⟨nd, rfl⟩⟩
    refine ⟨_, rfl, ?_⟩
    refine hK.out _ _ ⟨(hd HB hw264_0), (hd HB hw264_1), (hd HB hw264_2), (hd HB hw266_0), (hd HB hw266_1), (hd HB hw266_2)⟩ (fun hHeld => ?_)
    clear hK K
    refine nA (some 23) ?_
    refine pA 13 24 (bm 33 16383) HT_ ?_
    refine pA 14 25 (bm 33 32767) HT_ ?_
    refine pA 15 26 (bm 33 65535) HT_ ?_
    refine pU 16 27 (bm 33 131071) HT_ ?_
    refine pU 17 28 (bm 33 262143) HT_ ?_
    refine pU 18 29 (bm 33 524287) HT_ ?_
    refine pU 19 30 (bm 33 1048575) HT_ ?_
    refine pU 20 31 (bm 33 2097151) HT_ ?_
    refine pU 21 32 (bm 33 4194303) HT_ ?_
    refine pU 22 33 (bm 33 8388607) HT_ ?_
    refine pU 23 34 (bm 33 16777215) HT_ ?_
    refine pU 24 35 (bm 33 33554431) HT_ ?_
    refine pU 25 36 (bm 33 67108863) HT_ ?_
    refine pU 26 37 (bm 33 134217727) HT_ ?_
    refine pU 27 38 (bm 33 268435455) HT_ ?_
    refine pU 28 39 (bm 33 536870911) HT_ ?_
    refine pU 29 40 (bm 33 1073741823) HT_ ?_
    refine pU 30 41 (bm 33 2147483647) HT_ ?_
    refine pU 31 42 (bm 33 4294967295) HT_ ?_
    refine pA 32 43 (bm 33 8589934591) HT_ ?_
    refine done_ (done_of HT_.out (by kernel_rfl)) ?_
    try go_wp2
    go_ret
    exact ⟨xE, bl HB⟩
   subst c7
   rw [if_pos rfl] at H
   by_cases c8 : x4_1 > 0
   rotate_left
   ·rw [if_neg c8] at H
    have c8b0 := df c8
    clear c8
    have H' := am H
    clear H
    try go_wp2
    replace HB := am (below_drew1 HB.out)
    have p264 : 0 ≤ (x4_1 : Int) := oX
    have q264 : x4_1 < (l0.length : Int) := oX
    obtain ⟨ad264, e264, hx264_0, hx264_1, hx264_2⟩ := at_T93 HR0.out x4_1 p264 q264
    have hw264_2 := hx264_2
    have hw264_1 := hx264_1
    have hw264_0 := hx264_0
    cases e264
    replace hx264_0 := hc HB hx264_0
    replace hx264_1 := hc HB hx264_1
    replace hx264_2 := hc HB hx264_2
    replace ⟨p264, q264⟩ := eT p264 q264
    have p266 : 0 ≤ (x4_1 : Int) := oX
    have q266 : x4_1 < (l0.length : Int) := oX
    obtain ⟨ad266, e266, hx266_0, hx266_1, hx266_2⟩ := at_T93 HR0.out x4_1 p266 q266
    have hw266_2 := hx266_2
    have hw266_1 := hx266_1
    have hw266_0 := hx266_0
    obtain rfl : ad264 = ad266 := (by injection e266)
    replace hx266_0 := hc HB hx266_0
    replace hx266_1 := hc HB hx266_1
    replace hx266_2 := hc HB hx266_2
    replace ⟨p266, q266⟩ := eT p266 q266
    refine start_ (n := 33) (S := fun w' => w'.cell? (ad264.add ((x4_1).toNat * 3)) = some (.string ((rd_T93 l0 x4_1).f0)) ∧ w'.cell? ⟨(ad264.add ((x4_1).toNat * 3)).block, (ad264.add ((x4_1).toNat * 3)).off + 1, none⟩ = some (.int .i64 ((rd_T93 l0 x4_1).f1)) ∧ w'.cell? ⟨(ad264.add ((x4_1).toNat * 3)).block, (ad264.add ((x4_1).toNat * 3)).off + 2, none⟩ = some (.int .i64 ((rd_T93 l0 x4_1).f2)) ∧ w'.cell? (ad264.add ((x4_1).toNat * 3)) = some (.string ((rd_T93 l0 x4_1).f0)) ∧ w'.cell? ⟨(ad264.add ((x4_1).toNat * 3)).block, (ad264.add ((x4_1).toNat * 3)).off + 1, none⟩ = some (.int .i64 ((rd_T93 l0 x4_1).f1)) ∧ w'.cell? ⟨(ad264.add ((x4_1).toNat * 3)).block, (ad264.add ((x4_1).toNat * 3)).off + 2, none⟩ = some (.int .i64 ((rd_T93 l0 x4_1).f2))) (ds := []) (bm 33 0) (by kernel_rfl) rfl rfl ⟨(hd HB hw264_0), (hd HB hw264_1), (hd HB hw264_2), (hd HB hw266_0), (hd HB hw266_1), (hd HB hw266_2)⟩ (fun hHeld => ?_); refine with_tabW spec_l5Ok.tab5 spec_l5Ok.bits5 (fun HT_ HW_ => ?_)
    generalize wr.drew = w17 at HB hx264_0 hx264_1 hx264_2 hx266_0 hx266_1 hx266_2 hHeld ⊢
    refine pA 0 11 (bm 33 1) HT_ ?_
    refine pA 1 12 (bm 33 3) HT_ ?_
    refine pA 2 13 (bm 33 7) HT_ ?_
    refine tA 3 14 (bm 33 15) HT_ HW_ hHeld ?_
    refine oA 4 (some 15) (bm 33 31) HT_ fun K hK => ?_
    refine gA Tryz.func55 #[.agg #[.string ((rd_T93 l0 x4_1).f0), .int .i64 ((rd_T93 l0 x4_1).f1), .int .i64 ((rd_T93 l0 x4_1).f2)]] ?_
    with_reducible refine (spec_l5PeakOk.calls k1 ((rd_T93 l0 x4_1).f0) ((rd_T93 l0 x4_1).f1) ((rd_T93 l0 x4_1).f2) true _ A4.out).mono ?_
    rintro e w18 ⟨rfl, hb⟩
    refine ⟨_, rfl, ?_⟩
    replace HB := kH HB hb
    (try clear hb)
    (try clear hb2)
    (try clear hk)
    (try clear hi)
    refine hK.out _ _ ⟨(hd HB hw264_0), (hd HB hw264_1), (hd HB hw264_2), (hd HB hw266_0), (hd HB hw266_1), (hd HB hw266_2)⟩ (fun hHeld => ?_)
    clear hK K
    refine nA (some 15) ?_
    refine pA 5 16 (bm 33 63) HT_ ?_
    refine pA 6 17 (bm 33 127) HT_ ?_
    refine pA 7 18 (bm 33 255) HT_ ?_
    refine pA 8 19 (bm 33 511) HT_ ?_
    refine pA 9 20 (bm 33 1023) HT_ ?_
    refine pA 10 21 (bm 33 2047) HT_ ?_
    refine tA 11 22 (bm 33 4095) HT_ HW_ hHeld ?_
    refine oA 12 (some 23) (bm 33 8191) HT_ fun K hK => ?_
    refine gA Tryz.func79 #[.int .i64 ((rd_T93 l0 x4_1).f2)] ?_
    with_reducible refine (spec_l5Two.calls k1 ((rd_T93 l0 x4_1).f2) true _ A6.out).mono ?_
    rintro e w' ⟨rfl, ⟨nd, rfl⟩⟩
    refine ⟨_, rfl, ?_⟩
    refine hK.out _ _ ⟨(hd HB hw264_0), (hd HB hw264_1), (hd HB hw264_2), (hd HB hw266_0), (hd HB hw266_1), (hd HB hw266_2)⟩ (fun hHeld => ?_)
    clear hK K
    refine nA (some 23) ?_
    refine pA 13 24 (bm 33 16383) HT_ ?_
    refine pA 14 25 (bm 33 32767) HT_ ?_
    refine pA 15 26 (bm 33 65535) HT_ ?_
    refine pA 16 27 (bm 33 131071) HT_ ?_
    refine pA 17 28 (bm 33 262143) HT_ ?_
    refine pA 18 29 (bm 33 524287) HT_ ?_
    refine pU 19 30 (bm 33 1048575) HT_ ?_
    refine pU 20 31 (bm 33 2097151) HT_ ?_
    refine pU 21 32 (bm 33 4194303) HT_ ?_
    refine pU 22 33 (bm 33 8388607) HT_ ?_
    refine pU 23 34 (bm 33 16777215) HT_ ?_
    refine pU 24 35 (bm 33 33554431) HT_ ?_
    refine pU 25 36 (bm 33 67108863) HT_ ?_
    refine pU 26 37 (bm 33 134217727) HT_ ?_
    refine pU 27 38 (bm 33 268435455) HT_ ?_
    refine pU 28 39 (bm 33 536870911) HT_ ?_
    refine pU 29 40 (bm 33 1073741823) HT_ ?_
    refine pU 30 41 (bm 33 2147483647) HT_ ?_
    refine pA 31 42 (bm 33 4294967295) HT_ ?_
    refine pA 32 43 (bm 33 8589934591) HT_ ?_
    refine done_ (done_of HT_.out (by kernel_rfl)) ?_
    have p271 : 0 ≤ (x4_1 : Int) := oX
    have q271 : x4_1 < (l0.length : Int) := oX
    obtain ⟨ad271, e271, hx271_0, hx271_1, hx271_2⟩ := at_T93 (hC HB HR0.out) x4_1 p271 q271
    obtain rfl : ad264 = ad271 := (by injection e271)
    replace ⟨p271, q271⟩ := eT p271 q271
    try go_wp2
    go_roundg k1
    case measure => have := HK1.out; omega
    case rel => exact ⟨(wrap64 (x3_1 + ((rd_T93 l0 x4_1).f2))), (wrap64 (x4_1 + 1)), xR, xR, H', ⟨xL HK1⟩, ⟨bl HB⟩⟩
   rw [if_pos c8] at H
   have c8b0 := dt c8
   clear c8
   obtain ⟨ji9, hji9⟩ := je (wrap64 (x4_1 - 1))
   first | rw [hji9] at H | simp only [hji9] at H
   (try rw [hji9] at A4)
   (try rw [hji9] at A6)
   have hji9w : (IntKind.i64.wrap (x4_1 - 1)) = ji9 := (i64_w _).trans hji9
   replace ⟨c10b0, H⟩ := ipd H
   replace ⟨c11b0, H⟩ := ipd H
   try go_wp2
   replace HB := am (below_drew1 HB.out)
   have p264 : 0 ≤ (x4_1 : Int) := oX
   have q264 : x4_1 < (l0.length : Int) := oX
   obtain ⟨ad264, e264, hx264_0, hx264_1, hx264_2⟩ := at_T93 HR0.out x4_1 p264 q264
   have hw264_2 := hx264_2
   have hw264_1 := hx264_1
   have hw264_0 := hx264_0
   cases e264
   replace hx264_0 := hc HB hx264_0
   replace hx264_1 := hc HB hx264_1
   replace hx264_2 := hc HB hx264_2
   replace ⟨p264, q264⟩ := eT p264 q264
   have p266 : 0 ≤ (x4_1 : Int) := oX
   have q266 : x4_1 < (l0.length : Int) := oX
   obtain ⟨ad266, e266, hx266_0, hx266_1, hx266_2⟩ := at_T93 HR0.out x4_1 p266 q266
   have hw266_2 := hx266_2
   have hw266_1 := hx266_1
   have hw266_0 := hx266_0
   obtain rfl : ad264 = ad266 := (by injection e266)
   replace hx266_0 := hc HB hx266_0
   replace hx266_1 := hc HB hx266_1
   replace hx266_2 := hc HB hx266_2
   replace ⟨p266, q266⟩ := eT p266 q266
   have p268 : 0 ≤ (x4_1 : Int) := oX
   have q268 : x4_1 < (l0.length : Int) := oX
   obtain ⟨ad268, e268, hx268_0, hx268_1, hx268_2⟩ := at_T93 HR0.out x4_1 p268 q268
   have hw268_2 := hx268_2
   have hw268_1 := hx268_1
   have hw268_0 := hx268_0
   obtain rfl : ad264 = ad268 := (by injection e268)
   replace hx268_0 := hc HB hx268_0
   replace hx268_1 := hc HB hx268_1
   replace hx268_2 := hc HB hx268_2
   replace ⟨p268, q268⟩ := eT p268 q268
   have p269 : 0 ≤ ((ji9) : Int) := oX
   have q269 : (ji9) < (l0.length : Int) := oX
   obtain ⟨ad269, e269, hx269_0, hx269_1, hx269_2⟩ := at_T93 HR0.out (ji9) p269 q269
   have hw269_2 := hx269_2
   have hw269_1 := hx269_1
   have hw269_0 := hx269_0
   obtain rfl : ad264 = ad269 := (by injection e269)
   replace hx269_0 := hc HB hx269_0
   replace hx269_1 := hc HB hx269_1
   replace hx269_2 := hc HB hx269_2
   replace ⟨p269, q269⟩ := eT p269 q269
   refine start_ (n := 33) (S := fun w' => w'.cell? (ad264.add ((x4_1).toNat * 3)) = some (.string ((rd_T93 l0 x4_1).f0)) ∧ w'.cell? ⟨(ad264.add ((x4_1).toNat * 3)).block, (ad264.add ((x4_1).toNat * 3)).off + 1, none⟩ = some (.int .i64 ((rd_T93 l0 x4_1).f1)) ∧ w'.cell? ⟨(ad264.add ((x4_1).toNat * 3)).block, (ad264.add ((x4_1).toNat * 3)).off + 2, none⟩ = some (.int .i64 ((rd_T93 l0 x4_1).f2)) ∧ w'.cell? (ad264.add ((x4_1).toNat * 3)) = some (.string ((rd_T93 l0 x4_1).f0)) ∧ w'.cell? ⟨(ad264.add ((x4_1).toNat * 3)).block, (ad264.add ((x4_1).toNat * 3)).off + 1, none⟩ = some (.int .i64 ((rd_T93 l0 x4_1).f1)) ∧ w'.cell? ⟨(ad264.add ((x4_1).toNat * 3)).block, (ad264.add ((x4_1).toNat * 3)).off + 2, none⟩ = some (.int .i64 ((rd_T93 l0 x4_1).f2)) ∧ w'.cell? (ad264.add ((x4_1).toNat * 3)) = some (.string ((rd_T93 l0 x4_1).f0)) ∧ w'.cell? ⟨(ad264.add ((x4_1).toNat * 3)).block, (ad264.add ((x4_1).toNat * 3)).off + 1, none⟩ = some (.int .i64 ((rd_T93 l0 x4_1).f1)) ∧ w'.cell? ⟨(ad264.add ((x4_1).toNat * 3)).block, (ad264.add ((x4_1).toNat * 3)).off + 2, none⟩ = some (.int .i64 ((rd_T93 l0 x4_1).f2)) ∧ w'.cell? (ad264.add (((ji9)).toNat * 3)) = some (.string ((rd_T93 l0 (ji9)).f0)) ∧ w'.cell? ⟨(ad264.add (((ji9)).toNat * 3)).block, (ad264.add (((ji9)).toNat * 3)).off + 1, none⟩ = some (.int .i64 ((rd_T93 l0 (ji9)).f1)) ∧ w'.cell? ⟨(ad264.add (((ji9)).toNat * 3)).block, (ad264.add (((ji9)).toNat * 3)).off + 2, none⟩ = some (.int .i64 ((rd_T93 l0 (ji9)).f2))) (ds := []) (bm 33 0) (by kernel_rfl) rfl rfl ⟨(hd HB hw264_0), (hd HB hw264_1), (hd HB hw264_2), (hd HB hw266_0), (hd HB hw266_1), (hd HB hw266_2), (hd HB hw268_0), (hd HB hw268_1), (hd HB hw268_2), (hd HB hw269_0), (hd HB hw269_1), (hd HB hw269_2)⟩ (fun hHeld => ?_); refine with_tabW spec_l5Ok.tab5 spec_l5Ok.bits5 (fun HT_ HW_ => ?_)
   generalize wr.drew = w13 at HB hx264_0 hx264_1 hx264_2 hx266_0 hx266_1 hx266_2 hx268_0 hx268_1 hx268_2 hx269_0 hx269_1 hx269_2 hHeld ⊢
   refine pA 0 11 (bm 33 1) HT_ ?_
   refine pA 1 12 (bm 33 3) HT_ ?_
   refine pA 2 13 (bm 33 7) HT_ ?_
   refine tA 3 14 (bm 33 15) HT_ HW_ hHeld ?_
   refine oA 4 (some 15) (bm 33 31) HT_ fun K hK => ?_
   refine gA Tryz.func55 #[.agg #[.string ((rd_T93 l0 x4_1).f0), .int .i64 ((rd_T93 l0 x4_1).f1), .int .i64 ((rd_T93 l0 x4_1).f2)]] ?_
   with_reducible refine (spec_l5PeakOk.calls k1 ((rd_T93 l0 x4_1).f0) ((rd_T93 l0 x4_1).f1) ((rd_T93 l0 x4_1).f2) true _ A4.out).mono ?_
   rintro e w14 ⟨rfl, hb⟩
   refine ⟨_, rfl, ?_⟩
   replace HB := kH HB hb
   (try clear hb)
   (try clear hb2)
   (try clear hk)
   (try clear hi)
   refine hK.out _ _ ⟨(hd HB hw264_0), (hd HB hw264_1), (hd HB hw264_2), (hd HB hw266_0), (hd HB hw266_1), (hd HB hw266_2), (hd HB hw268_0), (hd HB hw268_1), (hd HB hw268_2), (hd HB hw269_0), (hd HB hw269_1), (hd HB hw269_2)⟩ (fun hHeld => ?_)
   clear hK K
   refine nA (some 15) ?_
   refine pA 5 16 (bm 33 63) HT_ ?_
   refine pA 6 17 (bm 33 127) HT_ ?_
   refine pA 7 18 (bm 33 255) HT_ ?_
   refine pA 8 19 (bm 33 511) HT_ ?_
   refine pA 9 20 (bm 33 1023) HT_ ?_
   refine pA 10 21 (bm 33 2047) HT_ ?_
   refine tA 11 22 (bm 33 4095) HT_ HW_ hHeld ?_
   refine oA 12 (some 23) (bm 33 8191) HT_ fun K hK => ?_
   refine gA Tryz.func79 #[.int .i64 ((rd_T93 l0 x4_1).f2)] ?_
   with_reducible refine (spec_l5Two.calls k1 ((rd_T93 l0 x4_1).f2) true _ A6.out).mono ?_
   rintro e w' ⟨rfl, ⟨nd, rfl⟩⟩
   refine ⟨_, rfl, ?_⟩
   refine hK.out _ _ ⟨(hd HB hw264_0), (hd HB hw264_1), (hd HB hw264_2), (hd HB hw266_0), (hd HB hw266_1), (hd HB hw266_2), (hd HB hw268_0), (hd HB hw268_1), (hd HB hw268_2), (hd HB hw269_0), (hd HB hw269_1), (hd HB hw269_2)⟩ (fun hHeld => ?_)
   clear hK K
   refine nA (some 23) ?_
   refine pA 13 24 (bm 33 16383) HT_ ?_
   refine pA 14 25 (bm 33 32767) HT_ ?_
   refine pA 15 26 (bm 33 65535) HT_ ?_
   refine pA 16 27 (bm 33 131071) HT_ ?_
   refine pA 17 28 (bm 33 262143) HT_ ?_
   refine pA 18 29 (bm 33 524287) HT_ ?_
   refine pA 19 30 (bm 33 1048575) HT_ ?_
   refine pA 20 31 (bm 33 2097151) HT_ ?_
   refine pA 21 32 (bm 33 4194303) HT_ ?_
   refine pA 22 33 (bm 33 8388607) HT_ ?_
   refine pA 24 35 (bm 33 25165823) HT_ ?_
   refine pA 25 36 (bm 33 58720255) HT_ ?_
   refine pA 26 37 (bm 33 125829119) HT_ ?_
   refine pA 27 38 (bm 33 260046847) HT_ ?_
   refine pA 28 39 (bm 33 528482303) HT_ ?_
   refine tA 23 34 (bm 33 536870911) HT_ HW_ hHeld ?_
   refine tA 29 40 (bm 33 1073741823) HT_ HW_ hHeld ?_
   refine pA 30 41 (bm 33 2147483647) HT_ ?_
   refine pA 31 42 (bm 33 4294967295) HT_ ?_
   refine pA 32 43 (bm 33 8589934591) HT_ ?_
   refine done_ (done_of HT_.out (by kernel_rfl)) ?_
   by_cases c12 : ((rd_T93 l0 x4_1).f2) ≥ ((rd_T93 l0 (ji9)).f2)
   ·rw [if_pos c12] at H
    have c12b0 := dt c12
    try simp only [c12b0, Bool.not_true, Bool.not_false]
    clear c12
    obtain rfl := oI H
    try go_wp2
    go_ret
    exact ⟨by first | rfl | (simp [errW_none, errW_some] <;> rfl) | (simp only [← hji9]; first | rfl | (simp [errW_none, errW_some] <;> rfl)) | (simp [*, errW_none, errW_some] <;> rfl), bl HB⟩
   rw [if_neg c12] at H
   have c12b0 := df c12
   try simp only [c12b0, Bool.not_true, Bool.not_false]
   clear c12
   have H' := am H
   clear H
   have p270 : 0 ≤ (x4_1 : Int) := oX
   have q270 : x4_1 < (l0.length : Int) := oX
   obtain ⟨ad270, e270, hx270_0, hx270_1, hx270_2⟩ := at_T93 (hC HB HR0.out) x4_1 p270 q270
   obtain rfl : ad264 = ad270 := (by injection e270)
   replace ⟨p270, q270⟩ := eT p270 q270
   try go_wp2
   go_roundg k1
   case measure => have := HK1.out; omega
   case rel => exact ⟨(wrap64 (x3_1 + ((rd_T93 l0 x4_1).f2))), (wrap64 (x4_1 + 1)), xR, xR, H', ⟨xL HK1⟩, ⟨bl HB⟩⟩
open Kd
set_option linter.unusedVariables false
set_option linter.unusedSimpArgs false
set_option maxHeartbeats 64000000
set_option maxRecDepth 100000
mutual
def spec_l9Ok.l0 : Nat → Int → Int → ByteArray → ByteArray → Int → Int → Int → List S93 → List S93 → List S48 → Option (Bool)
 | 0, _, _, _, _, _, _, _, _, _, _ => none
 | k + 1, x3, x273000, x273001, x273002, x273003, x273004, x273005, x273006, x273007, x273008 => if x3 < (x273008.length : Int) then (if 0 ≤ x3 then ((spec_l1IsSum.f k ((rd_T48 x273008 x3).f0)).bind fun t274 => (if t274 = true then (spec_l9Ok.l0 k (wrap64 (x3 + 1)) x273000 x273001 x273002 x273003 x273004 x273005 x273006 x273007 x273008) else (some false))) else (none)) else (spec_l9Ok.l1 k 0 x273000 x273001 x273002 x273003 x273004 x273005 x273006 x273007 x273008)
def spec_l9Ok.l1 : Nat → Int → Int → ByteArray → ByteArray → Int → Int → Int → List S93 → List S93 → List S48 → Option (Bool)
 | 0, _, _, _, _, _, _, _, _, _, _ => none
 | k + 1, x4, x273000, x273001, x273002, x273003, x273004, x273005, x273006, x273007, x273008 => if x4 < (x273007.length : Int) then (if 0 ≤ x4 then ((spec_l5PeakOk.f k ((rd_T93 x273007 x4).f0) ((rd_T93 x273007 x4).f1) ((rd_T93 x273007 x4).f2)).bind fun t276 => (if t276 = true then (spec_l9Ok.l1 k (wrap64 (x4 + 1)) x273000 x273001 x273002 x273003 x273004 x273005 x273006 x273007 x273008) else (some false))) else (none)) else ((spec_l1In.f x273000 0 19).bind fun t277 => (if t277 = true then ((spec_l3Ok.f k x273001 x273002 x273003 x273004 x273005).bind fun t278 => (if t278 = true then ((spec_l5Ok.f k x273006).bind fun t279 => (if t279 = true then (if (x273008.length : Int) ≤ 8 then (some (decide ((x273007.length : Int) ≤ 8))) else (some false)) else (some false))) else (some false))) else (some false)))
end
def spec_l9Ok.f (k : Nat) (a0_0 : Int) (a0_1 : ByteArray) (a0_2 : ByteArray) (a0_3 : Int) (a0_4 : Int) (a0_5 : Int) (l0_6 : List S93) (l0_7 : List S93) (l0_8 : List S48) : Option (Bool) := spec_l9Ok.l0 k 0 a0_0 a0_1 a0_2 a0_3 a0_4 a0_5 l0_6 l0_7 l0_8
theorem spec_l9Ok.calls (k : Nat) (a0_0 : Int) (a0_1 : ByteArray) (a0_2 : ByteArray) (a0_3 : Int) (a0_4 : Int) (a0_5 : Int) (A0_6 : Option Addr) (c0_6 : Nat) (l0_6 : List S93) (A0_7 : Option Addr) (c0_7 : Nat) (l0_7 : List S93) (A0_8 : Option Addr) (c0_8 : Nat) (l0_8 : List S48) (r : Bool) (w : World) (hr0_6 : Kd.C k93 w A0_6 l0_6.length l0_6) (hc0_6 : l0_6.length ≤ c0_6) (hr0_7 : Kd.C k93 w A0_7 l0_7.length l0_7) (hc0_7 : l0_7.length ≤ c0_7) (hr0_8 : Kd.C k48 w A0_8 l0_8.length l0_8) (hc0_8 : l0_8.length ≤ c0_8) (h : spec_l9Ok.f k a0_0 a0_1 a0_2 a0_3 a0_4 a0_5 l0_6 l0_7 l0_8 = some r) :
  Calls Tryz.prog 22 #[.agg #[.int .i64 a0_0, .string a0_1, .string a0_2, .int .i64 a0_3, .int .i64 a0_4, .int .i64 a0_5, .slice A0_6 l0_6.length c0_6, .slice A0_7 l0_7.length c0_7, .slice A0_8 l0_8.length c0_8]] w fun e w' => e = .returned (.bool r) ∧ Below w.heap.size w w' := by
 have hu30 := Tryz.underlying30
 have hu93 := Tryz.underlying93
 have hu24 := Tryz.underlying24
 have HR0_6 := am hr0_6
 have HC0_6 := am hc0_6
 clear hr0_6 hc0_6
 have HR0_7 := am hr0_7
 have HC0_7 := am hc0_7
 clear hr0_7 hc0_7
 have HR0_8 := am hr0_8
 have HC0_8 := am hc0_8
 clear hr0_8 hc0_8
 have HB := am (Below.refl w.heap.size w)
 have H : (spec_l9Ok.l0 k 0 a0_0 a0_1 a0_2 a0_3 a0_4 a0_5 l0_6 l0_7 l0_8) = some r := h
 clear h
 have H' := am H
 clear H
 go_enter Tryz.func22, Tryz.ntmps22
 go_wp2_with ((with_reducible refine gate_dst (N := 1) rfl ?_); (try (refine gate_guard (by rfl) ?_; dsimp only)); refine box_event ?hg (N := 1) ?hd (cs := #[.int .i64 a0_0, .string a0_1, .string a0_2, .int .i64 a0_3, .int .i64 a0_4, .int .i64 a0_5, .slice A0_6 l0_6.length c0_6, .slice A0_7 l0_7.length c0_7, .slice A0_8 l0_8.length c0_8]) (t := 30) ?hr ?_; (case hd => rfl); (case hg => rfl); (case hr => first | (go_simp; done) | (go_simp; rfl)); intro gb272 hg w2 hbox hb; have BK272 := am (hbox); have GW272 := zB hg HB; have GE272 := zB hg HB; replace HB := kH HB hb; clear hb hbox hg)
 go_loopg [3] k (fun kq v3 w' => ∃ (x3_1 : Int), v3 = .int .i64 x3_1 ∧ Aside0 (spec_l9Ok.l0 kq x3_1 a0_0 a0_1 a0_2 a0_3 a0_4 a0_5 l0_6 l0_7 l0_8 = some r) ∧ Aside0 (kq ≤ k) ∧ Aside0 (w'.heap[gb272]? = some (.cells #[.int .i64 a0_0, .string a0_1, .string a0_2, .int .i64 a0_3, .int .i64 a0_4, .int .i64 a0_5, (.slice A0_6 l0_6.length c0_6), (.slice A0_7 l0_7.length c0_7), (.slice A0_8 l0_8.length c0_8)] 30 (0, 0))) ∧ Aside0 (Below w.heap.size w w'))
 case atStart => exact ⟨(0), xR, H', ⟨Nat.le_refl _⟩, ⟨kb BK272⟩, ⟨xB HB⟩⟩
 case round =>
  clear H'
  try clear c2
  try clear p2
  obtain ⟨x3_1, rfl, HA, HK1, BK272, HB⟩ := hrel
  cases gk with
  | zero => exact absurd HA.out (by simp [spec_l9Ok.l0])
  | succ k1 =>
   have H := HA.out
   clear HA
   simp only [spec_l9Ok.l0] at H
   by_cases c3 : x3_1 < (l0_8.length : Int)
   ·rw [if_pos c3] at H
    have c3b0 := dt c3
    clear c3
    replace ⟨c4b0, H⟩ := ipd H
    replace ⟨t274, A5, H⟩ := oa H
    have hz7 := bc9 BK272
    have p273 : 0 ≤ (x3_1 : Int) := oX
    have q273 : x3_1 < (l0_8.length : Int) := oX
    obtain ⟨ad273, e273, hx273_0, hx273_1⟩ := at_T48 (hC HB HR0_8.out) x3_1 p273 q273
    cases e273
    replace ⟨p273, q273⟩ := eT p273 q273
    go_upto_if 19 with ((with_reducible refine gg ?_); refine gL 18 Tryz.func54 #[.string ((rd_T48 l0_8 x3_1).f0)] ?_; (with_reducible refine (spec_l1IsSum.calls k1 ((rd_T48 l0_8 x3_1).f0) t274 _ A5.out).mono ?_); rintro e w' ⟨rfl, ⟨nd, rfl⟩⟩; refine ⟨_, rfl, ?_⟩)
    by_cases c6 : t274 = true
    rotate_left
    ·replace c6 := bF c6
     subst c6
     try simp only [Bool.not_true, Bool.not_false]
     rw [if_neg nF] at H
     obtain rfl := oI H
     go_wp2
     go_ret
     exact ⟨xE, xB HB⟩
    subst c6
    try simp only [Bool.not_true, Bool.not_false]
    rw [if_pos rfl] at H
    have H' := am H
    clear H
    go_wp2
    go_roundg k1
    case measure => have := HK1.out; omega
    case rel => exact ⟨(wrap64 (x3_1 + 1)), xR, H', ⟨xL HK1⟩, ⟨kb BK272⟩, ⟨xB HB⟩⟩
   rw [if_neg c3] at H
   have c3b0 := df c3
   clear c3
   have H' := am H
   clear H
   have hz9 := bc9 BK272
   go_wp2
   go_loopg [4] k1 (fun kq v4 w' => ∃ (x4_2 : Int), v4 = .int .i64 x4_2 ∧ Aside0 (spec_l9Ok.l1 kq x4_2 a0_0 a0_1 a0_2 a0_3 a0_4 a0_5 l0_6 l0_7 l0_8 = some r) ∧ Aside0 (kq ≤ k1) ∧ Aside0 (w'.heap[gb272]? = some (.cells #[.int .i64 a0_0, .string a0_1, .string a0_2, .int .i64 a0_3, .int .i64 a0_4, .int .i64 a0_5, (.slice A0_6 l0_6.length c0_6), (.slice A0_7 l0_7.length c0_7), (.slice A0_8 l0_8.length c0_8)] 30 (0, 0))) ∧ Aside0 (Below w.heap.size w w'))
   case atStart => exact ⟨(0), xR, H', ⟨Nat.le_refl _⟩, ⟨kb BK272⟩, ⟨xB HB⟩⟩
   case round =>
    clear H'
    try clear c3 c3b0 hz9
    obtain ⟨x4_2, rfl, HA, HK2, BK272, HB⟩ := hrel
    cases gk with
    | zero => exact absurd HA.out (by simp [spec_l9Ok.l1])
    | succ k2 =>
     have H := HA.out
     clear HA
     simp only [spec_l9Ok.l1] at H
     by_cases c10 : x4_2 < (l0_7.length : Int)
     ·rw [if_pos c10] at H
      have c10b0 := dt c10
      clear c10
      replace ⟨c11b0, H⟩ := ipd H
      replace ⟨t276, A12, H⟩ := oa H
      have hz14 := bc9 BK272
      have p275 : 0 ≤ (x4_2 : Int) := oX
      have q275 : x4_2 < (l0_7.length : Int) := oX
      obtain ⟨ad275, e275, hx275_0, hx275_1, hx275_2⟩ := at_T93 (hC HB HR0_7.out) x4_2 p275 q275
      cases e275
      replace ⟨p275, q275⟩ := eT p275 q275
      go_upto_if 35 with ((with_reducible refine gg ?_); refine gL 34 Tryz.func55 #[.agg #[.string ((rd_T93 l0_7 x4_2).f0), .int .i64 ((rd_T93 l0_7 x4_2).f1), .int .i64 ((rd_T93 l0_7 x4_2).f2)]] ?_; (with_reducible refine (spec_l5PeakOk.calls k2 ((rd_T93 l0_7 x4_2).f0) ((rd_T93 l0_7 x4_2).f1) ((rd_T93 l0_7 x4_2).f2) t276 _ A12.out).mono ?_); rintro e w15 ⟨rfl, hb⟩; refine ⟨_, rfl, ?_⟩; replace BK272 := kP _ BK272 hb; replace HB := kH HB hb; (try clear hb))
      by_cases c13 : t276 = true
      rotate_left
      ·replace c13 := bF c13
       subst c13
       try simp only [Bool.not_true, Bool.not_false]
       rw [if_neg nF] at H
       obtain rfl := oI H
       go_wp2
       go_ret
       exact ⟨xE, xB HB⟩
      subst c13
      try simp only [Bool.not_true, Bool.not_false]
      rw [if_pos rfl] at H
      have H' := am H
      clear H
      go_wp2
      go_roundg k2
      case measure => have := HK1.out; have := HK2.out; omega
      case rel => exact ⟨(wrap64 (x4_2 + 1)), xR, H', ⟨by have := HK1.out; have := HK2.out; omega⟩, ⟨kb BK272⟩, ⟨xB HB⟩⟩
     rw [if_neg c10] at H
     have c10b0 := df c10
     clear c10
     replace ⟨t277, A18, H⟩ := oa H
     by_cases c19 : t277 = true
     rotate_left
     ·replace c19 := bF c19
      subst c19
      rw [if_neg nF] at H
      obtain rfl := oI H
      have hz41 := bc9 BK272
      go_wp2_with ((with_reducible refine gg ?_); refine gL 38 Tryz.func56 #[.int .i64 a0_0, .int .i64 0, .int .i64 19] ?_; (with_reducible refine (spec_l1In.calls a0_0 0 19 false _ A18.out).mono ?_); rintro e w' ⟨rfl, ⟨nd, rfl⟩⟩; refine ⟨_, rfl, ?_⟩)
      go_ret
      exact ⟨xE, xB HB⟩
     subst c19
     rw [if_pos rfl] at H
     replace ⟨t278, A20, H⟩ := oa H
     by_cases c21 : t278 = true
     rotate_left
     ·replace c21 := bF c21
      subst c21
      rw [if_neg nF] at H
      obtain rfl := oI H
      have hz39 := bc9 BK272
      go_wp2_with (first | ((with_reducible refine gg ?_); refine gL 38 Tryz.func56 #[.int .i64 a0_0, .int .i64 0, .int .i64 19] ?_; (with_reducible refine (spec_l1In.calls a0_0 0 19 true _ A18.out).mono ?_); rintro e w' ⟨rfl, ⟨nd, rfl⟩⟩; refine ⟨_, rfl, ?_⟩) | (go_at_call 57; (with_reducible refine (spec_l3Ok.calls k2 a0_1 a0_2 a0_3 a0_4 a0_5 false _ A20.out).mono ?_); rintro e w40 ⟨rfl, hb⟩; replace BK272 := kP _ BK272 hb; replace HB := kH HB hb; (try clear hb)))
      go_ret
      exact ⟨xE, xB HB⟩
     subst c21
     rw [if_pos rfl] at H
     replace ⟨t279, A22, H⟩ := oa H
     by_cases c23 : t279 = true
     rotate_left
     ·replace c23 := bF c23
      subst c23
      rw [if_neg nF] at H
      obtain rfl := oI H
      have hz35 := bc9 BK272
      go_wp2_with (first | ((with_reducible refine gg ?_); refine gL 38 Tryz.func56 #[.int .i64 a0_0, .int .i64 0, .int .i64 19] ?_; (with_reducible refine (spec_l1In.calls a0_0 0 19 true _ A18.out).mono ?_); rintro e w' ⟨rfl, ⟨nd, rfl⟩⟩; refine ⟨_, rfl, ?_⟩) | (go_at_call 57; (with_reducible refine (spec_l3Ok.calls k2 a0_1 a0_2 a0_3 a0_4 a0_5 true _ A20.out).mono ?_); rintro e w36 ⟨rfl, hb⟩; replace BK272 := kP _ BK272 hb; replace HB := kH HB hb; (try clear hb); have hz37 := bc9 BK272) | (go_at_call 58; (with_reducible refine (spec_l5Ok.calls k2 _ _ l0_6 false _ ?side1 ?side2 A22.out).mono ?_); (case side1 => exact cb HR0_6 HB); (case side2 => exact HC0_6.out); rintro e w38 ⟨rfl, hb⟩; replace BK272 := kP _ BK272 hb; replace HB := kH HB hb; (try clear hb)))
      go_ret
      exact ⟨xE, xB HB⟩
     subst c23
     rw [if_pos rfl] at H
     by_cases c24 : (l0_8.length : Int) ≤ 8
     ·rw [if_pos c24] at H
      have c24b0 := dt c24
      have c24b1 : decide (l0_8.length ≤ 8) = true := decide_eq_true (by omega)
      clear c24
      obtain rfl := oI H
      have hz25 := bc9 BK272
      go_wp2_with (first | ((with_reducible refine gg ?_); refine gL 38 Tryz.func56 #[.int .i64 a0_0, .int .i64 0, .int .i64 19] ?_; (with_reducible refine (spec_l1In.calls a0_0 0 19 true _ A18.out).mono ?_); rintro e w' ⟨rfl, ⟨nd, rfl⟩⟩; refine ⟨_, rfl, ?_⟩) | (go_at_call 57; (with_reducible refine (spec_l3Ok.calls k2 a0_1 a0_2 a0_3 a0_4 a0_5 true _ A20.out).mono ?_); rintro e w26 ⟨rfl, hb⟩; replace BK272 := kP _ BK272 hb; replace HB := kH HB hb; (try clear hb); have hz27 := bc9 BK272) | (go_at_call 58; (with_reducible refine (spec_l5Ok.calls k2 _ _ l0_6 true _ ?side1 ?side2 A22.out).mono ?_); (case side1 => exact cb HR0_6 HB); (case side2 => exact HC0_6.out); rintro e w28 ⟨rfl, hb⟩; replace BK272 := kP _ BK272 hb; replace HB := kH HB hb; (try clear hb); have hz29 := bc9 BK272))
      go_ret
      exact ⟨xE, xB HB⟩
     rw [if_neg c24] at H
     have c24b0 := df c24
     have c24b1 : decide (l0_8.length ≤ 8) = false := decide_eq_false (by omega)
     clear c24
     obtain rfl := oI H
     have hz30 := bc9 BK272
     go_wp2_with (first | ((with_reducible refine gg ?_); refine gL 38 Tryz.func56 #[.int .i64 a0_0, .int .i64 0, .int .i64 19] ?_; (with_reducible refine (spec_l1In.calls a0_0 0 19 true _ A18.out).mono ?_); rintro e w' ⟨rfl, ⟨nd, rfl⟩⟩; refine ⟨_, rfl, ?_⟩) | (go_at_call 57; (with_reducible refine (spec_l3Ok.calls k2 a0_1 a0_2 a0_3 a0_4 a0_5 true _ A20.out).mono ?_); rintro e w31 ⟨rfl, hb⟩; replace BK272 := kP _ BK272 hb; replace HB := kH HB hb; (try clear hb); have hz32 := bc9 BK272) | (go_at_call 58; (with_reducible refine (spec_l5Ok.calls k2 _ _ l0_6 true _ ?side1 ?side2 A22.out).mono ?_); (case side1 => exact cb HR0_6 HB); (case side2 => exact HC0_6.out); rintro e w33 ⟨rfl, hb⟩; replace BK272 := kP _ BK272 hb; replace HB := kH HB hb; (try clear hb); have hz34 := bc9 BK272))
     go_ret
     exact ⟨xE, xB HB⟩

end Go.Proofs.YtgjljbaadglpnaaGreatDoor.PFnPaidGet
