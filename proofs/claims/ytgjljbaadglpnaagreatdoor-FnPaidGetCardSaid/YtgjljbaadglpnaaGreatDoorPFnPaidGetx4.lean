/- Functions of the program and what each answers: the kit's print, shortened (wip/press2.py). -/
import Derived.Test.YtgjljbaadglpnaaGreatDoorPFnPaidGetx0
namespace Go.Proofs.YtgjljbaadglpnaaGreatDoor.PFnPaidGet
open Go.Proofs.YtgjljbaadglpnaaGreatDoor.Sq Go.RowKit Go.Proofs.YtgjljbaadglpnaaGreatDoorW.PrintWords Go.Proofs.YtgjljbaadglpnaaGreatDoorW.PrintLast Go.Proofs.YtgjljbaadglpnaaGreatDoorW.PrintMore
open Kd
set_option linter.unusedVariables false
set_option linter.unusedSimpArgs false
set_option maxHeartbeats 64000000
set_option maxRecDepth 100000
theorem eqA24 (d : Nat) (w : World) (x0 y0 : ByteArray) (x1 y1 : ByteArray) (x2 y2 : Int) (x3 y3 : Int) (x4 y4 : Int) :
  (Op.equalIn (d + 2) 24 (.agg #[.string x0, .string x1, .int .i64 x2, .int .i64 x3, .int .i64 x4]) (.agg #[.string y0, .string y1, .int .i64 y2, .int .i64 y3, .int .i64 y4])).run Tryz.prog w = .ok (x0.toList == y0.toList && (x1.toList == y1.toList && (x2 == y2 && (x3 == y3 && (x4 == y4))))) w := by
 refine eqA_of Tryz.underlying24 (by kernel_rfl) ?_
 refine eqf_cons (by rfl) (by go_simp; rfl) (by go_simp; rfl) (by go_simp) ?_
 refine eqf_cons (by rfl) (by go_simp; rfl) (by go_simp; rfl) (by go_simp) ?_
 refine eqf_cons (by rfl) (by go_simp; rfl) (by go_simp; rfl) (by go_simp) ?_
 refine eqf_cons (by rfl) (by go_simp; rfl) (by go_simp; rfl) (by go_simp) ?_
 exact eqf_last (by rfl) (by go_simp; rfl) (by go_simp; rfl) (by go_simp)
open Kd
set_option linter.unusedVariables false
set_option linter.unusedSimpArgs false
set_option maxHeartbeats 64000000
set_option maxRecDepth 100000
theorem eqA48 (d : Nat) (w : World) (x0 y0 : ByteArray) (x1 y1 : Bool) :
  (Op.equalIn (d + 2) 48 (.agg #[.string x0, .bool x1]) (.agg #[.string y0, .bool y1])).run Tryz.prog w = .ok (x0.toList == y0.toList && (x1 == y1)) w := by
 refine eqA_of Tryz.underlying48 (by kernel_rfl) ?_
 refine eqf_cons (by rfl) (by go_simp; rfl) (by go_simp; rfl) (by go_simp) ?_
 exact eqf_last (by rfl) (by go_simp; rfl) (by go_simp; rfl) (by go_simp)
open Kd
set_option linter.unusedVariables false
set_option linter.unusedSimpArgs false
set_option maxHeartbeats 64000000
set_option maxRecDepth 100000
theorem eqA93 (d : Nat) (w : World) (x0 y0 : ByteArray) (x1 y1 : Int) (x2 y2 : Int) :
  (Op.equalIn (d + 2) 93 (.agg #[.string x0, .int .i64 x1, .int .i64 x2]) (.agg #[.string y0, .int .i64 y1, .int .i64 y2])).run Tryz.prog w = .ok (x0.toList == y0.toList && (x1 == y1 && (x2 == y2))) w := by
 refine eqA_of Tryz.underlying93 (by kernel_rfl) ?_
 refine eqf_cons (by rfl) (by go_simp; rfl) (by go_simp; rfl) (by go_simp) ?_
 refine eqf_cons (by rfl) (by go_simp; rfl) (by go_simp; rfl) (by go_simp) ?_
 exact eqf_last (by rfl) (by go_simp; rfl) (by go_simp; rfl) (by go_simp)
open Kd
set_option linter.unusedVariables false
set_option linter.unusedSimpArgs false
set_option maxHeartbeats 64000000
set_option maxRecDepth 100000
def impl_in.f (a0 : Int) (a1 : Int) (a2 : Int) : Option (Bool) := if a0 ≥ a1 then (some (decide (a0 ≤ a2))) else (some false)
theorem impl_in.calls (a0 : Int) (a1 : Int) (a2 : Int) (r : Bool) (w : World) (h : impl_in.f a0 a1 a2 = some r) :
  Calls Tryz.prog 33 #[.int .i64 a0, .int .i64 a1, .int .i64 a2] w fun e w' => e = .returned (.bool r) ∧ Drawn0 w w' := by
 have H : (if a0 ≥ a1 then (some (decide (a0 ≤ a2))) else (some false)) = some r := h
 clear h
 by_cases c4 : a0 ≥ a1
 ·rw [if_pos c4] at H
  have c4b0 := dt c4
  clear c4
  obtain rfl := oI H
  go_enter Tryz.func33, Tryz.ntmps33
  go_wp2
  go_ret
  exact ⟨xR, xW⟩
 rw [if_neg c4] at H
 have c4b0 := df c4
 clear c4
 obtain rfl := oI H
 go_enter Tryz.func33, Tryz.ntmps33
 go_wp2
 go_ret
 exact ⟨xR, xW⟩
def impl_isSum.l0 : Nat → ByteArray → Int → Option (Bool)
 | 0, _, _ => none
 | k + 1, x0, x3 => if x3 < (x0.size : Int) then (if 0 ≤ x3 then ((impl_in.f (wrap64 (bt x0 x3)) 48 57).bind fun t101 => (if t101 = true then (impl_isSum.l0 k x0 (wrap64 (x3 + 1))) else ((impl_in.f (wrap64 (bt x0 x3)) 97 102).bind fun t102 => (if t102 = true then (impl_isSum.l0 k x0 (wrap64 (x3 + 1))) else (some false))))) else (none)) else (some ((x0.size : Int) == 16))
def impl_isSum.f (k : Nat) (a0 : ByteArray) : Option (Bool) := impl_isSum.l0 k a0 0
theorem impl_isSum.calls (k : Nat) (a0 : ByteArray) (r : Bool) (w : World) (h : impl_isSum.f k a0 = some r) :
  Calls Tryz.prog 52 #[.string a0] w fun e w' => e = .returned (.bool r) ∧ Drawn0 w w' := by
 have H : (impl_isSum.l0 k a0 0) = some r := h
 clear h
 have H' := am H
 clear H
 go_enter Tryz.func52, Tryz.ntmps52
 go_wp2
 go_loopg [3] k (fun kq v3 w' => ∃ (x3_1 : Int), v3 = .int .i64 x3_1 ∧ Aside0 (impl_isSum.l0 kq a0 x3_1 = some r) ∧ Aside0 (kq ≤ k) ∧ Drawn0 w w')
 case atStart => exact ⟨(0), xR, H', ⟨Nat.le_refl _⟩, xW⟩
 case round =>
  clear H'
  obtain ⟨x3_1, rfl, HA, HK1, ⟨m1, rfl⟩⟩ := hrel
  cases gk with
  | zero => exact absurd HA.out (by simp [impl_isSum.l0])
  | succ k1 =>
   have H := HA.out
   clear HA
   simp only [impl_isSum.l0] at H
   by_cases c2 : x3_1 < (a0.size : Int)
   rotate_left
   ·rw [if_neg c2] at H
    have c2b0 := df c2
    clear c2
    obtain rfl := oI H
    go_wp2
    go_ret
    exact ⟨xR, xW⟩
   rw [if_pos c2] at H
   have c2b0 := dt c2
   clear c2
   replace ⟨c3b0, H⟩ := ipd H
   replace ⟨t101, A5, H⟩ := oa H
   by_cases c6 : t101 = true
   ·subst c6
    rw [if_pos rfl] at H
    have H' := am H
    clear H
    have p4 : 0 ≤ (x3_1 : Int) := oX
    have q4 : x3_1 < (a0.size : Int) := oX
    have hx4 := bt_at a0 x3_1
    replace ⟨p4, q4⟩ := eT p4 q4
    go_wp2_with ((with_reducible refine gg ?_); refine gL 14 Tryz.func33 #[.int .i64 (wrap64 (bt a0 x3_1)), .int .i64 48, .int .i64 57] ?_; (with_reducible refine (impl_in.calls (wrap64 (bt a0 x3_1)) 48 57 true _ A5.out).mono ?_); rintro e w' ⟨rfl, ⟨nd, rfl⟩⟩; refine ⟨_, rfl, ?_⟩)
    go_roundg k1
    case measure => have := HK1.out; omega
    case rel => exact ⟨(wrap64 (x3_1 + 1)), xR, H', ⟨xL HK1⟩, xW⟩
   replace c6 := bF c6
   subst c6
   rw [if_neg nF] at H
   replace ⟨t102, A8, H⟩ := oa H
   have p4 : 0 ≤ (x3_1 : Int) := oX
   have q4 : x3_1 < (a0.size : Int) := oX
   have hx4 := bt_at a0 x3_1
   replace ⟨p4, q4⟩ := eT p4 q4
   go_upto_if 23 with (first | ((with_reducible refine gg ?_); refine gL 14 Tryz.func33 #[.int .i64 (wrap64 (bt a0 x3_1)), .int .i64 48, .int .i64 57] ?_; (with_reducible refine (impl_in.calls (wrap64 (bt a0 x3_1)) 48 57 false _ A5.out).mono ?_); rintro e w' ⟨rfl, ⟨nd, rfl⟩⟩; refine ⟨_, rfl, ?_⟩; have p7 : 0 ≤ (x3_1 : Int) := oX; have q7 : x3_1 < (a0.size : Int) := oX; have hx7 := bt_at a0 x3_1; replace ⟨p7, q7⟩ := eT p7 q7) | (go_at_call 33; (with_reducible refine (impl_in.calls (wrap64 (bt a0 x3_1)) 97 102 t102 _ A8.out).mono ?_); rintro e w' ⟨rfl, ⟨nd, rfl⟩⟩))
   by_cases c9 : t102 = true
   rotate_left
   ·replace c9 := bF c9
    subst c9
    try simp only [Bool.not_true, Bool.not_false]
    rw [if_neg nF] at H
    obtain rfl := oI H
    go_wp2
    go_ret
    exact ⟨xR, xW⟩
   subst c9
   try simp only [Bool.not_true, Bool.not_false]
   rw [if_pos rfl] at H
   have H' := am H
   clear H
   go_wp2
   go_roundg k1
   case measure => have := HK1.out; omega
   case rel => exact ⟨(wrap64 (x3_1 + 1)), xR, H', ⟨xL HK1⟩, xW⟩
def impl_headOk.f (k : Nat) (a0_0 : ByteArray) (a0_1 : ByteArray) (a0_2 : Int) (a0_3 : Int) (a0_4 : Int) : Option (Bool) := (impl_isSum.f k a0_0).bind fun t104 => (if t104 = true then ((impl_isSum.f k a0_1).bind fun t105 => (if t105 = true then ((impl_in.f a0_2 0 99999).bind fun t106 => (if t106 = true then ((impl_in.f a0_3 1 8).bind fun t107 => (if t107 = true then ((impl_in.f a0_4 0 400).bind fun t108 => (some t108)) else (some false))) else (some false))) else (some false))) else (some false))
theorem impl_headOk.calls (k : Nat) (a0_0 : ByteArray) (a0_1 : ByteArray) (a0_2 : Int) (a0_3 : Int) (a0_4 : Int) (r : Bool) (w : World) (h : impl_headOk.f k a0_0 a0_1 a0_2 a0_3 a0_4 = some r) :
  Calls Tryz.prog 49 #[.agg #[.string a0_0, .string a0_1, .int .i64 a0_2, .int .i64 a0_3, .int .i64 a0_4]] w fun e w' => e = .returned (.bool r) ∧ Below w.heap.size w w' := by
 have hu24 := Tryz.underlying24
 have HB := am (Below.refl w.heap.size w)
 have H : ((impl_isSum.f k a0_0).bind fun t104 => (if t104 = true then ((impl_isSum.f k a0_1).bind fun t105 => (if t105 = true then ((impl_in.f a0_2 0 99999).bind fun t106 => (if t106 = true then ((impl_in.f a0_3 1 8).bind fun t107 => (if t107 = true then ((impl_in.f a0_4 0 400).bind fun t108 => (some t108)) else (some false))) else (some false))) else (some false))) else (some false))) = some r := h
 clear h
 replace ⟨t104, A2, H⟩ := oa H
 go_enter Tryz.func49, Tryz.ntmps49
 go_upto_region 1 with ((with_reducible refine gg ?_); refine bE 1 #[.string a0_0, .string a0_1, .int .i64 a0_2, .int .i64 a0_3, .int .i64 a0_4] 24 ?_; intro gb103 hg w11 hbox hb; have BK103 := am (hbox); have GW103 := zB hg HB; have GE103 := zB hg HB; replace HB := kH HB hb; clear hb hbox hg; have hz12 := bc5 BK103)
 by_cases c3 : t104 = true
 rotate_left
 ·replace c3 := bF c3
  subst c3
  try simp only [Bool.not_true, Bool.not_false]
  rw [if_neg nF] at H
  obtain rfl := oI H
  go_wp2_with ((with_reducible refine gg ?_); refine gL 5 Tryz.func52 #[.string a0_0] ?_; (with_reducible refine (impl_isSum.calls k a0_0 false _ A2.out).mono ?_); rintro e w' ⟨rfl, ⟨nd, rfl⟩⟩; refine ⟨_, rfl, ?_⟩)
  go_ret
  exact ⟨xE, xB HB⟩
 subst c3
 try simp only [Bool.not_true, Bool.not_false]
 rw [if_pos rfl] at H
 replace ⟨t105, A4, H⟩ := oa H
 by_cases c5 : t105 = true
 rotate_left
 ·replace c5 := bF c5
  subst c5
  rw [if_neg nF] at H
  obtain rfl := oI H
  go_wp2_with (first | ((with_reducible refine gg ?_); refine gL 5 Tryz.func52 #[.string a0_0] ?_; (with_reducible refine (impl_isSum.calls k a0_0 true _ A2.out).mono ?_); rintro e w' ⟨rfl, ⟨nd, rfl⟩⟩; refine ⟨_, rfl, ?_⟩) | (go_at_call 52; (with_reducible refine (impl_isSum.calls k a0_1 false _ A4.out).mono ?_); rintro e w' ⟨rfl, ⟨nd, rfl⟩⟩))
  go_ret
  exact ⟨xE, xB HB⟩
 subst c5
 rw [if_pos rfl] at H
 replace ⟨t106, A6, H⟩ := oa H
 by_cases c7 : t106 = true
 rotate_left
 ·replace c7 := bF c7
  subst c7
  rw [if_neg nF] at H
  obtain rfl := oI H
  go_wp2_with (first | ((with_reducible refine gg ?_); refine gL 5 Tryz.func52 #[.string a0_0] ?_; (with_reducible refine (impl_isSum.calls k a0_0 true _ A2.out).mono ?_); rintro e w' ⟨rfl, ⟨nd, rfl⟩⟩; refine ⟨_, rfl, ?_⟩) | (go_at_call 52; (with_reducible refine (impl_isSum.calls k a0_1 true _ A4.out).mono ?_); rintro e w' ⟨rfl, ⟨nd, rfl⟩⟩) | (go_at_call 33; (with_reducible refine (impl_in.calls a0_2 0 99999 false _ A6.out).mono ?_); rintro e w' ⟨rfl, ⟨nd, rfl⟩⟩))
  go_ret
  exact ⟨xE, xB HB⟩
 subst c7
 rw [if_pos rfl] at H
 replace ⟨t107, A8, H⟩ := oa H
 by_cases c9 : t107 = true
 rotate_left
 ·replace c9 := bF c9
  subst c9
  rw [if_neg nF] at H
  obtain rfl := oI H
  go_wp2_with (first | ((with_reducible refine gg ?_); refine gL 5 Tryz.func52 #[.string a0_0] ?_; (with_reducible refine (impl_isSum.calls k a0_0 true _ A2.out).mono ?_); rintro e w' ⟨rfl, ⟨nd, rfl⟩⟩; refine ⟨_, rfl, ?_⟩) | (go_at_call 52; (with_reducible refine (impl_isSum.calls k a0_1 true _ A4.out).mono ?_); rintro e w' ⟨rfl, ⟨nd, rfl⟩⟩) | (go_at_call 33; (with_reducible refine (impl_in.calls a0_2 0 99999 true _ A6.out).mono ?_); rintro e w' ⟨rfl, ⟨nd, rfl⟩⟩) | (go_at_call 33; (with_reducible refine (impl_in.calls a0_3 1 8 false _ A8.out).mono ?_); rintro e w' ⟨rfl, ⟨nd, rfl⟩⟩))
  go_ret
  exact ⟨xE, xB HB⟩
 subst c9
 rw [if_pos rfl] at H
 replace ⟨t108, A10, H⟩ := oa H
 obtain rfl := oI H
 go_wp2_with (first | ((with_reducible refine gg ?_); refine gL 5 Tryz.func52 #[.string a0_0] ?_; (with_reducible refine (impl_isSum.calls k a0_0 true _ A2.out).mono ?_); rintro e w' ⟨rfl, ⟨nd, rfl⟩⟩; refine ⟨_, rfl, ?_⟩) | (go_at_call 52; (with_reducible refine (impl_isSum.calls k a0_1 true _ A4.out).mono ?_); rintro e w' ⟨rfl, ⟨nd, rfl⟩⟩) | (go_at_call 33; (with_reducible refine (impl_in.calls a0_2 0 99999 true _ A6.out).mono ?_); rintro e w' ⟨rfl, ⟨nd, rfl⟩⟩) | (go_at_call 33; (with_reducible refine (impl_in.calls a0_3 1 8 true _ A8.out).mono ?_); rintro e w' ⟨rfl, ⟨nd, rfl⟩⟩) | (go_at_call 33; (with_reducible refine (impl_in.calls a0_4 0 400 t108 _ A10.out).mono ?_); rintro e w' ⟨rfl, ⟨nd, rfl⟩⟩))
 go_ret
 exact ⟨xE, xB HB⟩
def impl_peakOk.f (k : Nat) (a0_0 : ByteArray) (a0_1 : Int) (a0_2 : Int) : Option (Bool) := (impl_isSum.f k a0_0).bind fun t110 => (if t110 = true then ((impl_in.f a0_2 1 20).bind fun t111 => (if t111 = true then ((impl_in.f a0_1 a0_2 (wrap64 (a0_2 * 8))).bind fun t112 => (some t112)) else (some false))) else (some false))
theorem impl_peakOk.calls (k : Nat) (a0_0 : ByteArray) (a0_1 : Int) (a0_2 : Int) (r : Bool) (w : World) (h : impl_peakOk.f k a0_0 a0_1 a0_2 = some r) :
  Calls Tryz.prog 51 #[.agg #[.string a0_0, .int .i64 a0_1, .int .i64 a0_2]] w fun e w' => e = .returned (.bool r) ∧ Below w.heap.size w w' := by
 have hu93 := Tryz.underlying93
 have HB := am (Below.refl w.heap.size w)
 have H : ((impl_isSum.f k a0_0).bind fun t110 => (if t110 = true then ((impl_in.f a0_2 1 20).bind fun t111 => (if t111 = true then ((impl_in.f a0_1 a0_2 (wrap64 (a0_2 * 8))).bind fun t112 => (some t112)) else (some false))) else (some false))) = some r := h
 clear h
 replace ⟨t110, A2, H⟩ := oa H
 go_enter Tryz.func51, Tryz.ntmps51
 go_upto_region 1 with ((with_reducible refine gg ?_); refine bE 1 #[.string a0_0, .int .i64 a0_1, .int .i64 a0_2] 93 ?_; intro gb109 hg w7 hbox hb; have BK109 := am (hbox); have GW109 := zB hg HB; have GE109 := zB hg HB; replace HB := kH HB hb; clear hb hbox hg; have hz8 := bc3 BK109)
 by_cases c3 : t110 = true
 rotate_left
 ·replace c3 := bF c3
  subst c3
  try simp only [Bool.not_true, Bool.not_false]
  rw [if_neg nF] at H
  obtain rfl := oI H
  go_wp2_with ((with_reducible refine gg ?_); refine gL 5 Tryz.func52 #[.string a0_0] ?_; (with_reducible refine (impl_isSum.calls k a0_0 false _ A2.out).mono ?_); rintro e w' ⟨rfl, ⟨nd, rfl⟩⟩; refine ⟨_, rfl, ?_⟩)
  go_ret
  exact ⟨xE, xB HB⟩
 subst c3
 try simp only [Bool.not_true, Bool.not_false]
 rw [if_pos rfl] at H
 replace ⟨t111, A4, H⟩ := oa H
 by_cases c5 : t111 = true
 rotate_left
 ·replace c5 := bF c5
  subst c5
  rw [if_neg nF] at H
  obtain rfl := oI H
  go_wp2_with (first | ((with_reducible refine gg ?_); refine gL 5 Tryz.func52 #[.string a0_0] ?_; (with_reducible refine (impl_isSum.calls k a0_0 true _ A2.out).mono ?_); rintro e w' ⟨rfl, ⟨nd, rfl⟩⟩; refine ⟨_, rfl, ?_⟩) | (go_at_call 33; (with_reducible refine (impl_in.calls a0_2 1 20 false _ A4.out).mono ?_); rintro e w' ⟨rfl, ⟨nd, rfl⟩⟩))
  go_ret
  exact ⟨xE, xB HB⟩
 subst c5
 rw [if_pos rfl] at H
 replace ⟨t112, A6, H⟩ := oa H
 obtain rfl := oI H
 go_wp2_with (first | ((with_reducible refine gg ?_); refine gL 5 Tryz.func52 #[.string a0_0] ?_; (with_reducible refine (impl_isSum.calls k a0_0 true _ A2.out).mono ?_); rintro e w' ⟨rfl, ⟨nd, rfl⟩⟩; refine ⟨_, rfl, ?_⟩) | (go_at_call 33; (with_reducible refine (impl_in.calls a0_2 1 20 true _ A4.out).mono ?_); rintro e w' ⟨rfl, ⟨nd, rfl⟩⟩) | (go_at_call 33; (with_reducible refine (impl_in.calls a0_1 a0_2 (wrap64 (a0_2 * 8)) t112 _ A6.out).mono ?_); rintro e w' ⟨rfl, ⟨nd, rfl⟩⟩))
 go_ret
 exact ⟨xE, xB HB⟩

end Go.Proofs.YtgjljbaadglpnaaGreatDoor.PFnPaidGet
