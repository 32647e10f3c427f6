/- The walk of RicePut: it comes to what the fuelled function 'rp' says. Conditions: those in each theorem. -/
import Derived.Test.YtipmgmiooanghaaRw
import Derived.Deep.LoopGhost
namespace Go.Proofs.Ytipmgmiooanghaa.Rice
open Go Go.RowKit Go.Proofs.YtipmgmiooanghaaW.PrintWords Go.Proofs.YtipmgmiooanghaaW.PrintLast Go.Proofs.YtipmgmiooanghaaW.PrintMore
set_option linter.unusedVariables false
/-- The program's 'in'. -/
theorem in_any (a b c : Int) (w : World) : Calls Try.prog 31 #[.int .i64 a, .int .i64 b, .int .i64 c] w fun e w' => e = .returned (.bool (decide (b ≤ a ∧ a ≤ c))) ∧ w = w' := by
  by_cases h : b ≤ a
  · have h1 : decide (b ≤ a) = true := decide_eq_true h
    have e : decide (b ≤ a ∧ a ≤ c) = decide (a ≤ c) := decide_eq_decide.2 ⟨fun k => k.2, fun k => ⟨h, k⟩⟩
    rw [e]
    clear e h
    go_enter Try.func31, Try.ntmps31
    go_wp2
    go_ret
    exact ⟨rfl, rfl⟩
  · have h1 : decide (b ≤ a) = false := decide_eq_false h
    have e : decide (b ≤ a ∧ a ≤ c) = false := decide_eq_false fun k => h k.1
    rw [e]
    clear e h
    go_enter Try.func31, Try.ntmps31
    go_wp2
    go_ret
    exact ⟨rfl, rfl⟩
theorem in_yes {a b c : Int} (h : b ≤ a ∧ a ≤ c) (w : World) : Calls Try.prog 31 #[.int .i64 a, .int .i64 b, .int .i64 c] w fun e w' => e = .returned (.bool true) ∧ w = w' := by
  have := in_any a b c w; rwa [decide_eq_true h] at this
theorem in_no {a b c : Int} (h : ¬ (b ≤ a ∧ a ≤ c)) (w : World) : Calls Try.prog 31 #[.int .i64 a, .int .i64 b, .int .i64 c] w fun e w' => e = .returned (.bool false) ∧ w = w' := by
  have := in_any a b c w; rwa [decide_eq_false h] at this
/-- The bytes and how many bits fit together, and are not too many. -/
def fits (l : List Int) (m : Int) : Prop := 0 ≤ m ∧ m ≤ 1000000000 ∧ (l.length : Int) = (m + 7) / 8
instance (l : List Int) (m : Int) : Decidable (fits l m) := by unfold fits; exact inferInstance
mutual
/-- RicePut from the head of the loop over the numbers on. -/
def rp0 : Nat → List Int → Int → Int → List Int → Int → Option ByteArray
  | 0, _, _, _, _, _ => none
  | k + 1, xs, b, i, l, m => if i < (xs.length : Int) then (if 0 ≤ i then (if 0 ≤ rd xs i ∧ rd xs i ≤ 60000 then rp1 k xs b i (rd xs i) (rd xs i / 2 ^ b.toNat) l m else some (⟨#[]⟩ : ByteArray)) else none) else some (strOfNums l)
/-- From the head of the loop over the ones on. -/
def rp1 : Nat → List Int → Int → Int → Int → Int → List Int → Int → Option ByteArray
  | 0, _, _, _, _, _, _, _ => none
  | k + 1, xs, b, i, n, q, l, m => if fits l m then (if q > 0 then rp1 k xs b i n (q - 1) (putL l m true) (m + 1) else rp2 k xs b i n (b - 1) (putL l m false) (m + 1)) else none
/-- From the head of the loop over the rest's bits on. -/
def rp2 : Nat → List Int → Int → Int → Int → Int → List Int → Int → Option ByteArray
  | 0, _, _, _, _, _, _, _ => none
  | k + 1, xs, b, i, n, j, l, m => if j ≥ 0 then (if fits l m then rp2 k xs b i n (j - 1) (putL l m (Go.bits .and .i64 (n / 2 ^ j.toNat) 1 == 1)) (m + 1) else none) else rp0 k xs b (i + 1) l m
end
theorem bo_new (w : World) : Bo (w.alloc (.cells #[.slice none 0 0, .int .i64 0] 47)) w.heap.size w.heap.size [] 0 :=
  ⟨_, heap_alloc_new w _, Nat.le_refl _, Kd.R_nil _ _ _ _ _⟩
theorem div_small {n : Int} (h : 0 ≤ n ∧ n ≤ 60000) (b : Int) : n / 2 ^ b.toNat ≤ 60000 :=
  Int.le_trans (Int.ediv_le_self _ h.1) h.2
theorem own_str {w : World} {base : Nat} {v : Value} {l : List Int} (h : Kd.R (Kd.int .u8) 5 w base (fun _ => True) v l) : (convert 27 9 v).run Try.prog w = .ok (.string (strOfNums l)) w :=
  own_string (P := Try.prog) Try.underlying27 Try.underlying5 Try.underlying9 (Kd.own_of_R h)
set_option maxHeartbeats 8000000 in
set_option maxRecDepth 100000 in
theorem rp_calls (k : Nat) (A0 : Option Addr) (c0 : Nat) (xs : List Int) (b : Int) (r : ByteArray) (w : World) (hr0 : Kd.C (Kd.int .i64) w A0 xs.length xs) (hc0 : xs.length ≤ c0) (hl40 : xs.length ≤ 40) (hb0 : 0 ≤ b) (hb8 : b ≤ 8)
    (h : rp0 k xs b 0 [] 0 = some r) :
    Calls Try.prog 12 #[.slice A0 xs.length c0, .int .i64 b] w fun e w' => e = .returned (.string r) ∧ Below w.heap.size w w' := by
  have HR0 := Aside0.mk hr0
  have H' := Aside0.mk h
  have hlt40 : decide (40 < (xs.length : Int)) = false := decide_eq_false (by omega)
  clear hr0 h hc0
  go_enter Try.func12, Try.ntmps12
  go_wp2_with (first | (go_at_call 31; refine (in_yes ⟨hb0, hb8⟩ _).mono ?_; rintro e w' ⟨rfl, rfl⟩))
  go_loopg [22] k (fun kq v22 w' => ∃ (i : Int) (l : List Int) (m : Int), v22 = .int .i64 i ∧ Aside0 (rp0 kq xs b i l m = some r) ∧ Aside0 (kq ≤ k) ∧ Aside0 (Bo w' w.heap.size w.heap.size l m) ∧ Aside0 (Below w.heap.size w w'))
  case atStart => exact ⟨0, [], 0, rfl, H', ⟨Nat.le_refl _⟩, ⟨bo_new w⟩, ⟨below_alloc (Below.refl _ _) _⟩⟩
  case round =>
    clear H'
    obtain ⟨i, l, m, rfl, HA, HK1, HO, HB⟩ := hrel
    cases gk with
    | zero => exact absurd HA.out (by simp [rp0])
    | succ k1 =>
      have H := HA.out
      clear HA
      simp only [rp0] at H
      by_cases c6 : i < (xs.length : Int)
      · rw [if_pos c6] at H
        by_cases c7 : 0 ≤ i
        · rw [if_pos c7] at H
          obtain ⟨ad, e, hx⟩ := Kd.at_int (Kd.C_below HR0.out HB.out) i c7 c6
          subst e
          have c6b : decide (i < (xs.length : Int)) = true := decide_eq_true c6
          have i40 : i ≤ 40 := by omega
          by_cases c8 : 0 ≤ rd xs i ∧ rd xs i ≤ 60000
          · rw [if_pos c8] at H
            have hq := div_small c8 b
            generalize rd xs i = n at *
            have H' := Aside0.mk H
            clear H
            obtain ⟨hn0, hn1⟩ := c8
            go_wp2_with (first | (go_at_call 31; refine (in_yes ⟨hn0, hn1⟩ _).mono ?_; rintro e w' ⟨rfl, rfl⟩))
            clear hx
            go_loopg [8] k1 (fun kq v8 w' => ∃ (q : Int) (l : List Int) (m : Int), v8 = .int .i64 q ∧ q ≤ 60000 ∧ Aside0 (rp1 kq xs b i n q l m = some r) ∧ Aside0 (kq ≤ k1) ∧ Aside0 (Bo w' w.heap.size w.heap.size l m) ∧ Aside0 (Below w.heap.size w w'))
            case atStart => exact ⟨n / 2 ^ b.toNat, l, m, rfl, hq, H', ⟨Nat.le_refl _⟩, HO, HB⟩
            case round =>
              clear H' hq HO HB
              obtain ⟨q, l, m, rfl, hq, HA, HK2, HO, HB⟩ := hrel
              cases gk with
              | zero => exact absurd HA.out (by simp [rp1])
              | succ k2 =>
                have H := HA.out
                clear HA
                simp only [rp1] at H
                by_cases c9 : fits l m
                · rw [if_pos c9] at H
                  have F9 := Aside0.mk c9
                  clear c9
                  by_cases c10 : q > 0
                  · rw [if_pos c10] at H
                    have H' := Aside0.mk H
                    clear H
                    go_wp2_with (first | (go_at_call 32; refine (put_any _ _ _ _ _ true HO.out HB.out.size F9.out.1 F9.out.2.1 F9.out.2.2).mono ?_; rintro e w2 ⟨rfl, HO2, HB2⟩; have HOa := Aside0.mk HO2; have HBa := Aside0.mk (HB.out.trans HB2); clear HO2 HB2))
                    go_roundg k2
                    case measure => have := HK1.out; have := HK2.out; omega
                    case rel => exact ⟨q - 1, putL l m true, m + 1, rfl, by omega, H', ⟨by have := HK2.out; omega⟩, HOa, HBa⟩
                  · rw [if_neg c10] at H
                    have H' := Aside0.mk H
                    clear H
                    go_wp2_with (first | (go_at_call 32; refine (put_any _ _ _ _ _ false HO.out HB.out.size F9.out.1 F9.out.2.1 F9.out.2.2).mono ?_; rintro e w2 ⟨rfl, HO2, HB2⟩; have HOa := Aside0.mk HO2; have HBa := Aside0.mk (HB.out.trans HB2); clear HO2 HB2))
                    go_loopg [9] k2 (fun kq v9 w' => ∃ (j : Int) (l : List Int) (m : Int), v9 = .int .i64 j ∧ j ≤ 8 ∧ Aside0 (rp2 kq xs b i n j l m = some r) ∧ Aside0 (kq ≤ k2) ∧ Aside0 (Bo w' w.heap.size w.heap.size l m) ∧ Aside0 (Below w.heap.size w w'))
                    case atStart => exact ⟨b - 1, putL l m false, m + 1, rfl, by omega, H', ⟨Nat.le_refl _⟩, HOa, HBa⟩
                    case round =>
                      clear H' HO HB HOa HBa F9 c10 hq
                      obtain ⟨j, l, m, rfl, hj, HA, HK3, HO, HB⟩ := hrel
                      cases gk with
                      | zero => exact absurd HA.out (by simp [rp2])
                      | succ k3 =>
                        have H := HA.out
                        clear HA
                        simp only [rp2] at H
                        by_cases c11 : j ≥ 0
                        · rw [if_pos c11] at H
                          by_cases c12 : fits l m
                          · rw [if_pos c12] at H
                            have F12 := Aside0.mk c12
                            clear c12
                            have H' := Aside0.mk H
                            clear H
                            go_wp2_with (first | (go_at_call 32; refine (put_any _ _ _ _ _ _ HO.out HB.out.size F12.out.1 F12.out.2.1 F12.out.2.2).mono ?_; rintro e w2 ⟨rfl, HO2, HB2⟩; have HOa := Aside0.mk HO2; have HBa := Aside0.mk (HB.out.trans HB2); clear HO2 HB2))
                            go_roundg k3
                            case measure => have := HK1.out; have := HK2.out; have := HK3.out; omega
                            case rel => exact ⟨j - 1, _, m + 1, rfl, by omega, H', ⟨by have := HK3.out; omega⟩, HOa, HBa⟩
                          · rw [if_neg c12] at H
                            exact absurd H (by simp)
                        · rw [if_neg c11] at H
                          have H' := Aside0.mk H
                          clear H
                          go_wp2
                          go_roundg k3
                          case measure => have := HK1.out; have := HK2.out; have := HK3.out; omega
                          case rel => exact ⟨i + 1, l, m, rfl, H', ⟨by have := HK1.out; have := HK2.out; have := HK3.out; omega⟩, HO, HB⟩
                · rw [if_neg c9] at H
                  exact absurd H (by simp)
          · rw [if_neg c8] at H
            obtain rfl := Option.some.inj H
            generalize rd xs i = n at *
            go_wp2_with (first | (go_at_call 31; refine (in_no c8 _).mono ?_; rintro e w' ⟨rfl, rfl⟩))
            go_ret
            exact ⟨rfl, HB.out⟩
        · rw [if_neg c7] at H
          exact absurd H (by simp)
      · rw [if_neg c6] at H
        obtain rfl := Option.some.inj H
        have c6b : decide (i < (xs.length : Int)) = false := decide_eq_false c6
        obtain ⟨v, hblk, _, HR⟩ := HO.out
        have hH : Has wr w.heap.size v m := ⟨hblk⟩
        have hc0 := hH.c0
        have hcv := own_str HR
        clear hH hblk HR
        go_wp2
        go_ret
        exact ⟨rfl, HB.out⟩
set_option maxHeartbeats 1000000 in
theorem rp_long (A0 : Option Addr) (c0 : Nat) (xs : List Int) (b : Int) (w : World) (hl40 : 40 < xs.length) (hm : xs.length ≤ 9223372036854775807) :
    Calls Try.prog 12 #[.slice A0 xs.length c0, .int .i64 b] w fun e w' => e = .returned (.string ⟨#[]⟩) ∧ Below w.heap.size w w' := by
  have hlt40 : decide (40 < (xs.length : Int)) = true := decide_eq_true (by omega)
  have hn40 : decide (40 < xs.length) = true := decide_eq_true hl40
  go_enter Try.func12, Try.ntmps12
  go_wp2
  go_ret
  exact ⟨rfl, Below.refl _ _⟩
set_option maxHeartbeats 1000000 in
theorem rp_bits (A0 : Option Addr) (c0 : Nat) (xs : List Int) (b : Int) (w : World) (hl40 : xs.length ≤ 40) (hb : ¬ (0 ≤ b ∧ b ≤ 8)) :
    Calls Try.prog 12 #[.slice A0 xs.length c0, .int .i64 b] w fun e w' => e = .returned (.string ⟨#[]⟩) ∧ Below w.heap.size w w' := by
  have hlt40 : decide (40 < (xs.length : Int)) = false := decide_eq_false (by omega)
  go_enter Try.func12, Try.ntmps12
  go_wp2_with (first | (go_at_call 31; refine (in_no hb _).mono ?_; rintro e w' ⟨rfl, rfl⟩))
  go_ret
  exact ⟨rfl, Below.refl _ _⟩
end Go.Proofs.Ytipmgmiooanghaa.Rice
