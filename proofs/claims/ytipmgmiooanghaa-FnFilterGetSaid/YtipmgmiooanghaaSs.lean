/- The walk of the reference's l2Bits.number, l2Bits.end and l2Rice. Conditions: those in each theorem. -/
import Derived.Test.YtipmgmiooanghaaSr
import Derived.Deep.RegionWith
namespace Go.Proofs.Ytipmgmiooanghaa.Rice
open Go Go.RowKit Go.Proofs.YtipmgmiooanghaaW.PrintWords Go.Proofs.YtipmgmiooanghaaW.PrintLast Go.Proofs.YtipmgmiooanghaaW.PrintMore
set_option linter.unusedVariables false
/-- What holds of the bytes and the bits that are left, where so many bits are still to come at most. -/
def goodN (s : List Int × List Int) (n : Nat) : Prop := s.2.length < 8 ∧ (∀ x ∈ s.2, 0 ≤ x ∧ x ≤ 1) ∧ s.1.length + n ≤ 1000000000
theorem goodN.good {s : List Int × List Int} {n : Nat} (h : goodN s n) : good s := ⟨h.1, h.2.1, by have := h.2.2; omega⟩
theorem goodN.less {s : List Int × List Int} {n m : Nat} (h : goodN s n) (hm : m ≤ n) : goodN s m := ⟨h.1, h.2.1, by have := h.2.2; omega⟩
theorem goodN.sp_ {s : List Int × List Int} {n : Nat} {bit : Int} (h : goodN s (n + 1)) (hb : 0 ≤ bit ∧ bit ≤ 1) : goodN (sp s bit) n := by
  obtain ⟨h1, h2, h3⟩ := h
  unfold sp
  by_cases h8 : s.2.length + 1 = 8
  · rw [if_pos h8]
    refine ⟨by simp, by simp, ?_⟩
    rw [List.length_append, List.length_singleton]
    omega
  · rw [if_neg h8]
    refine ⟨?_, fun x hx => ?_, by show s.1.length + n ≤ 1000000000; omega⟩
    · rw [List.length_append, List.length_singleton]
      omega
    · rcases List.mem_append.1 hx with hx | hx
      · exact h2 x hx
      · rw [List.mem_singleton.1 hx]; exact hb
/-- A number in so many bits, the highest first. -/
def numS : List Int × List Int → Int → Nat → List Int × List Int
  | s, _, 0 => s
  | s, n, c + 1 => numS (sp s (n / 2 ^ c % 2)) n c
set_option maxHeartbeats 4000000 in
theorem number_any (w : World) (base g : Nat) (s : List Int × List Int) (n : Int) (c : Nat) (hB : Bt w base g s.1 s.2) (hbw : base ≤ w.heap.size) (hs : goodN s c) (hn : 0 ≤ n) (hc : c ≤ 8) :
    Calls Try.prog 49 #[.pointer (some ⟨g, 0, none⟩), .int .i64 n, .int .i64 c] w fun e w' => e = .returned (.tuple #[]) ∧ Bt w' base g (numS s n c).1 (numS s n c).2 ∧ Below base w w' := by
  have HB0 := Aside0.mk hB
  have HG0 := Aside0.mk hs
  clear hB hs
  go_enter Try.func49, Try.ntmps49
  go_wp2
  go_loopg [6] c (fun kq v6 w' => ∃ (x : Int) (s' : List Int × List Int), v6 = .int .i64 x ∧ Aside0 (x = (kq : Int) - 1) ∧ Aside0 (numS s' n kq = numS s n c) ∧ Aside0 (goodN s' kq) ∧ Aside0 (kq ≤ c) ∧ Aside0 (Bt w' base g s'.1 s'.2) ∧ Aside0 (Below base w w'))
  case atStart => exact ⟨(c : Int) - 1, s, rfl, ⟨rfl⟩, ⟨rfl⟩, HG0, ⟨Nat.le_refl _⟩, HB0, ⟨Below.refl _ _⟩⟩
  case round =>
    obtain ⟨x, s', rfl, HX, HN, HG, HK, HB, HL⟩ := hrel
    cases gk with
    | zero =>
      have hx : decide (0 ≤ x) = false := decide_eq_false (by have := HX.out; omega)
      go_wp2
      go_end0
      rw [← HN.out]
      exact ⟨rfl, HB.out, HL.out⟩
    | succ c1 =>
      have hx : decide (0 ≤ x) = true := decide_eq_true (by have := HX.out; omega)
      have hx0 : 0 ≤ x := by have := HX.out; omega
      have hx8 : x ≤ 8 := by have := HX.out; have := HK.out; omega
      have hxt : x.toNat = c1 := by have := HX.out; omega
      have HXT := Aside0.mk hxt
      have hd0 : 0 ≤ n / 2 ^ x.toNat := Int.ediv_nonneg hn (Int.le_of_lt (Int.pow_pos (by omega)))
      have hbit : 0 ≤ n / 2 ^ x.toNat % 2 ∧ n / 2 ^ x.toNat % 2 ≤ 1 := by omega
      have HBit := Aside0.mk hbit
      clear hxt hbit
      go_wp2_with (first | (go_at_call 48; refine (sput_any _ _ _ s' _ HB.out (Nat.le_trans hbw HL.out.size) HG.out.good HBit.out).mono ?_; rintro e w2 ⟨rfl, HO2, HB2⟩; have HOa := Aside0.mk HO2; have HBa := Aside0.mk (HL.out.trans HB2); clear HO2 HB2))
      go_roundg c1
      case measure => omega
      case rel =>
        refine ⟨x - 1, sp s' (n / 2 ^ x.toNat % 2), rfl, ⟨by have := HX.out; omega⟩, ⟨?_⟩, ⟨HG.out.sp_ HBit.out⟩, ⟨by have := HK.out; omega⟩, HOa, HBa⟩
        rw [← HN.out, HXT.out]
        rfl
theorem number_b (w : World) (base g : Nat) (s : List Int × List Int) (n b : Int) (hB : Bt w base g s.1 s.2) (hbw : base ≤ w.heap.size) (hs : goodN s 8) (hn : 0 ≤ n) (hb0 : 0 ≤ b) (hb8 : b ≤ 8) :
    Calls Try.prog 49 #[.pointer (some ⟨g, 0, none⟩), .int .i64 n, .int .i64 b] w fun e w' => e = .returned (.tuple #[]) ∧ Bt w' base g (numS s n b.toNat).1 (numS s n b.toNat).2 ∧ Below base w w' := by
  have h := number_any w base g s n b.toNat hB hbw (hs.less (by omega)) hn (by omega)
  rwa [Int.toNat_of_nonneg hb0] at h
theorem two_pow (b : Int) (hb0 : 0 ≤ b) (hb8 : b ≤ 8) : ∃ p : Int, (wrap64 (2 ^ b.toNat) = p ∧ IntKind.i64.wrap (2 ^ b.toNat) = p ∧ p = 2 ^ b.toNat) ∧ 1 ≤ p ∧ p ≤ 256 := by
  have : b = 0 ∨ b = 1 ∨ b = 2 ∨ b = 3 ∨ b = 4 ∨ b = 5 ∨ b = 6 ∨ b = 7 ∨ b = 8 := by omega
  refine ⟨2 ^ b.toNat, ?_⟩
  rcases this with rfl | rfl | rfl | rfl | rfl | rfl | rfl | rfl | rfl <;> decide +kernel
theorem bt_drew {w : World} {base g : Nat} {o left : List Int} (h : Bt w base g o left) : Bt w.drew base g o left := by
  obtain ⟨vo, vl, hT, hg, HO, HL⟩ := h
  exact ⟨vo, vl, ⟨hT.blk⟩, hg, Kd.R_drew HO, Kd.R_drew HL⟩
/-- Noughts, till no bits are left. -/
def endS : Nat → List Int × List Int → List Int × List Int
  | 0, s => s
  | k + 1, s => if s.2.length > 0 then endS k (sp s 0) else s
set_option maxHeartbeats 4000000 in
theorem end_any (w : World) (base g : Nat) (s : List Int × List Int) (hB : Bt w base g s.1 s.2) (hbw : base ≤ w.heap.size) (hs : goodN s 8) :
    Calls Try.prog 50 #[.pointer (some ⟨g, 0, none⟩)] w fun e w' => e = .returned (.string (strOfNums (endS 8 s).1)) ∧ Below base w w' := by
  have HB0 := Aside0.mk hB
  have HG0 := Aside0.mk hs
  clear hB hs
  go_enter Try.func50, Try.ntmps50
  go_wp2
  go_loopg [] 8 (fun kq w' => ∃ (s' : List Int × List Int), Aside0 (endS kq s' = endS 8 s) ∧ Aside0 (goodN s' kq) ∧ Aside0 (s'.2.length = 0 ∨ 8 ≤ s'.2.length + kq) ∧ Aside0 (Bt w' base g s'.1 s'.2) ∧ Aside0 (Below base w w'))
  case atStart => exact ⟨s, ⟨rfl⟩, HG0, ⟨.inr (by omega)⟩, HB0, ⟨Below.refl _ _⟩⟩
  case round =>
    obtain ⟨s', HN, HG, HK, HB, HL⟩ := hrel
    obtain ⟨vo, vl, hT, hg, HO, HLl⟩ := HB.out
    obtain ⟨A1, C1, rfl, _, _⟩ := Kd.R_reads HLl
    have hc1 := hT.c1
    by_cases h0 : s'.2.length > 0
    · have hx : decide (0 < (s'.2.length : Int)) = true := decide_eq_true (by omega)
      have hxn : decide (0 < s'.2.length) = true := decide_eq_true h0
      cases gk with
      | zero => exfalso; have := HK.out; have := HG.out.1; omega
      | succ c1 =>
        clear hT HO HLl
        go_wp2_with (first | (go_at_call 48; refine (sput_any _ _ _ s' 0 HB.out (Nat.le_trans hbw HL.out.size) HG.out.good ⟨by omega, by omega⟩).mono ?_; rintro e w2 ⟨rfl, HO2, HB2⟩; have HOa := Aside0.mk HO2; have HBa := Aside0.mk (HL.out.trans HB2); clear HO2 HB2))
        go_roundg c1
        case measure => omega
        case rel =>
          refine ⟨sp s' 0, ⟨?_⟩, ⟨HG.out.sp_ ⟨by omega, by omega⟩⟩, ⟨?_⟩, HOa, HBa⟩
          · rw [← HN.out]
            conv => rhs; unfold endS
            rw [if_pos h0]
          · have h1 := HK.out
            have h2 := HG.out.1
            unfold sp
            by_cases h8 : s'.2.length + 1 = 8
            · rw [if_pos h8]; exact .inl rfl
            · rw [if_neg h8]
              right
              simp only [List.length_append, List.length_singleton]
              omega
    · have hx : decide (0 < (s'.2.length : Int)) = false := decide_eq_false (by omega)
      have hxn : decide (0 < s'.2.length) = false := decide_eq_false h0
      have hend : endS gk s' = s' := by
        cases gk with
        | zero => rfl
        | succ c1 => unfold endS; rw [if_neg h0]
      have HE := Aside0.mk hend
      have hc0 := hT.c0
      have hcv := own_str HO
      clear hend hT HO HLl h0
      go_wp2
      go_ret
      rw [← HN.out, HE.out]
      exact ⟨rfl, HL.out⟩
mutual
/-- l2Rice from the head of the loop over the numbers on. -/
def rs0 : Nat → List Int → Int → Int → List Int × List Int → Option ByteArray
  | 0, _, _, _, _ => none
  | k + 1, xs, b, i, s => if i < (xs.length : Int) then (if 0 ≤ i then (if 0 ≤ rd xs i ∧ rd xs i ≤ 60000 then rs1 k xs b i (rd xs i / 2 ^ b.toNat) s else none) else none) else if s.1.length ≤ 100000000 then some (strOfNums (endS 8 s).1) else none
/-- From the head of the loop over the ones on. -/
def rs1 : Nat → List Int → Int → Int → Int → List Int × List Int → Option ByteArray
  | 0, _, _, _, _, _ => none
  | k + 1, xs, b, i, q, s => if s.1.length ≤ 100000000 then (if q > 0 then rs1 k xs b i (q - 1) (sp s 1) else rs0 k xs b (i + 1) (numS (sp s 0) (rd xs i % 2 ^ b.toNat) b.toNat)) else none
end
/-- What holds of the bytes and the bits that are left, whatever is still to come. -/
def fine (s : List Int × List Int) : Prop := s.2.length < 8 ∧ ∀ x ∈ s.2, 0 ≤ x ∧ x ≤ 1
theorem fine.sp_ {s : List Int × List Int} {bit : Int} (h : fine s) (hb : 0 ≤ bit ∧ bit ≤ 1) : fine (sp s bit) := by
  obtain ⟨h1, h2⟩ := h
  unfold sp
  by_cases h8 : s.2.length + 1 = 8
  · rw [if_pos h8]
    exact ⟨by simp, by simp⟩
  · rw [if_neg h8]
    refine ⟨?_, fun x hx => ?_⟩
    · rw [List.length_append, List.length_singleton]
      omega
    · rcases List.mem_append.1 hx with hx | hx
      · exact h2 x hx
      · rw [List.mem_singleton.1 hx]; exact hb
theorem sp_len (s : List Int × List Int) (bit : Int) : (sp s bit).1.length ≤ s.1.length + 1 := by
  unfold sp
  by_cases h8 : s.2.length + 1 = 8
  · rw [if_pos h8, List.length_append, List.length_singleton]; exact Nat.le_refl _
  · rw [if_neg h8]; exact Nat.le_succ _
theorem numS_fine (n : Int) (hn : 0 ≤ n) : ∀ (c : Nat) (s : List Int × List Int), fine s → fine (numS s n c)
  | 0, _, h => h
  | c + 1, s, h => numS_fine n hn c _ (h.sp_ (by have h2 : (0 : Int) ≤ 2 ^ c := Int.le_of_lt (Int.pow_pos (by omega)); have := Int.ediv_nonneg hn h2; omega))
theorem fine.goodN_ {s : List Int × List Int} (h : fine s) (hl : s.1.length ≤ 100000001) {n : Nat} (hn : n ≤ 100) : goodN s n := ⟨h.1, h.2, by omega⟩
set_option maxHeartbeats 8000000 in
set_option maxRecDepth 100000 in
theorem rs_calls (k : Nat) (A0 : Option Addr) (c0 : Nat) (xs : List Int) (b : Int) (r : ByteArray) (w : World) (hr0 : Kd.C (Kd.int .i64) w A0 xs.length xs) (hl40 : xs.length ≤ 40) (hb0 : 0 ≤ b) (hb8 : b ≤ 8) (h : rs0 k xs b 0 ([], []) = some r) :
    Calls Try.prog 30 #[.slice A0 xs.length c0, .int .i64 b] w fun e w' => e = .returned (.string r) ∧ Below w.heap.size w w' := by
  have HR0 := Aside0.mk hr0
  have H' := Aside0.mk h
  clear hr0 h
  go_enter Try.func30, Try.ntmps30
  go_wp2
  go_loopg [6] k (fun kq v6 w' => ∃ (i : Int) (s : List Int × List Int), v6 = .int .i64 i ∧ Aside0 (rs0 kq xs b i s = some r) ∧ Aside0 (kq ≤ k) ∧ Aside0 (fine s) ∧ Aside0 (Bt w' w.heap.size w.heap.size s.1 s.2) ∧ Aside0 (Below w.heap.size w w'))
  case atStart => exact ⟨0, ([], []), rfl, H', ⟨Nat.le_refl _⟩, ⟨⟨by simp, by simp⟩⟩, ⟨bt_new w⟩, ⟨below_alloc (Below.refl _ _) _⟩⟩
  case round =>
    clear H'
    obtain ⟨i, s, rfl, HA, HK1, HF, HO, HB⟩ := hrel
    cases gk with
    | zero => exact absurd HA.out (by simp [rs0])
    | succ k1 =>
      have H := HA.out
      clear HA
      simp only [rs0] at H
      by_cases c6 : i < (xs.length : Int)
      · rw [if_pos c6] at H
        by_cases c7 : 0 ≤ i
        · rw [if_pos c7] at H
          obtain ⟨ad, e, hx⟩ := Kd.at_int (Kd.C_below HR0.out HB.out) i c7 c6
          subst e
          have c6b : decide (i < (xs.length : Int)) = true := decide_eq_true c6
          have i40 : i ≤ 40 := by omega
          by_cases c8 : 0 ≤ rd xs i ∧ rd xs i ≤ 60000
          · rw [if_pos c8] at H
            have hq := div_small c8 b
            obtain ⟨n, hn⟩ : ∃ n, rd xs i = n := ⟨_, rfl⟩
            rw [hn] at hx c8 H hq
            have HN := Aside0.mk hn
            clear hn
            have H' := Aside0.mk H
            clear H
            obtain ⟨hn0, hn1⟩ := c8
            go_wp2
            clear hx
            go_loopg [7] k1 (fun kq v7 w' => ∃ (q : Int) (s : List Int × List Int), v7 = .int .i64 q ∧ q ≤ 60000 ∧ Aside0 (rs1 kq xs b i q s = some r) ∧ Aside0 (kq ≤ k1) ∧ Aside0 (fine s) ∧ Aside0 (Bt w' w.heap.size w.heap.size s.1 s.2) ∧ Aside0 (Below w.heap.size w w'))
            case atStart => exact ⟨n / 2 ^ b.toNat, s, rfl, hq, H', ⟨Nat.le_refl _⟩, HF, HO, HB⟩
            case round =>
              clear H' hq HO HB HF
              obtain ⟨q, s, rfl, hq, HA, HK2, HF, HO, HB⟩ := hrel
              cases gk with
              | zero => exact absurd HA.out (by simp [rs1])
              | succ k2 =>
                have H := HA.out
                clear HA
                simp only [rs1] at H
                by_cases c9 : s.1.length ≤ 100000000
                · rw [if_pos c9] at H
                  have F9 := Aside0.mk c9
                  clear c9
                  by_cases c10 : q > 0
                  · rw [if_pos c10] at H
                    have H' := Aside0.mk H
                    clear H
                    go_wp2_with (first | (go_at_call 48; refine (sput_any _ _ _ s 1 HO.out HB.out.size (HF.out.goodN_ (by have := F9.out; omega) (n := 1) (by omega)).good ⟨by omega, by omega⟩).mono ?_; rintro e w2 ⟨rfl, HO2, HB2⟩; have HOa := Aside0.mk HO2; have HBa := Aside0.mk (HB.out.trans HB2); clear HO2 HB2))
                    go_roundg k2
                    case measure => have := HK1.out; have := HK2.out; omega
                    case rel => exact ⟨q - 1, sp s 1, rfl, by omega, H', ⟨by have := HK2.out; omega⟩, ⟨HF.out.sp_ ⟨by omega, by omega⟩⟩, HOa, HBa⟩
                  · rw [if_neg c10] at H
                    rw [HN.out] at H
                    have H' := Aside0.mk H
                    clear H
                    go_wp2_with (first | (go_at_call 48; refine (sput_any _ _ _ s 0 HO.out HB.out.size (HF.out.goodN_ (by have := F9.out; omega) (n := 1) (by omega)).good ⟨by omega, by omega⟩).mono ?_; rintro e w2 ⟨rfl, HO2, HB2⟩; have HOa := Aside0.mk HO2; have HBa := Aside0.mk (HB.out.trans HB2); clear HO2 HB2))
                    obtain ⟨ad', e', hx⟩ := Kd.at_int (Kd.C_below HR0.out HBa.out) i c7 c6
                    rw [HN.out] at hx
                    obtain rfl : ad = ad' := by injection e'
                    clear e'
                    obtain ⟨p, hp, hp1, hp2⟩ := two_pow b hb0 hb8
                    have hpw : wrap64 (2 ^ b.toNat) = p := hp.1
                    have hpk : IntKind.i64.wrap (2 ^ b.toNat) = p := hp.2.1
                    have hpe : p = 2 ^ b.toNat := hp.2.2
                    have HPE := Aside0.mk hpe
                    have hp0 : ¬ p = 0 := by omega
                    have hp3 : 0 < p := by omega
                    have hnm : 0 ≤ n.tmod p := by rw [Int.tmod_eq_emod_of_nonneg hn0]; exact Int.emod_nonneg _ hp0
                    clear hp hpe
                    go_region_with ((go_at_call 49; refine (number_b _ _ _ (sp s 0) _ b (bt_drew HOa.out) (below_drew HBa.out).size ((HF.out.sp_ ⟨by omega, by omega⟩).goodN_ (by have := F9.out; have := sp_len s 0; omega) (by omega)) hnm hb0 hb8).mono ?_; rintro e w3 ⟨rfl, HO3, HB3⟩; have HOb := Aside0.mk HO3; have HBb := Aside0.mk ((below_drew HBa.out).trans HB3); clear HO3 HB3))
                    have hnum : numS (sp s 0) (n.tmod p) b.toNat = numS (sp s 0) (n % 2 ^ b.toNat) b.toNat := by rw [Int.tmod_eq_emod_of_nonneg hn0, HPE.out]
                    have HNS := Aside0.mk hnum
                    have hfin := numS_fine (n.tmod p) hnm b.toNat (sp s 0) (HF.out.sp_ ⟨by omega, by omega⟩)
                    have HFin := Aside0.mk hfin
                    clear hnum hfin hpw hpk hx hp0 hp1 hp2 hp3 hnm
                    go_wp2
                    go_roundg k2
                    case measure => have := HK1.out; have := HK2.out; omega
                    case rel => exact ⟨i + 1, numS (sp s 0) (n.tmod p) b.toNat, rfl, ⟨by rw [HNS.out]; exact H'.out⟩, ⟨by have := HK1.out; have := HK2.out; omega⟩, HFin, HOb, HBb⟩
                · rw [if_neg c9] at H
                  exact absurd H (by simp)
          · rw [if_neg c8] at H
            exact absurd H (by simp)
        · rw [if_neg c7] at H
          exact absurd H (by simp)
      · rw [if_neg c6] at H
        by_cases c9 : s.1.length ≤ 100000000
        · rw [if_pos c9] at H
          obtain rfl := Option.some.inj H
          have F9 := Aside0.mk c9
          have c6b : decide (i < (xs.length : Int)) = false := decide_eq_false c6
          clear c9
          go_wp2_with (first | (go_at_call 50; refine (end_any _ _ _ s HO.out HB.out.size (HF.out.goodN_ (by have := F9.out; omega) (by omega))).mono ?_; rintro e w2 ⟨rfl, HB2⟩; have HBa := Aside0.mk (HB.out.trans HB2); clear HB2))
          go_ret
          exact ⟨rfl, HBa.out⟩
        · rw [if_neg c9] at H
          exact absurd H (by simp)
end Go.Proofs.Ytipmgmiooanghaa.Rice
