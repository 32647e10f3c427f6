/- What FnRiceGet computes is true for all codes. Conditions: none beyond those that the statement tells. -/
import Derived.Test.YtipmgmiooanghaaPFnRiceGetx3
import Derived.Test.YtipmgmiooanghaaPd
import Derived.Test.YtipmgmiooanghaaRy
namespace Go.Proofs.Ytipmgmiooanghaa.Pure
open Go Go.RowKit Go.Proofs.Ytipmgmiooanghaa.PFnRiceGet Go.Proofs.YtipmgmiooanghaaW.PrintWords Go.Proofs.YtipmgmiooanghaaW.PrintLast Go.Proofs.YtipmgmiooanghaaW.PrintMore Go.Proofs.Ytipmgmiooanghaa.Pl
set_option linter.unusedVariables false

theorem specIn (a b c : Int) : spec_l1In.f a b c = some (decide (b ≤ a ∧ a ≤ c)) := by
  unfold spec_l1In.f
  by_cases h : a ≥ b
  · rw [if_pos h]; congr 1; exact decide_eq_decide.2 ⟨fun k => ⟨h, k⟩, fun k => k.2⟩
  · rw [if_neg h]; congr 1; exact (decide_eq_false (fun k => h k.1)).symm

open Go.Proofs.Ytipmgmiooanghaa.Rice in
theorem l2Numbers_loop (l : List Int) (hm : l.length ≤ 1000000000000) : ∀ (d i : Nat), i + d = l.length → Ev (fun k => spec_l2Numbers.l0 k l (i : Int)) (decide ((∀ x ∈ l.drop i, numOk x) ∧ l.length ≤ 40))
  | 0, i, h => by
    refine Ev.step (f := fun _ => some (decide ((l.length : Int) ≤ 40))) (fun k => ?_) (Ev.at_ (Ev.now _) (decide_eq_decide.2 ?_))
    · simp only [spec_l2Numbers.l0]; rw [if_neg (by omega)]
    · rw [List.drop_eq_nil_of_le (by omega)]; exact ⟨fun h => ⟨by simp, by omega⟩, fun h => by omega⟩
  | d + 1, i, h => by
    have hi : i < l.length := by omega
    have hr : rd l (i : Int) = l[i] := by unfold rd; rw [Int.toNat_natCast, List.getD_eq_getElem?_getD, List.getElem?_eq_getElem hi, Option.getD_some]
    rw [List.drop_eq_getElem_cons hi]
    by_cases e : numOk l[i]
    · refine Ev.step (f := fun k => spec_l2Numbers.l0 k l ((i + 1 : Nat) : Int)) (fun k => ?_) (Ev.at_ (l2Numbers_loop l hm d (i + 1) (by omega)) (decide_eq_decide.2 ⟨fun h => ⟨fun x hx => (List.mem_cons.1 hx).elim (fun q => q ▸ e) (h.1 x), h.2⟩, fun h => ⟨fun x hx => h.1 x (List.mem_cons_of_mem _ hx), h.2⟩⟩))
      simp only [spec_l2Numbers.l0]
      rw [if_pos (by omega), if_pos (by omega), specIn, hr, Option.bind_some, if_pos (decide_eq_true (show 0 ≤ l[i] ∧ l[i] ≤ 60000 from e)), w64 (by omega) (by omega)]
      rfl
    · refine Ev.step (f := fun _ => some false) (fun k => ?_) (Ev.at_ (Ev.now _) (decide_eq_false fun h => e (h.1 _ List.mem_cons_self)).symm)
      simp only [spec_l2Numbers.l0]
      rw [if_pos (by omega), if_pos (by omega), specIn, hr, Option.bind_some, if_neg (show ¬ decide (0 ≤ l[i] ∧ l[i] ≤ 60000) = true by rw [decide_eq_true_iff]; exact e)]
open Go.Proofs.Ytipmgmiooanghaa.Rice in
theorem specRicePut_ev (l : List Int) (b : Int) (hm : l.length ≤ 1000000000000) : Ev (fun k => spec_RicePut.f k l b) (ricePut l b) := by
  unfold spec_RicePut.f ricePut
  refine Ev.bind (l2Numbers_loop l hm l.length 0 (by omega)) ?_
  rw [List.drop_zero]
  by_cases h : (∀ x ∈ l, numOk x) ∧ l.length ≤ 40
  · refine Ev.ifp (decide_eq_true h) (Ev.b (specIn b 0 8) ?_)
    by_cases hb : 0 ≤ b ∧ b ≤ 8
    · refine Ev.ifp (decide_eq_true hb) ?_
      rw [if_pos (show l.length ≤ 40 ∧ (0 ≤ b ∧ b ≤ 8) ∧ ∀ x ∈ l, numOk x from ⟨h.2, hb, h.1⟩)]
      refine Ev.b (a := riceB b l) ?_ (Ev.now _)
      unfold spec_l2Rice.f
      rw [if_pos ⟨h.2, hb.1, hb.2, h.1⟩]
    · rw [if_neg (show ¬ (l.length ≤ 40 ∧ (0 ≤ b ∧ b ≤ 8) ∧ ∀ x ∈ l, numOk x) from fun k => hb k.2.1)]
      exact Ev.ifn (by rw [decide_eq_true_iff]; exact hb) (Ev.now _)
  · rw [if_neg (show ¬ (l.length ≤ 40 ∧ (0 ≤ b ∧ b ≤ 8) ∧ ∀ x ∈ l, numOk x) from fun k => h ⟨k.2.2, k.1⟩)]
    exact Ev.ifn (by rw [decide_eq_true_iff]; exact h) (Ev.now _)

theorem implRicePut (l : List Int) (b : Int) (hm : l.length ≤ 1000000000) : impl_RicePut.f l b = some (Go.Proofs.Ytipmgmiooanghaa.Rice.ricePut l b) := by
  unfold impl_RicePut.f; rw [if_pos hm]

open Go.Proofs.Ytipmgmiooanghaa.Rice in
theorem specBit_in (s : ByteArray) (p : Int) (h0 : 0 ≤ p) (h1 : p < 8 * (s.size : Int)) (hs : s.size ≤ 600) : spec_l2Bit.f s p = some (bitAt s p) := by
  unfold spec_l2Bit.f
  have e : Int.tdiv p 8 = p / 8 := Int.tdiv_eq_ediv_of_nonneg h0
  have e2 : Int.tmod p 8 = p % 8 := Int.tmod_eq_emod_of_nonneg h0
  rw [e, e2, w64 (by omega) (by omega), w64 (show -9223372036854775808 ≤ 7 - p % 8 by omega) (by omega)]
  obtain ⟨hb0, hb1⟩ := bt_range s (p / 8)
  rw [w64 (show -9223372036854775808 ≤ bt s (p / 8) by omega) (by omega), if_neg (by omega), if_pos (by omega), if_pos (by omega), if_pos (by omega), bitAt_of s p h1]
  congr 1
  have hsh : shr .i64 (bt s (p / 8)) (7 - p % 8) = bt s (p / 8) / 2 ^ (7 - p % 8).toNat := by
    unfold shr
    rw [Nat.min_eq_left (by have : IntKind.i64.bits = 64 := rfl; omega)]
  rw [hsh]
  exact Int.tmod_eq_emod_of_nonneg (Int.ediv_nonneg hb0 (Int.pow_nonneg (by omega)))
open Go.Proofs.Ytipmgmiooanghaa.Rice in
theorem specBit_out (s : ByteArray) (p : Int) (h1 : 8 * (s.size : Int) ≤ p) (h2 : p ≤ 1000000) : spec_l2Bit.f s p = some (-1) := by
  unfold spec_l2Bit.f
  have e : Int.tdiv p 8 = p / 8 := Int.tdiv_eq_ediv_of_nonneg (by omega)
  rw [e, w64 (by omega) (by omega), if_pos (by omega)]
open Go.Proofs.Ytipmgmiooanghaa.Rice in
theorem specRest_in (s : ByteArray) (hs : s.size ≤ 600) (m b : Int) (hb0 : 0 ≤ b) (hb8 : b ≤ 8) (xs : List Int) (hx : xs.length ≤ 40) (r : List Int × Int) :
    ∀ (c : Nat) (n p : Int), (c : Int) ≤ b → 0 ≤ p → p + c ≤ 8 * (s.size : Int) → 0 ≤ n → n + 1 ≤ 5000 * 2 ^ (b.toNat - c) →
      Ev (fun k => if restV (bitAt s) c p n > 60000 then some (([] : List Int), (-1 : Int)) else spec_l2Read.l0 k s m b (xs ++ [restV (bitAt s) c p n]) (p + c)) r → Ev (fun k => spec_l2Read.l2 k s m b xs p n (b - c)) r
  | 0, n, p, hc, hp0, hp1, hn0, hn1, h => by
    refine Ev.step (f := fun k => if restV (bitAt s) 0 p n > 60000 then some (([] : List Int), (-1 : Int)) else spec_l2Read.l0 k s m b (xs ++ [restV (bitAt s) 0 p n]) (p + ((0 : Nat) : Int))) (fun k => ?_) h
    simp only [spec_l2Read.l2, restV]
    rw [if_neg (by omega), w64 (by omega) (by omega), if_neg (by omega), show p + ((0 : Nat) : Int) = p by omega]
    by_cases h6 : n > 60000
    · rw [if_pos h6]; exact (if_pos h6).symm
    · rw [if_neg h6, if_pos (by omega)]; exact (if_neg h6).symm
  | c + 1, n, p, hc, hp0, hp1, hn0, hn1, h => by
    obtain ⟨h0, h1⟩ := bitAt_range s p
    have hpw : (2 : Int) ^ (b.toNat - c) = 2 * 2 ^ (b.toNat - (c + 1)) := by
      rw [show b.toNat - c = b.toNat - (c + 1) + 1 by omega, Int.pow_succ]; omega
    have hn := (pow8 (show b.toNat - (c + 1) ≤ 8 by omega)).2
    refine Ev.step (f := fun k => spec_l2Read.l2 k s m b xs (p + 1) (2 * n + bitAt s p) (b - c)) (fun k => ?_) (specRest_in s hs m b hb0 hb8 xs hx r c (2 * n + bitAt s p) (p + 1) (by omega) (by omega) (by omega) (by omega) (by omega) ?_)
    · simp only [spec_l2Read.l2]
      rw [if_pos (by omega), specBit_in s p hp0 (by omega) hs, Option.bind_some, w64 (show -9223372036854775808 ≤ p + 1 by omega) (by omega), w64 (show -9223372036854775808 ≤ n * 2 by omega) (by omega), w64 (show -9223372036854775808 ≤ n * 2 + bitAt s p by omega) (by omega), w64 (show -9223372036854775808 ≤ b - ((c + 1 : Nat) : Int) + 1 by omega) (by omega), show b - ((c + 1 : Nat) : Int) + 1 = b - c by omega, Int.mul_comm n 2]
    · rw [show p + 1 + (c : Int) = p + ((c + 1 : Nat) : Int) by omega]
      exact h
open Go.Proofs.Ytipmgmiooanghaa.Rice in
theorem specBit_any (s : ByteArray) (hs : s.size ≤ 600) (p : Int) (h0 : 0 ≤ p) (h2 : p ≤ 1000000) : ∃ t, spec_l2Bit.f s p = some t ∧ -1 ≤ t ∧ t ≤ 1 := by
  by_cases h : p < 8 * (s.size : Int)
  · exact ⟨_, specBit_in s p h0 h hs, by have := (bitAt_range s p).1; omega, (bitAt_range s p).2⟩
  · exact ⟨_, specBit_out s p (by omega) h2, by omega, by omega⟩
open Go.Proofs.Ytipmgmiooanghaa.Rice in
theorem specRest_out (s : ByteArray) (hs : s.size ≤ 600) (m b : Int) (hb0 : 0 ≤ b) (hb8 : b ≤ 8) (xs : List Int) :
    ∀ (c : Nat) (n p : Int), (c : Int) ≤ b → 0 ≤ p → p + c ≤ 100000 → 8 * (s.size : Int) < p + c → -(5000 * 2 ^ (b.toNat - c)) < n → n < 5000 * 2 ^ (b.toNat - c) →
      Ev (fun k => spec_l2Read.l2 k s m b xs p n (b - c)) ([], -1)
  | 0, n, p, hc, hp0, hp1, hp2, hn0, hn1 => by
    refine Ev.step (f := fun _ => some ([], -1)) (fun k => ?_) (Ev.now _)
    simp only [spec_l2Read.l2]
    rw [if_neg (by omega), w64 (by omega) (by omega), if_pos (by omega)]
  | c + 1, n, p, hc, hp0, hp1, hp2, hn0, hn1 => by
    obtain ⟨t, ht, ht0, ht1⟩ := specBit_any s hs p hp0 (by omega)
    have hpw : (2 : Int) ^ (b.toNat - c) = 2 * 2 ^ (b.toNat - (c + 1)) := by
      rw [show b.toNat - c = b.toNat - (c + 1) + 1 by omega, Int.pow_succ]; omega
    have hn := (pow8 (show b.toNat - (c + 1) ≤ 8 by omega)).2
    refine Ev.step (f := fun k => spec_l2Read.l2 k s m b xs (p + 1) (n * 2 + t) (b - c)) (fun k => ?_) (specRest_out s hs m b hb0 hb8 xs c (n * 2 + t) (p + 1) (by omega) (by omega) (by omega) (by omega) (by omega) (by omega))
    simp only [spec_l2Read.l2]
    rw [if_pos (by omega), ht, Option.bind_some, w64 (show -9223372036854775808 ≤ p + 1 by omega) (by omega), w64 (show -9223372036854775808 ≤ n * 2 by omega) (by omega), w64 (show -9223372036854775808 ≤ n * 2 + t by omega) (by omega), w64 (show -9223372036854775808 ≤ b - ((c + 1 : Nat) : Int) + 1 by omega) (by omega), show b - ((c + 1 : Nat) : Int) + 1 = b - c by omega]
open Go.Proofs.Ytipmgmiooanghaa.Rice in
theorem specOnes (s : ByteArray) (hs : s.size ≤ 600) (m b : Int) (xs : List Int) (r : List Int × Int) :
    ∀ (q : Nat) (n p : Int), ones s p = q → 0 ≤ p → p ≤ 100000 → 0 ≤ n → n + q ≤ 4800 → Ev (fun k => spec_l2Read.l2 k s m b xs (p + q + 1) (n + q) 0) r → Ev (fun k => spec_l2Read.l1 k s m b xs p n) r
  | 0, n, p, hq, hp0, hp1, hn0, hn1, h => by
    have h1 : ¬ bitAt s p = 1 := fun h => by rw [ones_one h] at hq; omega
    refine Ev.step (f := fun k => spec_l2Read.l2 k s m b xs (p + 1) n 0) (fun k => ?_) (by simpa using h)
    simp only [spec_l2Read.l1]
    by_cases hp : p < 8 * (s.size : Int)
    · rw [specBit_in s p hp0 hp hs, Option.bind_some, if_neg h1, w64 (by omega) (by omega)]
    · rw [specBit_out s p (by omega) (by omega), Option.bind_some, if_neg (by omega), w64 (by omega) (by omega)]
  | q + 1, n, p, hq, hp0, hp1, hn0, hn1, h => by
    have h1 : bitAt s p = 1 := Classical.byContradiction fun h => by rw [ones_not h] at hq; omega
    have hp : p < 8 * (s.size : Int) := by
      rcases Int.lt_or_le p (8 * (s.size : Int)) with hp | hp
      · exact hp
      · rw [bitAt_out s p hp] at h1; omega
    rw [ones_one h1] at hq
    refine Ev.step (f := fun k => spec_l2Read.l1 k s m b xs (p + 1) (n + 1)) (fun k => ?_) (specOnes s hs m b xs r q (n + 1) (p + 1) (by omega) (by omega) (by omega) (by omega) (by omega) ?_)
    · simp only [spec_l2Read.l1]
      rw [specBit_in s p hp0 hp hs, Option.bind_some, if_pos h1, w64 (by omega) (by omega), w64 (by omega) (by omega)]
    · rw [show p + 1 + (q : Int) + 1 = p + ((q + 1 : Nat) : Int) + 1 by omega, show n + 1 + (q : Int) = n + ((q + 1 : Nat) : Int) by omega]
      exact h
/-- What l2Read answers. -/
def readR (s : ByteArray) (b : Int) (d : Nat) (p : Int) (xs : List Int) : List Int × Int :=
  if (∀ x ∈ Go.Proofs.Ytipmgmiooanghaa.Rice.nums1 s b d p, x ≤ 60000) ∧ Go.Proofs.Ytipmgmiooanghaa.Rice.endN s b d p ≤ 8 * (s.size : Int) then (xs ++ Go.Proofs.Ytipmgmiooanghaa.Rice.nums1 s b d p, Go.Proofs.Ytipmgmiooanghaa.Rice.endN s b d p) else ([], -1)
open Go.Proofs.Ytipmgmiooanghaa.Rice in
theorem specRead_loop (s : ByteArray) (hs : s.size ≤ 600) (b : Int) (hb0 : 0 ≤ b) (hb8 : b ≤ 8) : ∀ (d i : Nat) (p : Int) (xs : List Int), xs.length = i → i + d ≤ 40 → 0 ≤ p → p ≤ 8 * (s.size : Int) → Ev (fun k => spec_l2Read.l0 k s ((i + d : Nat) : Int) b xs p) (readR s b d p xs)
  | 0, i, p, xs, hx, hi, hp0, hp1 => by
    refine Ev.step (f := fun _ => some (xs, p)) (fun k => ?_) (Ev.at_ (Ev.now _) ?_)
    · simp only [spec_l2Read.l0]
      rw [if_neg (by omega)]
    · unfold readR
      rw [if_pos (show (∀ x ∈ nums1 s b 0 p, x ≤ 60000) ∧ endN s b 0 p ≤ 8 * (s.size : Int) from ⟨fun x hx => by simp [nums1] at hx, hp1⟩)]
      simp [nums1, endN]
  | d + 1, i, p, xs, hx, hi, hp0, hp1 => by
    have hl := ones_end s p
    refine Ev.step (f := fun k => spec_l2Read.l1 k s ((i + (d + 1) : Nat) : Int) b xs p 0) (fun k => ?_) (specOnes s hs _ b xs _ (ones s p) 0 p rfl hp0 (by omega) (by omega) (by omega) ?_)
    · simp only [spec_l2Read.l0]
      rw [if_pos (by omega)]
    have hz : b.toNat - b.toNat = 0 := by omega
    have hbe : b - ((b.toNat : Nat) : Int) = 0 := by omega
    have hv : restV (bitAt s) b.toNat (p + (ones s p : Int) + 1) (0 + (ones s p : Int)) = numAt s b p := by rw [Int.zero_add]; rfl
    have he : p + (ones s p : Int) + 1 + ((b.toNat : Nat) : Int) = endAt s b p := by unfold endAt; omega
    have hge := endN_ge s b hb0 d (endAt s b p)
    by_cases hin : endAt s b p ≤ 8 * (s.size : Int)
    · have hr := specRest_in s hs ((i + (d + 1) : Nat) : Int) b hb0 hb8 xs (by omega) (readR s b (d + 1) p xs) b.toNat (0 + (ones s p : Int)) (p + (ones s p : Int) + 1) (by omega) (by omega) (by omega) (by omega) (by rw [hz]; omega) (by
        rw [hv, he]
        by_cases hn : numAt s b p > 60000
        · refine Ev.ifp hn (Ev.at_ (Ev.now _) ?_)
          unfold readR
          rw [if_neg (fun h => by have := h.1 (numAt s b p) (by simp [nums1]); omega)]
        · refine Ev.ifn hn (Ev.at_ (specRead_loop s hs b hb0 hb8 d (i + 1) (endAt s b p) (xs ++ [numAt s b p]) (by rw [List.length_append, List.length_singleton, hx]) (by omega) (by unfold endAt; omega) hin |> fun h => by rw [show ((i + (d + 1) : Nat) : Int) = ((i + 1 + d : Nat) : Int) by omega]; exact h) ?_)
          unfold readR
          simp only [nums1, endN, List.append_assoc, List.cons_append, List.nil_append]
          have e : (∀ x ∈ numAt s b p :: nums1 s b d (endAt s b p), x ≤ 60000) ↔ (∀ x ∈ nums1 s b d (endAt s b p), x ≤ 60000) :=
            ⟨fun h x hx => h x (List.mem_cons_of_mem _ hx), fun h x hx => (List.mem_cons.1 hx).elim (fun e => by rw [e]; omega) (h x)⟩
          simp only [e])
      rw [hbe] at hr
      exact hr
    · have hr := specRest_out s hs ((i + (d + 1) : Nat) : Int) b hb0 hb8 xs b.toNat (0 + (ones s p : Int)) (p + (ones s p : Int) + 1) (by omega) (by omega) (by omega) (by omega) (by rw [hz]; omega) (by rw [hz]; omega)
      rw [hbe] at hr
      refine Ev.at_ hr ?_
      unfold readR
      rw [if_neg (fun h => by have := h.2; rw [endN] at this; omega)]
open Go.Proofs.Ytipmgmiooanghaa.Rice in
theorem specRiceGet_ev (s : ByteArray) (many b : Int) : Ev (fun k => spec_RiceGet.f k s many b) (riceGet s many b) := by
  unfold spec_RiceGet.f
  refine Ev.b (specIn many 0 40) ?_
  by_cases hm : 0 ≤ many ∧ many ≤ 40
  · refine Ev.ifp (decide_eq_true hm) (Ev.b (specIn b 0 8) ?_)
    by_cases hb : 0 ≤ b ∧ b ≤ 8
    · refine Ev.ifp (decide_eq_true hb) ?_
      by_cases hs : s.size ≤ 600
      · refine Ev.step (f := fun k => (spec_l2Read.f k s many b).bind fun bt113 => (if bt113.2 < 0 then (some (([] : List Int), false)) else ((spec_l2Rice.f bt113.1 b).bind fun t117 => (if t117.toList = s.toList then (some (bt113.1, true)) else (some (([] : List Int), false)))))) (fun k => ?_) ?_
        · simp only [spec_RiceGet.j0]
          rw [if_neg (by rw [decide_eq_true_iff]; omega)]
        · have hr := specRead_loop s hs b hb.1 hb.2 many.toNat 0 0 [] rfl (by omega) (by omega) (by omega)
          rw [show ((0 + many.toNat : Nat) : Int) = many by omega] at hr
          refine Ev.bind (g := fun k => spec_l2Read.f k s many b) (by unfold spec_l2Read.f; exact hr) ?_
          unfold readR
          by_cases h : (∀ x ∈ nums1 s b many.toNat 0, x ≤ 60000) ∧ endN s b many.toNat 0 ≤ 8 * (s.size : Int)
          · rw [if_pos h]
            have hge := endN_ge s b hb.1 many.toNat 0
            refine Ev.ifn (by show ¬ endN s b many.toNat 0 < 0; omega) ?_
            simp only [List.nil_append]
            refine Ev.b (a := riceB b (nums1 s b many.toNat 0)) ?_ ?_
            · unfold spec_l2Rice.f
              rw [if_pos ⟨by rw [nums1_len]; omega, hb.1, hb.2, fun x hx => ⟨nums1_ge s b _ _ x hx, h.1 x hx⟩⟩]
            · by_cases e : riceB b (nums1 s b many.toNat 0) = s
              · refine Ev.at_ (Ev.ifp (by rw [e]) (Ev.now _)) ?_
                unfold riceGet
                rw [if_pos ⟨⟨hm.1, hm.2, hb.1, hb.2, hs⟩, h.1, e⟩]
              · refine Ev.at_ (Ev.ifn (fun k => e ((toList_iff' _ _).1 k)) (Ev.now _)) ?_
                unfold riceGet
                rw [if_neg (fun k => e k.2.2)]
          · rw [if_neg h]
            refine Ev.ifp (by show (-1 : Int) < 0; omega) (Ev.at_ (Ev.now _) ?_)
            unfold riceGet
            rw [if_neg (fun k => h ⟨k.2.1, read_in hb.1 k.2.2⟩)]
      · refine Ev.step (f := fun _ => some ([], false)) (fun k => ?_) (Ev.at_ (Ev.now _) (by unfold riceGet; rw [if_neg (fun k => hs k.1.2.2.2.2)]))
        simp only [spec_RiceGet.j0]
        rw [if_pos (by rw [decide_eq_true_iff]; omega)]
    · refine Ev.ifn (by rw [decide_eq_true_iff]; exact hb) (Ev.step (f := fun _ => some ([], false)) (fun k => ?_) (Ev.at_ (Ev.now _) (by unfold riceGet; rw [if_neg (fun k => hb ⟨k.1.2.2.1, k.1.2.2.2.1⟩)])))
      simp only [spec_RiceGet.j0]
      exact if_pos trivial
  · refine Ev.ifn (by rw [decide_eq_true_iff]; exact hm) (Ev.step (f := fun _ => some ([], false)) (fun k => ?_) (Ev.at_ (Ev.now _) (by unfold riceGet; rw [if_neg (fun k => hm ⟨k.1.1, k.1.2.1⟩)])))
    simp only [spec_RiceGet.j0]
    exact if_pos trivial

theorem implRiceGet (s : ByteArray) (many b : Int) (hm : s.size ≤ 1000000000) : impl_RiceGet.f s many b = some (Go.Proofs.Ytipmgmiooanghaa.Rice.riceGet s many b) := by
  unfold impl_RiceGet.f; rw [if_pos hm]

theorem riceGet_len (s : ByteArray) (many b : Int) : (Go.Proofs.Ytipmgmiooanghaa.Rice.riceGet s many b).1.length ≤ 40 := by
  unfold Go.Proofs.Ytipmgmiooanghaa.Rice.riceGet
  split
  · rename_i h
    have := h.1.2.1
    show (Go.Proofs.Ytipmgmiooanghaa.Rice.nums1 s b many.toNat 0).length ≤ 40
    rw [Go.Proofs.Ytipmgmiooanghaa.Rice.nums1_len]
    omega
  · exact Nat.zero_le _

theorem coInts_loop (a b : List Int) (hl : a.length = b.length) (hm : a.length ≤ 1000000000000) : ∀ (d i : Nat), i + d = a.length → Ev (fun k => laws_coInts.l0 k a b (i : Int)) (decide (a.drop i = b.drop i))
  | 0, i, h => by
    refine Ev.step (f := fun _ => some true) (fun k => ?_) (Ev.at_ (Ev.now _) ?_)
    · simp only [laws_coInts.l0]; rw [if_neg (by omega)]
    · rw [List.drop_eq_nil_of_le (by omega), List.drop_eq_nil_of_le (by omega)]; exact (decide_eq_true rfl).symm
  | d + 1, i, h => by
    have ha : i < a.length := by omega
    have hb : i < b.length := by omega
    have ra : rd a (i : Int) = a[i] := by unfold rd; rw [Int.toNat_natCast, List.getD_eq_getElem?_getD, List.getElem?_eq_getElem ha, Option.getD_some]
    have rb : rd b (i : Int) = b[i] := by unfold rd; rw [Int.toNat_natCast, List.getD_eq_getElem?_getD, List.getElem?_eq_getElem hb, Option.getD_some]
    rw [List.drop_eq_getElem_cons ha, List.drop_eq_getElem_cons hb]
    by_cases e : a[i] = b[i]
    · refine Ev.step (f := fun k => laws_coInts.l0 k a b ((i + 1 : Nat) : Int)) (fun k => ?_) (Ev.at_ (coInts_loop a b hl hm d (i + 1) (by omega)) (decide_eq_decide.2 ⟨fun h => by rw [e, h], fun h => (List.cons.inj h).2⟩))
      simp only [laws_coInts.l0]
      rw [if_pos (by omega), if_pos (by omega), if_pos (by omega), ra, rb, if_pos e, w64 (by omega) (by omega)]
      rfl
    · refine Ev.step (f := fun _ => some false) (fun k => ?_) (Ev.at_ (Ev.now _) (decide_eq_false fun h => e (List.cons.inj h).1).symm)
      simp only [laws_coInts.l0]
      rw [if_pos (by omega), if_pos (by omega), if_pos (by omega), ra, rb, if_neg e]
theorem coInts_ev (a b : List Int) (hm : a.length ≤ 1000000000000) : Ev (fun k => laws_coInts.f k a b) (decide (a = b)) := by
  unfold laws_coInts.f
  by_cases hl : a.length = b.length
  · exact Ev.ifp (by omega) (coInts_loop a b hl hm a.length 0 (by omega))
  · exact Ev.ifn (by omega) (Ev.at_ (Ev.now _) (decide_eq_false fun h => hl (by rw [h])).symm)
theorem coInts_same (a : List Int) (hm : a.length ≤ 1000000000000) : Ev (fun k => laws_coInts.f k a a) true := Ev.at_ (coInts_ev a a hm) (decide_eq_true rfl)

/-! ### what is drawn: a code that is read byte by byte -/
/-- A code that is read. -/
def Code (b : List Int) : Prop := (∀ x ∈ b, 0 ≤ x ∧ x ≤ 255) ∧ b.length ≤ 2000
theorem open_ev {l : List Int} (h : ∀ x ∈ l, 0 ≤ x ∧ x ≤ 255) : ∃ b, spec_l20Open.f l = some (b, 0) ∧ Code b := by
  unfold spec_l20Open.f
  by_cases hl : (l.length : Int) > 2000
  · rw [if_pos hl, if_pos (by omega)]
    exact ⟨_, rfl, fun x hx => h x (List.mem_of_mem_take hx), by rw [List.length_take]; omega⟩
  · rw [if_neg hl]
    exact ⟨_, rfl, h, by omega⟩
theorem tmod_range {a b : Int} (h0 : 0 ≤ a) (hb : 0 < b) : 0 ≤ Int.tmod a b ∧ Int.tmod a b < b := by
  rw [Int.tmod_eq_emod_of_nonneg h0]
  exact ⟨Int.emod_nonneg _ (by omega), Int.emod_lt_of_pos _ hb⟩
theorem mixed {b : List Int} (hb : Code b) {p : Int} (h0 : 0 ≤ p) (h1 : p ≤ 1099511627776) (hl : 0 < b.length) (i j : Int) :
    ∃ x, wrap64 (wrap64 (wrap64 (wrap64 (wrap64 (rd b i) * 131) + wrap64 (wrap64 (rd b j) * 1117)) + wrap64 (p * 29)) + wrap64 (wrap64 (Int.tdiv p (b.length : Int)) * 53)) = x ∧ 0 ≤ x ∧ x < 4611686018427387904 := by
  have hi := rd_range hb.1 i
  have hj := rd_range hb.1 j
  have hd : 0 ≤ Int.tdiv p (b.length : Int) ∧ Int.tdiv p (b.length : Int) ≤ p := by
    rw [Int.tdiv_eq_ediv_of_nonneg h0]
    exact ⟨Int.ediv_nonneg h0 (by omega), Int.ediv_le_self _ h0⟩
  generalize rd b i = u at *
  generalize rd b j = v at *
  generalize Int.tdiv p (b.length : Int) = q at *
  refine ⟨u * 131 + v * 1117 + p * 29 + q * 53, ?_, by omega, by omega⟩
  rw [w64 (i := u) (by omega) (by omega), w64 (i := u * 131) (by omega) (by omega), w64 (i := v) (by omega) (by omega), w64 (i := v * 1117) (by omega) (by omega), w64 (i := u * 131 + v * 1117) (by omega) (by omega),
    w64 (i := p * 29) (by omega) (by omega), w64 (i := u * 131 + v * 1117 + p * 29) (by omega) (by omega), w64 (i := q) (by omega) (by omega), w64 (i := q * 53) (by omega) (by omega), w64 (by omega) (by omega)]
theorem pick_ev {b : List Int} (hb : Code b) (p n : Int) (h0 : 0 ≤ p) (h1 : p ≤ 1099511627776) : ∃ v, Ev (fun k => spec_l20Rd_pick.f k b p n) (v, p + 1) ∧ 0 ≤ v ∧ (1 ≤ n → v < n) ∧ (n < 1 → v = 0) := by
  have hw : wrap64 (p + 1) = p + 1 := w64 (by omega) (by omega)
  unfold spec_l20Rd_pick.f
  by_cases hn : n < 1
  · refine ⟨0, Ev.ifp hn ?_, by omega, by omega, fun _ => rfl⟩
    rw [hw]
    refine Ev.step (f := fun _ => some (0, p + 1)) (fun k => ?_) (Ev.now _)
    simp only [spec_l20Rd_pick.j0]; rw [if_pos trivial]
  · by_cases hl : b.length = 0
    · have e : ((b.length : Int) == 0) = true := by rw [beq_iff_eq]; omega
      refine ⟨0, Ev.ifn hn ?_, by omega, by omega, fun _ => rfl⟩
      rw [hw, e]
      refine Ev.step (f := fun _ => some (0, p + 1)) (fun k => ?_) (Ev.now _)
      simp only [spec_l20Rd_pick.j0]; rw [if_pos trivial]
    · have e : ((b.length : Int) == 0) = false := by rw [beq_eq_false_iff_ne]; omega
      have hw1 : wrap64 (p + 1 - 1) = p := by clear hw; exact (w64 (by omega) (by omega)).trans (by omega)
      have hn0 : ¬ n = 0 := by clear hw hw1; omega
      have hl0 : ¬ (b.length : Int) = 0 := by clear hw hw1; omega
      by_cases hp : p < (b.length : Int)
      · have hr := rd_range hb.1 p
        have hwr : wrap64 (rd b p) = rd b p := by clear hw hw1; exact w64 (by omega) (by omega)
        have ht := tmod_range hr.1 (show 0 < n by clear hw hw1 hwr; omega)
        refine ⟨Int.tmod (rd b p) n, Ev.ifn hn ?_, ht.1, fun _ => ht.2, fun h => absurd h hn⟩
        rw [hw, e]
        refine Ev.step (f := fun _ => some (Int.tmod (rd b p) n, p + 1)) (fun k => ?_) (Ev.now _)
        simp only [spec_l20Rd_pick.j0]; rw [if_neg (by simp), hw1, if_pos hp, if_pos h0, if_neg hn0, hwr]
      · have hlp : 0 < (b.length : Int) := by clear hw hw1; omega
        have t1 := tmod_range h0 hlp
        have hq : wrap64 (wrap64 (p * 7) + 3) = p * 7 + 3 := by clear hw hw1; rw [w64 (i := p * 7) (by omega) (by omega)]; exact w64 (by omega) (by omega)
        have t2 := tmod_range (show 0 ≤ p * 7 + 3 by clear hw hw1 hq; omega) hlp
        obtain ⟨x, hx, hx0, hx1⟩ := mixed hb h0 h1 (show 0 < b.length by clear hw hw1 hq; omega) (Int.tmod p (b.length : Int)) (Int.tmod (p * 7 + 3) (b.length : Int))
        have hd0 : 0 ≤ x / 64 := by clear hx hw hw1 hq; omega
        have hd1 : x / 64 < 4611686018427387904 := by clear hx hw hw1 hq; omega
        have hdx : wrap64 (Int.tdiv x 64) = x / 64 := by rw [Int.tdiv_eq_ediv_of_nonneg hx0]; clear hx hw hw1 hq; exact w64 (by omega) (by omega)
        have hxo := xor64 hx0 hx1 hd0 hd1
        have ht := tmod_range hxo.1 (show 0 < n by clear hx hdx hw hw1 hq; omega)
        refine ⟨Int.tmod (Go.bits .xor .i64 x (x / 64)) n, Ev.ifn hn ?_, ht.1, fun _ => ht.2, fun h => absurd h hn⟩
        rw [hw, e]
        refine Ev.step (f := fun _ => some (Int.tmod (Go.bits .xor .i64 x (x / 64)) n, p + 1)) (fun k => ?_) (Ev.now _)
        simp only [spec_l20Rd_pick.j0]
        rw [if_neg (by simp), hw1, if_neg hp, if_neg hl0, if_pos t1.1, if_pos t1.2, hq, if_pos t2.1, if_pos t2.2, if_neg hn0, hx, hdx]
/-- A number below n, n at least 1. -/
theorem pick_lt {b : List Int} (hb : Code b) (p n : Int) (h0 : 0 ≤ p) (h1 : p ≤ 1099511627776) (hn : 1 ≤ n) : ∃ v, Ev (fun k => spec_l20Rd_pick.f k b p n) (v, p + 1) ∧ 0 ≤ v ∧ v < n := by
  obtain ⟨v, h, h2, h3, _⟩ := pick_ev hb p n h0 h1
  exact ⟨v, h, h2, h3 hn⟩

theorem one_ev {b : List Int} (hb : Code b) (p : Int) (l : List Int) (h0 : 0 ≤ p) (h1 : p ≤ 1099511627776) (hl : 1 ≤ (l.length : Int)) : ∃ x, x ∈ l ∧ Ev (fun k => spec_l20Rd_one.f k b p l) (x, p + 1) := by
  obtain ⟨v, hv, hv0, hv1⟩ := pick_lt hb p (l.length : Int) h0 h1 hl
  refine ⟨rd l v, rd_mem v hv0 hv1, ?_⟩
  unfold spec_l20Rd_one.f
  exact Ev.bind hv (Ev.ifp hv0 (Ev.ifp hv1 (Ev.now _)))

theorem of_ev {b : List Int} (hb : Code b) (p : Int) (l : List ByteArray) (h0 : 0 ≤ p) (h1 : p ≤ 1099511627776) (hl : 1 ≤ (l.length : Int)) : ∃ x, x ∈ l ∧ Ev (fun k => spec_l20Rd_of.f k b p l) (x, p + 1) := by
  obtain ⟨v, hv, hv0, hv1⟩ := pick_lt hb p (l.length : Int) h0 h1 hl
  refine ⟨rdOf ByteArray.empty l v, rdOf_mem _ v hv0 hv1, ?_⟩
  unfold spec_l20Rd_of.f
  exact Ev.bind hv (Ev.ifp hv0 (Ev.ifp hv1 (Ev.now _)))

theorem numbers_loop {b : List Int} (hb : Code b) : ∀ (d : Nat) (xs : List Int) (p : Int), 0 ≤ p → p + d ≤ 1000000000 → xs.length + d ≤ 1000 →
    ∃ ys q, Ev (fun k => spec_l20Numbers.l0 k xs (d : Int) b p) (ys, q) ∧ ys.length ≤ xs.length + d + 1 ∧ p ≤ q ∧ q ≤ p + d + 2
  | 0, xs, p, h0, h1, hx => by
    obtain ⟨v, hv, hv0, hv1⟩ := pick_lt hb p 12 h0 (by omega) (by omega)
    by_cases hz : v = 0
    · obtain ⟨x, _, hx1⟩ := one_ev hb (p + 1) ([(-1), 60000, 60001] : List Int) (by omega) (by omega) (by decide)
      refine ⟨xs ++ [x], p + 1 + 1, Ev.step (f := fun k => (spec_l20Rd_pick.f k b p 12).bind fun bt131 => (if bt131.1 = 0 then ((spec_l20Rd_one.f k b bt131.2 (([(-1), 60000, 60001] : List Int))).bind fun bt136 => (if xs.length < 17592186044416 then (some ((xs ++ [bt136.1]), bt136.2)) else (none))) else (some (xs, bt131.2)))) (fun k => ?_) (Ev.bind hv (Ev.ifp hz (Ev.bind hx1 (Ev.ifp (by omega) (Ev.now _))))), by rw [List.length_append, List.length_singleton]; omega, by omega, by omega⟩
      simp only [spec_l20Numbers.l0]
      rw [if_neg (by omega)]
    · refine ⟨xs, p + 1, Ev.step (f := fun k => (spec_l20Rd_pick.f k b p 12).bind fun bt131 => (if bt131.1 = 0 then ((spec_l20Rd_one.f k b bt131.2 (([(-1), 60000, 60001] : List Int))).bind fun bt136 => (if xs.length < 17592186044416 then (some ((xs ++ [bt136.1]), bt136.2)) else (none))) else (some (xs, bt131.2)))) (fun k => ?_) (Ev.bind hv (Ev.ifn hz (Ev.now _))), by omega, by omega, by omega⟩
      simp only [spec_l20Numbers.l0]
      rw [if_neg (by omega)]
  | d + 1, xs, p, h0, h1, hx => by
    obtain ⟨x, _, hx1⟩ := one_ev hb p ([0, 1, 5, 31, 32, 100, 700] : List Int) h0 (by omega) (by decide)
    obtain ⟨ys, q, hy, hl, hq0, hq1⟩ := numbers_loop hb d (xs ++ [x]) (p + 1) (by omega) (by omega) (by rw [List.length_append, List.length_singleton]; omega)
    rw [List.length_append, List.length_singleton] at hl
    refine ⟨ys, q, Ev.step (f := fun k => (spec_l20Rd_one.f k b p (([0, 1, 5, 31, 32, 100, 700] : List Int))).bind fun bt126 => (if xs.length < 17592186044416 then (spec_l20Numbers.l0 k (xs ++ [bt126.1]) (d : Int) b bt126.2) else (none))) (fun k => ?_) (Ev.bind hx1 (Ev.ifp (by omega) hy)), by omega, by omega, by omega⟩
    simp only [spec_l20Numbers.l0]
    rw [if_pos (by omega), w64 (by omega) (by omega), show ((d + 1 : Nat) : Int) - 1 = (d : Int) by omega]
theorem numbers_ev {b : List Int} (hb : Code b) (p : Int) (h0 : 0 ≤ p) (h1 : p ≤ 100000000) : ∃ ys q, Ev (fun k => spec_l20Numbers.f k b p) (ys, q) ∧ ys.length ≤ 21 ∧ p ≤ q ∧ q ≤ p + 30 := by
  obtain ⟨n, hn, hn1⟩ := one_ev hb p ([0, 1, 3, 8, 20] : List Int) h0 (by omega) (by decide)
  have hnn : 0 ≤ n ∧ n ≤ 20 := by
    simp only [List.mem_cons, List.not_mem_nil, or_false] at hn
    omega
  obtain ⟨ys, q, hy, hl, hq0, hq1⟩ := numbers_loop hb n.toNat [] (p + 1) (by omega) (by omega) (by rw [List.length_nil]; omega)
  rw [Int.toNat_of_nonneg hnn.1] at hy
  rw [List.length_nil] at hl
  refine ⟨ys, q, ?_, by omega, by omega, by omega⟩
  unfold spec_l20Numbers.f
  exact Ev.bind hn1 hy

theorem bent_ev {b : List Int} (hb : Code b) (p : Int) (s : ByteArray) (hs : s.size ≤ 1000000000) (h0 : 0 ≤ p) (h1 : p ≤ 100000000) : ∃ t q, Ev (fun k => spec_l20Bent.f k b p s) (t, q) ∧ t.size ≤ s.size + 1 ∧ p ≤ q ∧ q ≤ p + 3 := by
  obtain ⟨v, hv, hv0, hv1⟩ := pick_lt hb p ((s.size : Int) + 1) h0 (by omega) (by omega)
  obtain ⟨u, hu, hu0, hu1⟩ := pick_lt hb (p + 1) 5 (by omega) (by omega) (by omega)
  have hw : wrap64 ((s.size : Int) + 1) = (s.size : Int) + 1 := w64 (by omega) (by omega)
  rw [← hw] at hv
  unfold spec_l20Bent.f
  by_cases c0 : u = 0
  · by_cases c1 : v < (s.size : Int)
    · obtain ⟨x, hx, hx1⟩ := of_ev hb (p + 1 + 1) ([(⟨#[48]⟩ : ByteArray), (⟨#[97]⟩ : ByteArray), (⟨#[32]⟩ : ByteArray), (⟨#[0]⟩ : ByteArray), (⟨#[255]⟩ : ByteArray), (⟨#[128]⟩ : ByteArray), (⟨#[102]⟩ : ByteArray), (⟨#[10]⟩ : ByteArray)] : List ByteArray) (by omega) (by omega) (by decide)
      have hxs : x.size = 1 := by
        simp only [List.mem_cons, List.not_mem_nil, or_false] at hx
        rcases hx with rfl | rfl | rfl | rfl | rfl | rfl | rfl | rfl <;> rfl
      have hw2 : wrap64 (v + 1) = v + 1 := w64 (by omega) (by omega)
      have e1 : (s.extract 0 (v : Int).toNat).size ≤ v.toNat := by rw [ByteArray.size_extract]; omega
      have e2 : (s.extract ((wrap64 (v + 1)) : Int).toNat s.size).size = s.size - (v.toNat + 1) := by rw [hw2, ByteArray.size_extract]; omega
      have e3 : ((s.extract 0 (v : Int).toNat) ++ x).size ≤ v.toNat + 1 := by rw [ByteArray.size_append]; omega
      refine ⟨((s.extract 0 (v : Int).toNat) ++ x) ++ (s.extract ((wrap64 (v + 1)) : Int).toNat s.size), p + 1 + 1 + 1, Ev.bind hv (Ev.bind hu (Ev.ifp c0 (Ev.ifp c1 (Ev.ifp hv0 (Ev.ifp (by show v ≤ (s.size : Int); omega) (Ev.bind hx1 (Ev.ifp (by show (s.extract 0 (v : Int).toNat).size + x.size ≤ 9223372036854775807; omega) (Ev.ifp (by show 0 ≤ wrap64 (v + 1); omega) (Ev.ifp (by show wrap64 (v + 1) ≤ (s.size : Int); omega) (Ev.ifp (by show ((s.extract 0 (v : Int).toNat) ++ x).size + (s.extract ((wrap64 (v + 1)) : Int).toNat s.size).size ≤ 9223372036854775807; omega) (Ev.now _))))))))))), by rw [ByteArray.size_append]; omega, by omega, by omega⟩
    · exact ⟨s, p + 1 + 1, Ev.bind hv (Ev.bind hu (Ev.ifp c0 (Ev.ifn c1 (Ev.now _)))), by omega, by omega, by omega⟩
  · by_cases c1 : u = 1
    · refine ⟨s.extract 0 (v : Int).toNat, p + 1 + 1, Ev.bind hv (Ev.bind hu (Ev.ifn c0 (Ev.ifp c1 (Ev.ifp hv0 (Ev.ifp (by show v ≤ (s.size : Int); omega) (Ev.now _)))))), by rw [ByteArray.size_extract]; omega, by omega, by omega⟩
    · by_cases c2 : u = 2
      · obtain ⟨x, hx, hx1⟩ := of_ev hb (p + 1 + 1) ([(⟨#[48]⟩ : ByteArray), (⟨#[32]⟩ : ByteArray), (⟨#[0]⟩ : ByteArray), (⟨#[255]⟩ : ByteArray)] : List ByteArray) (by omega) (by omega) (by decide)
        have hxs : x.size = 1 := by
          simp only [List.mem_cons, List.not_mem_nil, or_false] at hx
          rcases hx with rfl | rfl | rfl | rfl <;> rfl
        exact ⟨s ++ x, p + 1 + 1 + 1, Ev.bind hv (Ev.bind hu (Ev.ifn c0 (Ev.ifn c1 (Ev.ifp c2 (Ev.bind hx1 (Ev.ifp (by show s.size + x.size ≤ 9223372036854775807; omega) (Ev.now _))))))), by rw [ByteArray.size_append]; omega, by omega, by omega⟩
      · exact ⟨s, p + 1 + 1, Ev.bind hv (Ev.bind hu (Ev.ifn c0 (Ev.ifn c1 (Ev.ifn c2 (Ev.now _))))), by omega, by omega, by omega⟩

open Go.Proofs.Ytipmgmiooanghaa.Rice in
theorem ricePut_size (xs : List Int) (b : Int) : (ricePut xs b).size ≤ 400000 := by
  unfold ricePut
  by_cases h : xs.length ≤ 40 ∧ (0 ≤ b ∧ b ≤ 8) ∧ (∀ x ∈ xs, numOk x)
  · rw [if_pos h, riceB_size]
    have hl : ∀ ys : List Int, (∀ x ∈ ys, numOk x) → (encL b ys).length ≤ 60009 * ys.length := by
      intro ys
      induction ys with
      | nil => intro _; exact Nat.zero_le _
      | cons y ys ih =>
        intro hy
        have h1 := enc_small h.2.1.1 h.2.1.2 (hy y List.mem_cons_self)
        have h2 := ih fun x hx => hy x (List.mem_cons_of_mem _ hx)
        rw [encL, List.length_append, List.length_cons]
        omega
    have := hl xs h.2.2
    omega
  · rw [if_neg h]; exact Nat.zero_le _
theorem drawGet_ev {l : List Int} (h : ∀ x ∈ l, 0 ≤ x ∧ x ≤ 255) : ∃ s many b, Ev (fun k => spec_DrawRiceGet.f k l) (s, many, b) ∧ s.size ≤ 400001 := by
  obtain ⟨c, hb, hc⟩ := open_ev h
  obtain ⟨ys, q, hy, hl, hq0, hq1⟩ := numbers_ev hc 0 (by omega) (by omega)
  obtain ⟨x, _, hx⟩ := one_ev hc q ([0, 2, 5, 8] : List Int) (by omega) (by omega) (by decide)
  obtain ⟨v, hv, hv0, hv1⟩ := pick_lt hc (q + 1) 3 (by omega) (by omega) (by omega)
  have hz := ricePut_size ys x
  have hr := specRicePut_ev ys x (by omega)
  generalize Go.Proofs.Ytipmgmiooanghaa.Rice.ricePut ys x = s at *
  by_cases c0 : v = 0
  · obtain ⟨t, q2, ht, hts, hq2, hq3⟩ := bent_ev hc (q + 1 + 1) s (by omega) (by omega) (by omega)
    obtain ⟨y, _, hy1⟩ := one_ev hc q2 ([0, 0, 0, 0, 1, (-1)] : List Int) (by omega) (by omega) (by decide)
    refine ⟨t, wrap64 ((ys.length : Int) + y), x, ?_, by omega⟩
    unfold spec_DrawRiceGet.f
    exact Ev.b hb (Ev.bind hy (Ev.bind hx (Ev.bind hr (Ev.bind hv (Ev.ifp c0 (Ev.bind ht (Ev.bind hy1 (Ev.now _))))))))
  · obtain ⟨y, _, hy1⟩ := one_ev hc (q + 1 + 1) ([0, 0, 0, 0, 1, (-1)] : List Int) (by omega) (by omega) (by decide)
    refine ⟨s, wrap64 ((ys.length : Int) + y), x, ?_, by omega⟩
    unfold spec_DrawRiceGet.f
    exact Ev.b hb (Ev.bind hy (Ev.bind hx (Ev.bind hr (Ev.bind hv (Ev.ifn c0 (Ev.bind hy1 (Ev.now _)))))))
open Go.Proofs.Ytipmgmiooanghaa.Rice in
theorem bit_prefix {s t : ByteArray} (hl : s.size ≤ t.size) (hb : ∀ i : Nat, i < s.size → bt t (i : Int) = bt s (i : Int)) (p : Int) (h0 : 0 ≤ p) (h1 : p < 8 * (s.size : Int)) : bitAt t p = bitAt s p := by
  rw [bitAt_of t p (by omega), bitAt_of s p h1]
  have := hb (p / 8).toNat (by omega)
  rw [Int.toNat_of_nonneg (by omega)] at this
  rw [this]
theorem bt_ext (s t : ByteArray) (i : Nat) (h : (bytesOf t).getD i 0 = (bytesOf s).getD i 0) : bt t (i : Int) = bt s (i : Int) := by
  rw [bt_get, bt_get, Int.toNat_natCast]; exact h
open Go.Proofs.Ytipmgmiooanghaa.Rice in
theorem FnRiceGet : laws_FnRiceGet.Pure := by
  intro l _ _ hw
  refine Ev.rounds (r := true) ?_
  obtain ⟨s, many, b, hd, hs⟩ := drawGet_ev (wf_bytes hw)
  unfold laws_FnRiceGet.f
  by_cases ha : (l.length : Int) > 1048576
  · exact Ev.ifp ha (Ev.now _)
  have hi := implRiceGet s many b (by omega)
  have hlen := riceGet_len s many b
  refine Ev.ifn ha (Ev.bind hd (Ev.b hi (Ev.bind (specRiceGet_ev s many b) (Ev.ifn (by simp) ?_))))
  refine Ev.bind (coInts_same (riceGet s many b).1 (by omega)) (Ev.ifp rfl ?_)
  by_cases ht : (riceGet s many b).2 = true
  · obtain ⟨hv, h6, hr, hg⟩ := riceGet_true ht
    rw [show (!(riceGet s many b).2) = false by rw [ht]; rfl]
    refine Ev.step (f := fun k => _) (fun k => by simp only [laws_FnRiceGet.j0]; exact if_neg (by simp)) ?_
    by_cases he : s.toList = ([] : List UInt8)
    · refine Ev.ifp he (Ev.at_ (Ev.now _) ?_)
      have hz : s.size = 0 := by rw [← bytes_len, (toList_nil_iff s).1 he]; rfl
      have h2 := enc_end s b hv.2.2.1 many.toNat 0
      have h3 := riceB_size b (nums1 s b many.toNat 0)
      rw [hr] at h3
      have h4 : (encL b (nums1 s b many.toNat 0)).length = 0 := by omega
      have hm : many.toNat = 0 := by
        rcases Nat.eq_zero_or_pos many.toNat with h | h
        · exact h
        · obtain ⟨m, hm⟩ : ∃ m, many.toNat = m + 1 := ⟨many.toNat - 1, by omega⟩
          rw [hm, nums1, encL, List.length_append, encN_len] at h4
          omega
      exact beq_iff_eq.2 (by omega)
    · refine Ev.ifn he ?_
      have hpos : 0 < s.size := by
        rcases Nat.eq_zero_or_pos s.size with h | h
        · exact absurd ((toList_nil_iff s).2 (List.eq_nil_of_length_eq_zero (by rw [bytes_len]; exact h))) he
        · exact h
      have hw1 : wrap64 ((s.size : Int) - 1) = (s.size : Int) - 1 := w64 (by omega) (by omega)
      have hwn : (wrap64 ((s.size : Int) - 1)).toNat = s.size - 1 := by rw [hw1]; omega
      have hcs : (s.extract 0 (s.size - 1)).size = s.size - 1 := by rw [ByteArray.size_extract]; omega
      have hms : (s ++ (⟨#[0]⟩ : ByteArray)).size = s.size + 1 := by rw [ByteArray.size_append]; rfl
      have hless : (riceGet (s.extract 0 (s.size - 1)) many b).2 = false := by
        rcases hk : (riceGet (s.extract 0 (s.size - 1)) many b).2 with _ | _
        · rfl
        · have := one_read (bit_prefix (s := s.extract 0 (s.size - 1)) (t := s) (by omega) (fun i hi => bt_ext _ _ i (by
            rw [bytes_extract, List.drop_zero, List.getD_eq_getElem?_getD, List.getD_eq_getElem?_getD, List.getElem?_take_of_lt (by omega)]))) hk ht
          rw [this] at hcs
          omega
      have hmore : (riceGet (s ++ (⟨#[0]⟩ : ByteArray)) many b).2 = false := by
        rcases hk : (riceGet (s ++ (⟨#[0]⟩ : ByteArray)) many b).2 with _ | _
        · rfl
        · have := one_read (bit_prefix (s := s) (t := s ++ (⟨#[0]⟩ : ByteArray)) (by omega) (fun i hi => bt_ext _ _ i (by
            rw [bytes_append, List.getD_eq_getElem?_getD, List.getD_eq_getElem?_getD, List.getElem?_append_left (by rw [bytes_len]; exact hi)]))) ht hk
          rw [← this] at hms
          omega
      refine Ev.ifp (by omega) (Ev.ifp (by omega) ?_)
      rw [hwn]
      refine Ev.b (implRiceGet _ many b (by omega)) (Ev.ifp (by omega) (Ev.b (implRiceGet _ many b (by omega)) ?_))
      rw [hless, hmore, hg]
      refine Ev.ifp (by show ((nums1 s b many.toNat 0).length : Int) = many; rw [nums1_len]; omega) ?_
      refine Ev.b (implRicePut (nums1 s b many.toNat 0) b (by rw [nums1_len]; omega)) ?_
      have hp : ricePut (nums1 s b many.toNat 0) b = s := by
        unfold ricePut
        rw [if_pos ⟨by rw [nums1_len]; omega, ⟨hv.2.2.1, hv.2.2.2.1⟩, fun x hx => ⟨nums1_ge s b _ _ x hx, h6 x hx⟩⟩, hr]
      rw [hp]
      exact Ev.ifp rfl (Ev.ifn (by simp) (Ev.now _))
  · have hf : (riceGet s many b).2 = false := by rcases h : (riceGet s many b).2 with _ | _; rfl; exact absurd h ht
    rw [show (!(riceGet s many b).2) = true by rw [hf]; rfl]
    refine Ev.step (f := fun k => _) (fun k => by simp only [laws_FnRiceGet.j0]; exact if_pos trivial) ?_
    exact Ev.ifp (beq_self_eq_true _) (Ev.bind (coInts_same (riceGet s many b).1 (by omega)) (Ev.now _))

end Go.Proofs.Ytipmgmiooanghaa.Pure
