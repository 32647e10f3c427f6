/- The statement FnExactRiceGet, in plain Lean. Conditions: none beyond those that the statement tells. -/
import Derived.Test.YtipmgmiooanghaaPFnExactRiceGetx2
import Derived.Test.YtipmgmiooanghaaPd
import Derived.Test.YtipmgmiooanghaaRx
namespace Go.Proofs.Ytipmgmiooanghaa.Pure
open Go Go.RowKit Go.Proofs.Ytipmgmiooanghaa.PFnExactRiceGet Go.Proofs.YtipmgmiooanghaaW.PrintWords Go.Proofs.YtipmgmiooanghaaW.PrintLast Go.Proofs.YtipmgmiooanghaaW.PrintMore Go.Proofs.Ytipmgmiooanghaa.Pl
set_option linter.unusedVariables false

theorem specIn (a b c : Int) : spec_l1In.f a b c = some (decide (b ≤ a ∧ a ≤ c)) := by
  unfold spec_l1In.f
  by_cases h : a ≥ b
  · rw [if_pos h]; congr 1; exact decide_eq_decide.2 ⟨fun k => ⟨h, k⟩, fun k => k.2⟩
  · rw [if_neg h]; congr 1; exact (decide_eq_false (fun k => h k.1)).symm

theorem eqInts_loop (a b : List Int) (hl : a.length = b.length) (hm : a.length ≤ 1000000000000) : ∀ (d i : Nat), i + d = a.length → Ev (fun k => laws_eqIntS.l0 k a b (i : Int)) (decide (a.drop i = b.drop i))
  | 0, i, h => by
    refine Ev.step (f := fun _ => some true) (fun k => ?_) (Ev.at_ (Ev.now _) ?_)
    · simp only [laws_eqIntS.l0]; rw [if_neg (by omega)]
    · rw [List.drop_eq_nil_of_le (by omega), List.drop_eq_nil_of_le (by omega)]; exact (decide_eq_true rfl).symm
  | d + 1, i, h => by
    have ha : i < a.length := by omega
    have hb : i < b.length := by omega
    have ra : rd a (i : Int) = a[i] := by unfold rd; rw [Int.toNat_natCast, List.getD_eq_getElem?_getD, List.getElem?_eq_getElem ha, Option.getD_some]
    have rb : rd b (i : Int) = b[i] := by unfold rd; rw [Int.toNat_natCast, List.getD_eq_getElem?_getD, List.getElem?_eq_getElem hb, Option.getD_some]
    rw [List.drop_eq_getElem_cons ha, List.drop_eq_getElem_cons hb]
    by_cases e : a[i] = b[i]
    · refine Ev.step (f := fun k => laws_eqIntS.l0 k a b ((i + 1 : Nat) : Int)) (fun k => ?_) (Ev.at_ (eqInts_loop a b hl hm d (i + 1) (by omega)) (decide_eq_decide.2 ⟨fun h => by rw [e, h], fun h => (List.cons.inj h).2⟩))
      simp only [laws_eqIntS.l0]
      rw [if_pos (by omega), if_pos (by omega), if_pos (by omega), ra, rb, if_pos e, w64 (by omega) (by omega)]
      rfl
    · refine Ev.step (f := fun _ => some false) (fun k => ?_) (Ev.at_ (Ev.now _) (decide_eq_false fun h => e (List.cons.inj h).1).symm)
      simp only [laws_eqIntS.l0]
      rw [if_pos (by omega), if_pos (by omega), if_pos (by omega), ra, rb, if_neg e]
theorem eqInts_ev (a b : List Int) (hm : a.length ≤ 1000000000000) : Ev (fun k => laws_eqIntS.f k a b) (decide (a = b)) := by
  unfold laws_eqIntS.f
  by_cases hl : a.length = b.length
  · exact Ev.ifp (by omega) (eqInts_loop a b hl hm a.length 0 (by omega))
  · exact Ev.ifn (by omega) (Ev.at_ (Ev.now _) (decide_eq_false fun h => hl (by rw [h])).symm)
theorem eqInts_same (a : List Int) (hm : a.length ≤ 1000000000000) : Ev (fun k => laws_eqIntS.f k a a) true := Ev.at_ (eqInts_ev a a hm) (decide_eq_true rfl)

def up (n : Nat) : List Int := (List.range n).map fun j : Nat => ((j : Nat) : Int) + 1
theorem up_len (n : Nat) : (up n).length = n := by simp [up]
theorem up_snoc (n : Nat) : up (n + 1) = up n ++ [(n : Int) + 1] := by simp [up, List.range_succ]
theorem up_rd (n i : Nat) (h : i < n) : rd (up n) (i : Int) = (i : Int) + 1 := by
  unfold rd up
  rw [Int.toNat_natCast, List.getD_eq_getElem?_getD, List.getElem?_map, List.getElem?_range h]
  rfl
theorem mark_loop (l : List Int) (hm : l.length ≤ 1000000000000) : ∀ (d i : Nat), i + d = l.length → Ev (fun k => laws_markIntS.l0 k (up i ++ l.drop i) ((i : Int) + 1) (i : Int)) ((l.length : Int) + 1, up l.length)
  | 0, i, h => by
    obtain rfl : i = l.length := by omega
    refine Ev.step (f := fun _ => some ((l.length : Int) + 1, up l.length)) (fun k => ?_) (Ev.now _)
    simp only [laws_markIntS.l0]
    rw [List.drop_length, List.append_nil, if_neg (by rw [up_len]; omega)]
  | d + 1, i, h => by
    have hi : i < l.length := by omega
    refine Ev.step (f := fun k => laws_markIntS.l0 k (up (i + 1) ++ l.drop (i + 1)) (((i + 1 : Nat) : Int) + 1) ((i + 1 : Nat) : Int)) (fun k => ?_) (mark_loop l hm d (i + 1) (by omega))
    simp only [laws_markIntS.l0]
    rw [if_pos (by rw [List.length_append, up_len, List.length_drop]; omega), if_pos (by omega), Int.toNat_natCast, List.set_append_right _ _ (by rw [up_len]; omega), up_len, Nat.sub_self, List.drop_eq_getElem_cons hi, List.set_cons_zero, up_snoc, List.append_assoc, w64 (by omega) (by omega), w64 (by omega) (by omega)]
    rfl
theorem held_loop (n : Nat) (hm : n ≤ 1000000000000) : ∀ (d i : Nat), i + d = n → Ev (fun k => laws_heldIntS.l0 k (up n) ((i : Int) + 1) (i : Int)) ((n : Int) + 1)
  | 0, i, h => by
    obtain rfl : i = n := by omega
    refine Ev.step (f := fun _ => some ((i : Int) + 1)) (fun k => ?_) (Ev.now _)
    simp only [laws_heldIntS.l0]
    rw [if_neg (by rw [up_len]; omega)]
  | d + 1, i, h => by
    refine Ev.step (f := fun k => laws_heldIntS.l0 k (up n) (((i + 1 : Nat) : Int) + 1) ((i + 1 : Nat) : Int)) (fun k => ?_) (held_loop n hm d (i + 1) (by omega))
    simp only [laws_heldIntS.l0]
    rw [if_pos (by rw [up_len]; omega), if_pos (by omega), up_rd n i (by omega), if_pos rfl, w64 (by omega) (by omega), w64 (by omega) (by omega)]
    rfl
theorem mark_ev (l : List Int) (hm : l.length ≤ 1000000000000) : Ev (fun k => laws_markIntS.f k l 1) ((l.length : Int) + 1, up l.length) := mark_loop l hm l.length 0 (by omega)
theorem held_ev (n : Nat) (hm : n ≤ 1000000000000) : Ev (fun k => laws_heldIntS.f k (up n) 1) ((n : Int) + 1) := held_loop n hm n 0 (by omega)

open Go.Proofs.Ytipmgmiooanghaa.Rice in
theorem specBit_in (s : ByteArray) (p : Int) (h0 : 0 ≤ p) (h1 : p < 8 * (s.size : Int)) (hs : s.size ≤ 600) : spec_l2Bit.f s p = some (bitAt s p) := by
  unfold spec_l2Bit.f
  have e : Int.tdiv p 8 = p / 8 := Int.tdiv_eq_ediv_of_nonneg h0
  have e2 : Int.tmod p 8 = p % 8 := Int.tmod_eq_emod_of_nonneg h0
  rw [e, e2, w64 (by omega) (by omega), w64 (show -9223372036854775808 ≤ 7 - p % 8 by omega) (by omega)]
  obtain ⟨hb0, hb1⟩ := bt_range s (p / 8)
  rw [w64 (show -9223372036854775808 ≤ bt s (p / 8) by omega) (by omega), if_neg (by omega), if_pos (by omega), if_pos (by omega), if_pos (by omega), bitAt_of s p h1]
  congr 1
  have hsh : shr .i64 (bt s (p / 8)) (7 - p % 8) = bt s (p / 8) / 2 ^ (7 - p % 8).toNat := by
    unfold shr
    rw [Nat.min_eq_left (by have : IntKind.i64.bits = 64 := rfl; omega)]
  rw [hsh]
  exact Int.tmod_eq_emod_of_nonneg (Int.ediv_nonneg hb0 (Int.pow_nonneg (by omega)))
open Go.Proofs.Ytipmgmiooanghaa.Rice in
theorem specBit_out (s : ByteArray) (p : Int) (h1 : 8 * (s.size : Int) ≤ p) (h2 : p ≤ 1000000) : spec_l2Bit.f s p = some (-1) := by
  unfold spec_l2Bit.f
  have e : Int.tdiv p 8 = p / 8 := Int.tdiv_eq_ediv_of_nonneg (by omega)
  rw [e, w64 (by omega) (by omega), if_pos (by omega)]
open Go.Proofs.Ytipmgmiooanghaa.Rice in
theorem specRest_in (s : ByteArray) (hs : s.size ≤ 600) (m b : Int) (hb0 : 0 ≤ b) (hb8 : b ≤ 8) (xs : List Int) (hx : xs.length ≤ 40) (r : List Int × Int) :
    ∀ (c : Nat) (n p : Int), (c : Int) ≤ b → 0 ≤ p → p + c ≤ 8 * (s.size : Int) → 0 ≤ n → n + 1 ≤ 5000 * 2 ^ (b.toNat - c) →
      Ev (fun k => if restV (bitAt s) c p n > 60000 then some (([] : List Int), (-1 : Int)) else spec_l2Read.l0 k s m b (xs ++ [restV (bitAt s) c p n]) (p + c)) r → Ev (fun k => spec_l2Read.l2 k s m b xs p n (b - c)) r
  | 0, n, p, hc, hp0, hp1, hn0, hn1, h => by
    refine Ev.step (f := fun k => if restV (bitAt s) 0 p n > 60000 then some (([] : List Int), (-1 : Int)) else spec_l2Read.l0 k s m b (xs ++ [restV (bitAt s) 0 p n]) (p + ((0 : Nat) : Int))) (fun k => ?_) h
    simp only [spec_l2Read.l2, restV]
    rw [if_neg (by omega), w64 (by omega) (by omega), if_neg (by omega), show p + ((0 : Nat) : Int) = p by omega]
    by_cases h6 : n > 60000
    · rw [if_pos h6]; exact (if_pos h6).symm
    · rw [if_neg h6, if_pos (by omega)]; exact (if_neg h6).symm
  | c + 1, n, p, hc, hp0, hp1, hn0, hn1, h => by
    obtain ⟨h0, h1⟩ := bitAt_range s p
    have hpw : (2 : Int) ^ (b.toNat - c) = 2 * 2 ^ (b.toNat - (c + 1)) := by
      rw [show b.toNat - c = b.toNat - (c + 1) + 1 by omega, Int.pow_succ]; omega
    have hn := (pow8 (show b.toNat - (c + 1) ≤ 8 by omega)).2
    refine Ev.step (f := fun k => spec_l2Read.l2 k s m b xs (p + 1) (2 * n + bitAt s p) (b - c)) (fun k => ?_) (specRest_in s hs m b hb0 hb8 xs hx r c (2 * n + bitAt s p) (p + 1) (by omega) (by omega) (by omega) (by omega) (by omega) ?_)
    · simp only [spec_l2Read.l2]
      rw [if_pos (by omega), specBit_in s p hp0 (by omega) hs, Option.bind_some, w64 (show -9223372036854775808 ≤ p + 1 by omega) (by omega), w64 (show -9223372036854775808 ≤ n * 2 by omega) (by omega), w64 (show -9223372036854775808 ≤ n * 2 + bitAt s p by omega) (by omega), w64 (show -9223372036854775808 ≤ b - ((c + 1 : Nat) : Int) + 1 by omega) (by omega), show b - ((c + 1 : Nat) : Int) + 1 = b - c by omega, Int.mul_comm n 2]
    · rw [show p + 1 + (c : Int) = p + ((c + 1 : Nat) : Int) by omega]
      exact h
open Go.Proofs.Ytipmgmiooanghaa.Rice in
theorem specBit_any (s : ByteArray) (hs : s.size ≤ 600) (p : Int) (h0 : 0 ≤ p) (h2 : p ≤ 1000000) : ∃ t, spec_l2Bit.f s p = some t ∧ -1 ≤ t ∧ t ≤ 1 := by
  by_cases h : p < 8 * (s.size : Int)
  · exact ⟨_, specBit_in s p h0 h hs, by have := (bitAt_range s p).1; omega, (bitAt_range s p).2⟩
  · exact ⟨_, specBit_out s p (by omega) h2, by omega, by omega⟩
open Go.Proofs.Ytipmgmiooanghaa.Rice in
theorem specRest_out (s : ByteArray) (hs : s.size ≤ 600) (m b : Int) (hb0 : 0 ≤ b) (hb8 : b ≤ 8) (xs : List Int) :
    ∀ (c : Nat) (n p : Int), (c : Int) ≤ b → 0 ≤ p → p + c ≤ 100000 → 8 * (s.size : Int) < p + c → -(5000 * 2 ^ (b.toNat - c)) < n → n < 5000 * 2 ^ (b.toNat - c) →
      Ev (fun k => spec_l2Read.l2 k s m b xs p n (b - c)) ([], -1)
  | 0, n, p, hc, hp0, hp1, hp2, hn0, hn1 => by
    refine Ev.step (f := fun _ => some ([], -1)) (fun k => ?_) (Ev.now _)
    simp only [spec_l2Read.l2]
    rw [if_neg (by omega), w64 (by omega) (by omega), if_pos (by omega)]
  | c + 1, n, p, hc, hp0, hp1, hp2, hn0, hn1 => by
    obtain ⟨t, ht, ht0, ht1⟩ := specBit_any s hs p hp0 (by omega)
    have hpw : (2 : Int) ^ (b.toNat - c) = 2 * 2 ^ (b.toNat - (c + 1)) := by
      rw [show b.toNat - c = b.toNat - (c + 1) + 1 by omega, Int.pow_succ]; omega
    have hn := (pow8 (show b.toNat - (c + 1) ≤ 8 by omega)).2
    refine Ev.step (f := fun k => spec_l2Read.l2 k s m b xs (p + 1) (n * 2 + t) (b - c)) (fun k => ?_) (specRest_out s hs m b hb0 hb8 xs c (n * 2 + t) (p + 1) (by omega) (by omega) (by omega) (by omega) (by omega) (by omega))
    simp only [spec_l2Read.l2]
    rw [if_pos (by omega), ht, Option.bind_some, w64 (show -9223372036854775808 ≤ p + 1 by omega) (by omega), w64 (show -9223372036854775808 ≤ n * 2 by omega) (by omega), w64 (show -9223372036854775808 ≤ n * 2 + t by omega) (by omega), w64 (show -9223372036854775808 ≤ b - ((c + 1 : Nat) : Int) + 1 by omega) (by omega), show b - ((c + 1 : Nat) : Int) + 1 = b - c by omega]
open Go.Proofs.Ytipmgmiooanghaa.Rice in
theorem specOnes (s : ByteArray) (hs : s.size ≤ 600) (m b : Int) (xs : List Int) (r : List Int × Int) :
    ∀ (q : Nat) (n p : Int), ones s p = q → 0 ≤ p → p ≤ 100000 → 0 ≤ n → n + q ≤ 4800 → Ev (fun k => spec_l2Read.l2 k s m b xs (p + q + 1) (n + q) 0) r → Ev (fun k => spec_l2Read.l1 k s m b xs p n) r
  | 0, n, p, hq, hp0, hp1, hn0, hn1, h => by
    have h1 : ¬ bitAt s p = 1 := fun h => by rw [ones_one h] at hq; omega
    refine Ev.step (f := fun k => spec_l2Read.l2 k s m b xs (p + 1) n 0) (fun k => ?_) (by simpa using h)
    simp only [spec_l2Read.l1]
    by_cases hp : p < 8 * (s.size : Int)
    · rw [specBit_in s p hp0 hp hs, Option.bind_some, if_neg h1, w64 (by omega) (by omega)]
    · rw [specBit_out s p (by omega) (by omega), Option.bind_some, if_neg (by omega), w64 (by omega) (by omega)]
  | q + 1, n, p, hq, hp0, hp1, hn0, hn1, h => by
    have h1 : bitAt s p = 1 := Classical.byContradiction fun h => by rw [ones_not h] at hq; omega
    have hp : p < 8 * (s.size : Int) := by
      rcases Int.lt_or_le p (8 * (s.size : Int)) with hp | hp
      · exact hp
      · rw [bitAt_out s p hp] at h1; omega
    rw [ones_one h1] at hq
    refine Ev.step (f := fun k => spec_l2Read.l1 k s m b xs (p + 1) (n + 1)) (fun k => ?_) (specOnes s hs m b xs r q (n + 1) (p + 1) (by omega) (by omega) (by omega) (by omega) (by omega) ?_)
    · simp only [spec_l2Read.l1]
      rw [specBit_in s p hp0 hp hs, Option.bind_some, if_pos h1, w64 (by omega) (by omega), w64 (by omega) (by omega)]
    · rw [show p + 1 + (q : Int) + 1 = p + ((q + 1 : Nat) : Int) + 1 by omega, show n + 1 + (q : Int) = n + ((q + 1 : Nat) : Int) by omega]
      exact h
/-- What l2Read answers. -/
def readR (s : ByteArray) (b : Int) (d : Nat) (p : Int) (xs : List Int) : List Int × Int :=
  if (∀ x ∈ Go.Proofs.Ytipmgmiooanghaa.Rice.nums1 s b d p, x ≤ 60000) ∧ Go.Proofs.Ytipmgmiooanghaa.Rice.endN s b d p ≤ 8 * (s.size : Int) then (xs ++ Go.Proofs.Ytipmgmiooanghaa.Rice.nums1 s b d p, Go.Proofs.Ytipmgmiooanghaa.Rice.endN s b d p) else ([], -1)
open Go.Proofs.Ytipmgmiooanghaa.Rice in
theorem specRead_loop (s : ByteArray) (hs : s.size ≤ 600) (b : Int) (hb0 : 0 ≤ b) (hb8 : b ≤ 8) : ∀ (d i : Nat) (p : Int) (xs : List Int), xs.length = i → i + d ≤ 40 → 0 ≤ p → p ≤ 8 * (s.size : Int) → Ev (fun k => spec_l2Read.l0 k s ((i + d : Nat) : Int) b xs p) (readR s b d p xs)
  | 0, i, p, xs, hx, hi, hp0, hp1 => by
    refine Ev.step (f := fun _ => some (xs, p)) (fun k => ?_) (Ev.at_ (Ev.now _) ?_)
    · simp only [spec_l2Read.l0]
      rw [if_neg (by omega)]
    · unfold readR
      rw [if_pos (show (∀ x ∈ nums1 s b 0 p, x ≤ 60000) ∧ endN s b 0 p ≤ 8 * (s.size : Int) from ⟨fun x hx => by simp [nums1] at hx, hp1⟩)]
      simp [nums1, endN]
  | d + 1, i, p, xs, hx, hi, hp0, hp1 => by
    have hl := ones_end s p
    refine Ev.step (f := fun k => spec_l2Read.l1 k s ((i + (d + 1) : Nat) : Int) b xs p 0) (fun k => ?_) (specOnes s hs _ b xs _ (ones s p) 0 p rfl hp0 (by omega) (by omega) (by omega) ?_)
    · simp only [spec_l2Read.l0]
      rw [if_pos (by omega)]
    have hz : b.toNat - b.toNat = 0 := by omega
    have hbe : b - ((b.toNat : Nat) : Int) = 0 := by omega
    have hv : restV (bitAt s) b.toNat (p + (ones s p : Int) + 1) (0 + (ones s p : Int)) = numAt s b p := by rw [Int.zero_add]; rfl
    have he : p + (ones s p : Int) + 1 + ((b.toNat : Nat) : Int) = endAt s b p := by unfold endAt; omega
    have hge := endN_ge s b hb0 d (endAt s b p)
    by_cases hin : endAt s b p ≤ 8 * (s.size : Int)
    · have hr := specRest_in s hs ((i + (d + 1) : Nat) : Int) b hb0 hb8 xs (by omega) (readR s b (d + 1) p xs) b.toNat (0 + (ones s p : Int)) (p + (ones s p : Int) + 1) (by omega) (by omega) (by omega) (by omega) (by rw [hz]; omega) (by
        rw [hv, he]
        by_cases hn : numAt s b p > 60000
        · refine Ev.ifp hn (Ev.at_ (Ev.now _) ?_)
          unfold readR
          rw [if_neg (fun h => by have := h.1 (numAt s b p) (by simp [nums1]); omega)]
        · refine Ev.ifn hn (Ev.at_ (specRead_loop s hs b hb0 hb8 d (i + 1) (endAt s b p) (xs ++ [numAt s b p]) (by rw [List.length_append, List.length_singleton, hx]) (by omega) (by unfold endAt; omega) hin |> fun h => by rw [show ((i + (d + 1) : Nat) : Int) = ((i + 1 + d : Nat) : Int) by omega]; exact h) ?_)
          unfold readR
          simp only [nums1, endN, List.append_assoc, List.cons_append, List.nil_append]
          have e : (∀ x ∈ numAt s b p :: nums1 s b d (endAt s b p), x ≤ 60000) ↔ (∀ x ∈ nums1 s b d (endAt s b p), x ≤ 60000) :=
            ⟨fun h x hx => h x (List.mem_cons_of_mem _ hx), fun h x hx => (List.mem_cons.1 hx).elim (fun e => by rw [e]; omega) (h x)⟩
          simp only [e])
      rw [hbe] at hr
      exact hr
    · have hr := specRest_out s hs ((i + (d + 1) : Nat) : Int) b hb0 hb8 xs b.toNat (0 + (ones s p : Int)) (p + (ones s p : Int) + 1) (by omega) (by omega) (by omega) (by omega) (by rw [hz]; omega) (by rw [hz]; omega)
      rw [hbe] at hr
      refine Ev.at_ hr ?_
      unfold readR
      rw [if_neg (fun h => by have := h.2; rw [endN] at this; omega)]
open Go.Proofs.Ytipmgmiooanghaa.Rice in
theorem specRiceGet_ev (s : ByteArray) (many b : Int) : Ev (fun k => spec_RiceGet.f k s many b) (riceGet s many b) := by
  unfold spec_RiceGet.f
  refine Ev.b (specIn many 0 40) ?_
  by_cases hm : 0 ≤ many ∧ many ≤ 40
  · refine Ev.ifp (decide_eq_true hm) (Ev.b (specIn b 0 8) ?_)
    by_cases hb : 0 ≤ b ∧ b ≤ 8
    · refine Ev.ifp (decide_eq_true hb) ?_
      by_cases hs : s.size ≤ 600
      · refine Ev.step (f := fun k => (spec_l2Read.f k s many b).bind fun bt113 => (if bt113.2 < 0 then (some (([] : List Int), false)) else ((spec_l2Rice.f bt113.1 b).bind fun t117 => (if t117.toList = s.toList then (some (bt113.1, true)) else (some (([] : List Int), false)))))) (fun k => ?_) ?_
        · simp only [spec_RiceGet.j0]
          rw [if_neg (by rw [decide_eq_true_iff]; omega)]
        · have hr := specRead_loop s hs b hb.1 hb.2 many.toNat 0 0 [] rfl (by omega) (by omega) (by omega)
          rw [show ((0 + many.toNat : Nat) : Int) = many by omega] at hr
          refine Ev.bind (g := fun k => spec_l2Read.f k s many b) (by unfold spec_l2Read.f; exact hr) ?_
          unfold readR
          by_cases h : (∀ x ∈ nums1 s b many.toNat 0, x ≤ 60000) ∧ endN s b many.toNat 0 ≤ 8 * (s.size : Int)
          · rw [if_pos h]
            have hge := endN_ge s b hb.1 many.toNat 0
            refine Ev.ifn (by show ¬ endN s b many.toNat 0 < 0; omega) ?_
            simp only [List.nil_append]
            refine Ev.b (a := riceB b (nums1 s b many.toNat 0)) ?_ ?_
            · unfold spec_l2Rice.f
              rw [if_pos ⟨by rw [nums1_len]; omega, hb.1, hb.2, fun x hx => ⟨nums1_ge s b _ _ x hx, h.1 x hx⟩⟩]
            · by_cases e : riceB b (nums1 s b many.toNat 0) = s
              · refine Ev.at_ (Ev.ifp (by rw [e]) (Ev.now _)) ?_
                unfold riceGet
                rw [if_pos ⟨⟨hm.1, hm.2, hb.1, hb.2, hs⟩, h.1, e⟩]
              · refine Ev.at_ (Ev.ifn (fun k => e ((toList_iff' _ _).1 k)) (Ev.now _)) ?_
                unfold riceGet
                rw [if_neg (fun k => e k.2.2)]
          · rw [if_neg h]
            refine Ev.ifp (by show (-1 : Int) < 0; omega) (Ev.at_ (Ev.now _) ?_)
            unfold riceGet
            rw [if_neg (fun k => h ⟨k.2.1, read_in hb.1 k.2.2⟩)]
      · refine Ev.step (f := fun _ => some ([], false)) (fun k => ?_) (Ev.at_ (Ev.now _) (by unfold riceGet; rw [if_neg (fun k => hs k.1.2.2.2.2)]))
        simp only [spec_RiceGet.j0]
        rw [if_pos (by rw [decide_eq_true_iff]; omega)]
    · refine Ev.ifn (by rw [decide_eq_true_iff]; exact hb) (Ev.step (f := fun _ => some ([], false)) (fun k => ?_) (Ev.at_ (Ev.now _) (by unfold riceGet; rw [if_neg (fun k => hb ⟨k.1.2.2.1, k.1.2.2.2.1⟩)])))
      simp only [spec_RiceGet.j0]
      exact if_pos trivial
  · refine Ev.ifn (by rw [decide_eq_true_iff]; exact hm) (Ev.step (f := fun _ => some ([], false)) (fun k => ?_) (Ev.at_ (Ev.now _) (by unfold riceGet; rw [if_neg (fun k => hm ⟨k.1.1, k.1.2.1⟩)])))
    simp only [spec_RiceGet.j0]
    exact if_pos trivial

theorem implRiceGet (s : ByteArray) (many b : Int) (hm : s.size ≤ 1000000000) : impl_RiceGet.f s many b = some (Go.Proofs.Ytipmgmiooanghaa.Rice.riceGet s many b) := by
  unfold impl_RiceGet.f; rw [if_pos hm]

theorem riceGet_len (s : ByteArray) (many b : Int) : (Go.Proofs.Ytipmgmiooanghaa.Rice.riceGet s many b).1.length ≤ 40 := by
  unfold Go.Proofs.Ytipmgmiooanghaa.Rice.riceGet
  split
  · rename_i h
    have := h.1.2.1
    show (Go.Proofs.Ytipmgmiooanghaa.Rice.nums1 s b many.toNat 0).length ≤ 40
    rw [Go.Proofs.Ytipmgmiooanghaa.Rice.nums1_len]
    omega
  · exact Nat.zero_le _
theorem FnExactRiceGet : laws_FnExactRiceGet.Pure := by
  intro s many b _ _ _
  refine Ev.rounds (r := true) ?_
  unfold laws_FnExactRiceGet.f
  by_cases h : (s.size : Int) > 1048576
  · exact Ev.ifp h (Ev.now _)
  · refine Ev.ifn h ?_
    have hl := riceGet_len s many b
    have hi := implRiceGet s many b (by omega)
    refine Ev.bind (specRiceGet_ev s many b) (Ev.b hi ?_)
    generalize Go.Proofs.Ytipmgmiooanghaa.Rice.riceGet s many b = r at *
    refine Ev.bind (eqInts_same r.1 (by omega)) (Ev.ifp rfl ?_)
    refine Ev.step (f := fun k => _) (fun k => by simp only [laws_FnExactRiceGet.j0]; rfl) ?_
    refine Ev.ifn (by simp) (Ev.bind (mark_ev r.1 (by omega)) (Ev.bind (held_ev r.1.length (by omega)) ?_))
    refine Ev.ifn (by show ¬ (r.1.length : Int) + 1 < 0; omega) (Ev.ifp rfl (Ev.b hi (Ev.bind (eqInts_same r.1 (by omega)) (Ev.ifp rfl ?_))))
    refine Ev.step (f := fun k => _) (fun k => by simp only [laws_FnExactRiceGet.j1]; rfl) ?_
    exact Ev.ifn (by simp) (Ev.bind (held_ev r.1.length (by omega)) (Ev.ifn (by show ¬ (r.1.length : Int) + 1 < 0; omega) (Ev.ifp rfl (Ev.now _))))

end Go.Proofs.Ytipmgmiooanghaa.Pure
