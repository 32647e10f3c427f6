/- What RiceGet reads, as a plain function of the text. Conditions: those in each theorem. -/
import Derived.Test.YtipmgmiooanghaaRu
namespace Go.Proofs.Ytipmgmiooanghaa.Rice
open Go Go.RowKit Go.Proofs.YtipmgmiooanghaaW.PrintWords Go.Proofs.Ytipmgmiooanghaa.Pl
set_option linter.unusedVariables false
/-- How many ones stand at p; c places are looked at. -/
def onesC (f : Int → Int) : Nat → Int → Nat
  | 0, _ => 0
  | c + 1, p => if f p = 1 then onesC f c (p + 1) + 1 else 0
def ones (s : ByteArray) (p : Int) : Nat := onesC (bitAt s) (8 * (s.size : Int) - p).toNat p
theorem bitAt_out (s : ByteArray) (p : Int) (h : 8 * (s.size : Int) ≤ p) : bitAt s p = 0 := by unfold bitAt; rw [if_pos h]
theorem ones_one {s : ByteArray} {p : Int} (h : bitAt s p = 1) : ones s p = ones s (p + 1) + 1 := by
  have hp : p < 8 * (s.size : Int) := by
    rcases Int.lt_or_le p (8 * (s.size : Int)) with hp | hp
    · exact hp
    · rw [bitAt_out s p hp] at h; omega
  unfold ones
  rw [show (8 * (s.size : Int) - p).toNat = (8 * (s.size : Int) - (p + 1)).toNat + 1 by omega]
  simp only [onesC]
  rw [if_pos h]
theorem ones_not {s : ByteArray} {p : Int} (h : ¬ bitAt s p = 1) : ones s p = 0 := by
  unfold ones
  generalize (8 * (s.size : Int) - p).toNat = c
  cases c with
  | zero => rfl
  | succ c => simp only [onesC]; rw [if_neg h]
theorem ones_le (s : ByteArray) : ∀ (c : Nat) (p : Int), (onesC (bitAt s) c p : Int) ≤ c
  | 0, p => by simp [onesC]
  | c + 1, p => by
    have := ones_le s c (p + 1)
    simp only [onesC]
    split <;> omega
theorem ones_end (s : ByteArray) (p : Int) : ones s p = 0 ∨ p + ones s p ≤ 8 * (s.size : Int) := by
  have := ones_le s (8 * (s.size : Int) - p).toNat p
  unfold ones
  omega
/-- A number of c bits more. -/
def restV (f : Int → Int) : Nat → Int → Int → Int
  | 0, _, n => n
  | c + 1, p, n => restV f c (p + 1) (2 * n + f p)
def numAt (s : ByteArray) (b p : Int) : Int := restV (bitAt s) b.toNat (p + ones s p + 1) (ones s p)
def endAt (s : ByteArray) (b p : Int) : Int := p + ones s p + 1 + b
def nums1 (s : ByteArray) (b : Int) : Nat → Int → List Int
  | 0, _ => []
  | m + 1, p => numAt s b p :: nums1 s b m (endAt s b p)
def endN (s : ByteArray) (b : Int) : Nat → Int → Int
  | 0, p => p
  | m + 1, p => endN s b m (endAt s b p)
theorem nums1_len (s : ByteArray) (b : Int) : ∀ m p, (nums1 s b m p).length = m
  | 0, _ => rfl
  | m + 1, p => by simp [nums1, nums1_len s b m]
theorem restV_ge (s : ByteArray) : ∀ (c : Nat) (p n : Int), 0 ≤ n → 0 ≤ restV (bitAt s) c p n
  | 0, p, n, h => h
  | c + 1, p, n, h => restV_ge s c (p + 1) _ (by have := (bitAt_range s p).1; omega)
theorem numAt_ge (s : ByteArray) (b p : Int) : 0 ≤ numAt s b p := restV_ge s _ _ _ (by omega)
theorem nums1_ge (s : ByteArray) (b : Int) : ∀ m p, ∀ x ∈ nums1 s b m p, 0 ≤ x
  | 0, _, x, hx => by simp [nums1] at hx
  | m + 1, p, x, hx => by
    rcases List.mem_cons.1 hx with rfl | hx
    · exact numAt_ge s b p
    · exact nums1_ge s b m _ x hx
theorem pow8 {k : Nat} (h : k ≤ 8) : (1 : Int) ≤ 2 ^ k ∧ (2 : Int) ^ k ≤ 256 := by
  have : ∀ j : Fin 9, (1 : Int) ≤ 2 ^ j.val ∧ (2 : Int) ^ j.val ≤ 256 := by decide
  exact this ⟨k, by omega⟩
/-- RiceGet from the loop over the rest's bits on. -/
theorem get2_comes (put : List Int → Int → ByteArray) (s : ByteArray) (many b i : Int) (hb : 0 ≤ b) (hb8 : b ≤ 8) (xs : List Int) (r : List Int × Bool) :
    ∀ (c : Nat) (n p : Int), (c : Int) ≤ b → 0 ≤ p → p + c ≤ 100000000 → 0 ≤ n → n + 1 ≤ 5000 * 2 ^ (b.toNat - c) →
      (∃ k, (if restV (bitAt s) c p n > 60000 then some ([], false) else get0 k put s many b (i + 1) (p + c) (xs ++ [restV (bitAt s) c p n])) = some r) → ∃ k, get2 k put s many b i (b - c) n p xs = some r
  | 0, n, p, hc, hp0, hp1, hn0, hn1, ⟨k, h⟩ => by
    refine ⟨k + 1, ?_⟩
    have hn := (pow8 (show b.toNat - 0 ≤ 8 by omega)).2
    simp only [get2]
    rw [if_pos ⟨by omega, by omega, hn0, by omega⟩, if_neg (by omega)]
    simp only [restV] at h
    rw [show p + ((0 : Nat) : Int) = p by omega] at h
    exact h
  | c + 1, n, p, hc, hp0, hp1, hn0, hn1, ⟨k, h⟩ => by
    obtain ⟨h0, h1⟩ := bitAt_range s p
    have hpw : (2 : Int) ^ (b.toNat - c) = 2 * 2 ^ (b.toNat - (c + 1)) := by
      rw [show b.toNat - c = b.toNat - (c + 1) + 1 by omega, Int.pow_succ]; omega
    have hn := (pow8 (show b.toNat - (c + 1) ≤ 8 by omega)).2
    simp only [restV] at h
    obtain ⟨k', h'⟩ := get2_comes put s many b i hb hb8 xs r c (2 * n + bitAt s p) (p + 1) (by omega) (by omega) (by omega) (by omega) (by omega) ⟨k, by rw [show p + 1 + (c : Int) = p + ((c + 1 : Nat) : Int) by omega]; exact h⟩
    refine ⟨k' + 1, ?_⟩
    simp only [get2]
    rw [if_pos ⟨by omega, by omega, hn0, by omega⟩, if_pos (by omega), show b - ((c + 1 : Nat) : Int) + 1 = b - c by omega]
    exact h'
/-- RiceGet from the loop over the ones on. -/
theorem get1_comes (put : List Int → Int → ByteArray) (s : ByteArray) (hs : s.size ≤ 600) (many b i : Int) (hb : 0 ≤ b) (hb8 : b ≤ 8) (xs : List Int) (r : List Int × Bool) :
    ∀ (q : Nat) (n p : Int), ones s p = q → 0 ≤ p → p ≤ 1000000 → 0 ≤ n → n + q ≤ 4800 →
      (∃ k, (if restV (bitAt s) b.toNat (p + q + 1) (n + q) > 60000 then some ([], false) else get0 k put s many b (i + 1) (p + q + 1 + b) (xs ++ [restV (bitAt s) b.toNat (p + q + 1) (n + q)])) = some r) → ∃ k, get1 k put s many b i n p xs = some r
  | 0, n, p, hq, hp0, hp1, hn0, hn1, hk => by
    have h1 : ¬ bitAt s p = 1 := fun h => by rw [ones_one h] at hq; omega
    have hz : b.toNat - b.toNat = 0 := by omega
    obtain ⟨k, h⟩ := get2_comes put s many b i hb hb8 xs r b.toNat n (p + 1) (by omega) (by omega) (by omega) hn0 (by rw [hz]; omega) (by
      simp only [Int.natCast_zero, Int.add_zero] at hk
      rw [show ((b.toNat : Nat) : Int) = b by omega]
      exact hk)
    refine ⟨k + 1, ?_⟩
    simp only [get1]
    rw [if_pos ⟨by omega, by omega, hn0, by omega⟩, if_neg h1]
    rw [show b - ((b.toNat : Nat) : Int) = 0 by omega] at h
    exact h
  | q + 1, n, p, hq, hp0, hp1, hn0, hn1, hk => by
    have h1 : bitAt s p = 1 := Classical.byContradiction fun h => by rw [ones_not h] at hq; omega
    have hl := ones_end s p
    rw [ones_one h1] at hq hl
    obtain ⟨k, h⟩ := get1_comes put s hs many b i hb hb8 xs r q (n + 1) (p + 1) (by omega) (by omega) (by omega) (by omega) (by omega) (by
      rw [show p + 1 + (q : Int) + 1 = p + ((q + 1 : Nat) : Int) + 1 by omega, show n + 1 + (q : Int) = n + ((q + 1 : Nat) : Int) by omega]
      exact hk)
    refine ⟨k + 1, ?_⟩
    simp only [get1]
    rw [if_pos ⟨by omega, by omega, hn0, by omega⟩, if_pos h1]
    exact h
theorem get0_comes (put : List Int → Int → ByteArray) (s : ByteArray) (hs : s.size ≤ 600) (b : Int) (hb : 0 ≤ b) (hb8 : b ≤ 8) :
    ∀ (d i : Nat) (p : Int) (xs : List Int), xs.length = i → i + d ≤ 40 → 0 ≤ p → p ≤ 4800 + 10 * i → ∃ k, get0 k put s ((i + d : Nat) : Int) b (i : Int) p xs = some (if ∀ x ∈ nums1 s b d p, x ≤ 60000 then (if put (xs ++ nums1 s b d p) b = s then (xs ++ nums1 s b d p, true) else ([], false)) else ([], false))
  | 0, i, p, xs, hx, hi, hp0, hp1 => by
    refine ⟨1, ?_⟩
    simp only [get0]
    rw [if_pos (by omega), if_neg (by omega)]
    simp [nums1]
  | d + 1, i, p, xs, hx, hi, hp0, hp1 => by
    have hl := ones_end s p
    have hv : restV (bitAt s) b.toNat (p + (ones s p : Int) + 1) (0 + (ones s p : Int)) = numAt s b p := by rw [Int.zero_add]; rfl
    have he : p + (ones s p : Int) + 1 + b = endAt s b p := rfl
    obtain ⟨k, h⟩ := get1_comes put s hs ((i + (d + 1) : Nat) : Int) b (i : Int) hb hb8 xs (if ∀ x ∈ nums1 s b (d + 1) p, x ≤ 60000 then (if put (xs ++ nums1 s b (d + 1) p) b = s then (xs ++ nums1 s b (d + 1) p, true) else ([], false)) else ([], false)) (ones s p) 0 p rfl hp0 (by omega) (by omega) (by omega) (by
      rw [hv, he]
      by_cases hn : numAt s b p > 60000
      · refine ⟨0, ?_⟩
        rw [if_pos hn, if_neg (fun h => by have := h (numAt s b p) (by simp [nums1]); omega)]
      · obtain ⟨k, h⟩ := get0_comes put s hs b hb hb8 d (i + 1) (endAt s b p) (xs ++ [numAt s b p]) (by rw [List.length_append, List.length_singleton, hx]) (by omega) (by unfold endAt; omega) (by unfold endAt; omega)
        refine ⟨k, ?_⟩
        rw [if_neg hn, show ((i + (d + 1) : Nat) : Int) = ((i + 1 + d : Nat) : Int) by omega, show ((i : Int) + 1) = ((i + 1 : Nat) : Int) by omega, h]
        have e : (∀ x ∈ nums1 s b (d + 1) p, x ≤ 60000) ↔ (∀ x ∈ nums1 s b d (endAt s b p), x ≤ 60000) := by
          rw [nums1]
          exact ⟨fun h x hx => h x (List.mem_cons_of_mem _ hx), fun h x hx => (List.mem_cons.1 hx).elim (fun e => by rw [e]; omega) (h x)⟩
        simp only [e]
        rw [nums1, List.append_assoc]
        rfl)
    refine ⟨k + 1, ?_⟩
    simp only [get0]
    rw [if_pos (by omega), if_pos (by omega)]
    exact h
/-- What RiceGet answers. -/
def riceGet (s : ByteArray) (many b : Int) : List Int × Bool :=
  if (0 ≤ many ∧ many ≤ 40 ∧ 0 ≤ b ∧ b ≤ 8 ∧ s.size ≤ 600) ∧ (∀ x ∈ nums1 s b many.toNat 0, x ≤ 60000) ∧ riceB b (nums1 s b many.toNat 0) = s then (nums1 s b many.toNat 0, true) else ([], false)
theorem riceGet_calls (s : ByteArray) (many b : Int) (w : World) (hs : s.size ≤ 1000000000) :
    Calls Try.prog 15 #[.string s, .int .i64 many, .int .i64 b] w fun e w' => ∃ v0_ : Value, e = .returned (.tuple #[v0_, .bool (riceGet s many b).2]) ∧ Kd.R (Kd.int .i64) 3 w' w.heap.size (fun _ => True) v0_ (riceGet s many b).1 ∧ Below w.heap.size w w' := by
  unfold riceGet
  by_cases h : 0 ≤ many ∧ many ≤ 40 ∧ 0 ≤ b ∧ b ≤ 8 ∧ s.size ≤ 600
  · obtain ⟨hm0, hm1, hb0, hb8, hs6⟩ := h
    have hput : PutIs ricePut := fun A0 c0 xs b w hr hc h40 _ _ => ricePut_calls A0 c0 xs b w hr hc (by omega)
    obtain ⟨k, hk⟩ := get0_comes ricePut s hs6 b hb0 hb8 many.toNat 0 0 [] rfl (by omega) (by omega) (by omega)
    rw [show ((0 + many.toNat : Nat) : Int) = many by omega] at hk
    have := get_calls k ricePut hput s many b _ w hm0 hm1 hb0 hb8 hs6 hk
    simp only [List.nil_append] at this
    by_cases hx : ∀ x ∈ nums1 s b many.toNat 0, x ≤ 60000
    · have hp : ricePut (nums1 s b many.toNat 0) b = riceB b (nums1 s b many.toNat 0) := by
        unfold ricePut
        rw [if_pos ⟨by rw [nums1_len]; omega, ⟨hb0, hb8⟩, fun x hx' => ⟨nums1_ge s b _ _ x hx', hx x hx'⟩⟩]
      rw [if_pos hx, hp] at this
      by_cases hr : riceB b (nums1 s b many.toNat 0) = s
      · rw [if_pos hr] at this
        rw [if_pos ⟨⟨hm0, hm1, hb0, hb8, hs6⟩, hx, hr⟩]
        refine this.mono ?_
        rintro e w' ⟨⟨v, h1, h2⟩, h3⟩
        exact ⟨v, h1, h2, h3⟩
      · rw [if_neg hr] at this
        rw [if_neg (fun h => hr h.2.2)]
        refine this.mono ?_
        rintro e w' ⟨⟨v, h1, h2⟩, h3⟩
        exact ⟨v, h1, h2, h3⟩
    · rw [if_neg hx] at this
      rw [if_neg (fun h => hx h.2.1)]
      refine this.mono ?_
      rintro e w' ⟨⟨v, h1, h2⟩, h3⟩
      exact ⟨v, h1, h2, h3⟩
  · rw [if_neg (fun k => h k.1)]
    refine (get_not s many b w h hs).mono ?_
    rintro e w' ⟨⟨v, h1, h2⟩, h3⟩
    exact ⟨v, h1, h2, h3⟩
end Go.Proofs.Ytipmgmiooanghaa.Rice
