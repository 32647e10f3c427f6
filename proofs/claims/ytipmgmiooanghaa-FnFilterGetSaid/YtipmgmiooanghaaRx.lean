/- What was read, told by its bits. Conditions: those in each theorem. -/
import Derived.Test.YtipmgmiooanghaaRv
namespace Go.Proofs.Ytipmgmiooanghaa.Rice
open Go Go.RowKit Go.Proofs.YtipmgmiooanghaaW.PrintWords Go.Proofs.Ytipmgmiooanghaa.Pl
set_option linter.unusedVariables false
/-! ## The bits that were read -/
theorem restV_div (s : ByteArray) : ∀ (c : Nat) (p n : Int), n * 2 ^ c ≤ restV (bitAt s) c p n ∧ restV (bitAt s) c p n < (n + 1) * 2 ^ c
  | 0, p, n => by simp only [restV, Int.pow_zero]; omega
  | c + 1, p, n => by
    have h := restV_div s c (p + 1) (2 * n + bitAt s p)
    obtain ⟨h0, h1⟩ := bitAt_range s p
    simp only [restV]
    have hp : (0 : Int) < 2 ^ c := Int.pow_pos (by omega)
    have e1 : n * 2 ^ (c + 1) = (2 * n) * 2 ^ c := by rw [Int.pow_succ]; rw [Int.mul_comm (2 ^ c) 2, ← Int.mul_assoc, Int.mul_comm n 2]
    have e2 : (n + 1) * 2 ^ (c + 1) = (2 * n + 2) * 2 ^ c := by rw [Int.pow_succ]; rw [Int.mul_comm (2 ^ c) 2, ← Int.mul_assoc]; congr 1; omega
    have e3 : (2 * n) * 2 ^ c ≤ (2 * n + bitAt s p) * 2 ^ c := Int.mul_le_mul_of_nonneg_right (by omega) (by omega)
    have e4 : (2 * n + bitAt s p + 1) * 2 ^ c ≤ (2 * n + 2) * 2 ^ c := Int.mul_le_mul_of_nonneg_right (by omega) (by omega)
    omega
theorem numAt_div (s : ByteArray) (b p : Int) : numAt s b p / 2 ^ b.toNat = ones s p := by
  obtain ⟨h0, h1⟩ := restV_div s b.toNat (p + ones s p + 1) (ones s p)
  have hp : (0 : Int) < 2 ^ b.toNat := Int.pow_pos (by omega)
  unfold numAt
  generalize restV (bitAt s) b.toNat (p + ones s p + 1) (ones s p) = x at h0 h1
  have e1 : (ones s p : Int) ≤ x / 2 ^ b.toNat := (Int.le_ediv_iff_mul_le hp).2 h0
  have e2 : x / 2 ^ b.toNat < (ones s p : Int) + 1 := (Int.ediv_lt_iff_lt_mul hp).2 h1
  omega
theorem enc_end (s : ByteArray) (b : Int) (hb : 0 ≤ b) : ∀ (m : Nat) (p : Int), p + ((encL b (nums1 s b m p)).length : Int) = endN s b m p
  | 0, p => by simp [nums1, encL, endN]
  | m + 1, p => by
    rw [nums1, encL, endN, List.length_append, encN_len, numAt_div, ← enc_end s b hb m (endAt s b p)]
    unfold endAt
    omega
theorem endN_ge (s : ByteArray) (b : Int) (hb : 0 ≤ b) : ∀ (m : Nat) (p : Int), p ≤ endN s b m p
  | 0, p => by simp [endN]
  | m + 1, p => by
    have := endN_ge s b hb m (endAt s b p)
    rw [endN]
    unfold endAt at this ⊢
    omega
theorem riceB_size (b : Int) (xs : List Int) : (riceB b xs).size = ((encL b xs).length + 7) / 8 := by
  unfold riceB
  rw [str_size, (packL_is (encL_bits b xs)).len]
theorem read_in {s : ByteArray} {b : Int} (hb : 0 ≤ b) {m : Nat} (h : riceB b (nums1 s b m 0) = s) : endN s b m 0 ≤ 8 * (s.size : Int) := by
  have h1 := enc_end s b hb m 0
  have h2 := riceB_size b (nums1 s b m 0)
  rw [h] at h2
  omega
end Go.Proofs.Ytipmgmiooanghaa.Rice
