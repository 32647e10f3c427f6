/- Plain mathematics of numbers in bytes (seven bits each, the lowest first): nothing of the program. -/
import Derived.Test.YtgjljbaadglpnaaDoorPl
namespace Go.Proofs.YtgjljbaadglpnaaDoor.Pl
open Go Go.RowKit Go.Proofs.YtgjljbaadglpnaaDoorW.PrintWords Go.Proofs.YtgjljbaadglpnaaDoorW.PrintMore Go.Proofs.YtgjljbaadglpnaaDoorW.PrintLast
set_option linter.unusedVariables false

/-- The bytes of a number, seven bits each, the lowest first, 128 more in all but the last. -/
def vb (n : Nat) : List Int := if h : n < 128 then [(n : Int)] else ((n % 128 + 128 : Nat) : Int) :: vb (n / 128)
termination_by n
decreasing_by omega
theorem vb_lt {n : Nat} (h : n < 128) : vb n = [(n : Int)] := by rw [vb, dif_pos h]
theorem vb_ge {n : Nat} (h : ¬ n < 128) : vb n = ((n % 128 + 128 : Nat) : Int) :: vb (n / 128) := by rw [vb, dif_neg h]
theorem vb_nn (n : Nat) : ∀ x ∈ vb n, 0 ≤ x ∧ x ≤ 255 := by
  induction n using Nat.strongRecOn with
  | ind n ih =>
    by_cases h : n < 128
    · rw [vb_lt h]; intro x hx; simp only [List.mem_singleton] at hx; omega
    · rw [vb_ge h]
      intro x hx
      rcases List.mem_cons.1 hx with rfl | hx
      · omega
      · exact ih (n / 128) (by omega) x hx
theorem vb_pos (n : Nat) : 0 < (vb n).length := by
  by_cases h : n < 128
  · rw [vb_lt h]; simp
  · rw [vb_ge h]; simp
theorem vb_len (k : Nat) : ∀ n : Nat, n < 128 ^ (k + 1) → (vb n).length ≤ k + 1 := by
  induction k with
  | zero => intro n h; rw [vb_lt (by simpa using h)]; simp
  | succ k ih =>
    intro n h
    by_cases hn : n < 128
    · rw [vb_lt hn]; simp
    · rw [vb_ge hn, List.length_cons]
      have := ih (n / 128) (by rw [Nat.pow_succ] at h; omega)
      omega
theorem vb_len5 {n : Nat} (h : n ≤ 2147483647) : (vb n).length ≤ 5 := vb_len 4 n (by omega)
/-- What bytes tell: their low seven bits, the lowest first. -/
def bval : List Int → Int
  | [] => 0
  | b :: l => b % 128 + 128 * bval l
theorem bval_nn : ∀ l : List Int, 0 ≤ bval l
  | [] => Int.le_refl _
  | b :: l => by have := bval_nn l; unfold bval; omega
theorem bval_snoc (l : List Int) (b : Int) : bval (l ++ [b]) = bval l + b % 128 * 128 ^ l.length := by
  induction l with
  | nil => simp [bval]
  | cons a l ih =>
    simp only [List.cons_append, bval, ih, List.length_cons, Int.pow_succ]
    rw [Int.mul_add, Int.add_assoc, Int.mul_comm (128 ^ l.length) 128, ← Int.mul_assoc, ← Int.mul_assoc, Int.mul_comm (b % 128) 128]
theorem bval_lt : ∀ l : List Int, bval l < 128 ^ l.length
  | [] => by simp [bval]
  | b :: l => by
    have := bval_lt l
    simp only [bval, List.length_cons, Int.pow_succ]
    omega
theorem vb_bval (n : Nat) : bval (vb n) = n := by
  induction n using Nat.strongRecOn with
  | ind n ih =>
    by_cases h : n < 128
    · rw [vb_lt h]; simp only [bval]; omega
    · rw [vb_ge h]; simp only [bval]; rw [ih (n / 128) (by omega)]; omega
theorem vb_last (n : Nat) : ∀ l b, vb n = l ++ [b] → 0 ≤ b ∧ b < 128 ∧ (b = 0 → n = 0 ∧ l = []) := by
  induction n using Nat.strongRecOn with
  | ind n ih =>
    intro l b hb
    by_cases h : n < 128
    · rw [vb_lt h] at hb
      cases l with
      | nil => simp only [List.nil_append, List.cons.injEq, and_true] at hb; exact ⟨by omega, by omega, fun _ => ⟨by omega, rfl⟩⟩
      | cons a l => simp at hb
    · rw [vb_ge h] at hb
      cases l with
      | nil =>
        simp only [List.nil_append, List.cons.injEq] at hb
        have := vb_pos (n / 128)
        rw [hb.2] at this
        simp at this
      | cons a l =>
        simp only [List.cons_append, List.cons.injEq] at hb
        obtain ⟨h0, h1, h2⟩ := ih (n / 128) (by omega) l b hb.2
        refine ⟨h0, h1, fun hz => ?_⟩
        have := (h2 hz).1
        omega
theorem vb_init (n : Nat) : ∀ l b, vb n = l ++ [b] → ∀ x ∈ l, 128 ≤ x := by
  induction n using Nat.strongRecOn with
  | ind n ih =>
    intro l b hb
    by_cases h : n < 128
    · rw [vb_lt h] at hb
      cases l with
      | nil => simp
      | cons a l => simp at hb
    · rw [vb_ge h] at hb
      cases l with
      | nil => simp
      | cons a l =>
        simp only [List.cons_append, List.cons.injEq] at hb
        intro x hx
        rcases List.mem_cons.1 hx with rfl | hx
        · omega
        · exact ih (n / 128) (by omega) l b hb.2 x hx
/-- Bytes of 128 or more, and one below, not 0: they are those of what they tell. -/
theorem vb_of_bval : ∀ (l : List Int) (b : Int), (∀ x ∈ l, 128 ≤ x ∧ x ≤ 255) → 0 < b → b < 128 → vb (bval (l ++ [b])).toNat = l ++ [b] ∧ 0 < bval (l ++ [b])
  | [], b, _, h0, h1 => by
    have e : bval ([] ++ [b]) = b := by simp only [List.nil_append, bval]; omega
    rw [e, vb_lt (by omega), Int.toNat_of_nonneg (by omega)]
    exact ⟨rfl, h0⟩
  | a :: l, b, h, h0, h1 => by
    obtain ⟨ih, hp⟩ := vb_of_bval l b (fun x hx => h x (List.mem_cons_of_mem _ hx)) h0 h1
    have ha := h a (List.mem_cons_self ..)
    simp only [List.cons_append, bval]
    generalize bval (l ++ [b]) = v at ih hp
    rw [vb_ge (by omega), show (a % 128 + 128 * v).toNat / 128 = v.toNat by omega, ih]
    refine ⟨?_, by omega⟩
    congr 1
    omega
/-- The same, where all is one byte. -/
theorem vb_bval_one {b : Int} (h0 : 0 ≤ b) (h1 : b < 128) : vb (bval [b]).toNat = [b] := by
  have e : bval [b] = b := by simp only [bval]; omega
  rw [e, vb_lt (by omega), Int.toNat_of_nonneg h0]

/-- What VarGet reads: from byte i on, n told so far. -/
def vgo : List Int → Nat → Int → Int × Int
  | [], _, _ => (0, 0)
  | b :: r, i, n => if i ≥ 5 then (0, 0) else
    if b < 128 then (if (i > 0 ∧ b = 0) ∨ n + b % 128 * 128 ^ i > 2147483647 then (0, 0) else (n + b % 128 * 128 ^ i, (i : Int) + 1))
    else vgo r (i + 1) (n + b % 128 * 128 ^ i)
theorem vgo_nil (i : Nat) (n : Int) : vgo [] i n = (0, 0) := rfl
theorem vgo_five (l : List Int) (i : Nat) (n : Int) (h : 5 ≤ i) : vgo l i n = (0, 0) := by
  cases l with
  | nil => rfl
  | cons b r => unfold vgo; rw [if_pos h]
/-- What is read of the bytes of a number, whatever is behind. -/
theorem vgo_vb (bs : List Int) : ∀ (l : List Int) (b : Int) (i : Nat) (n : Int), (∀ x ∈ l, 128 ≤ x) → 0 ≤ b → b < 128 → (b = 0 → i = 0 ∧ l = []) → i + l.length < 5 →
    n + bval (l ++ [b]) * 128 ^ i ≤ 2147483647 → vgo (l ++ [b] ++ bs) i n = (n + bval (l ++ [b]) * 128 ^ i, (i : Int) + l.length + 1)
  | [], b, i, n, _, h0, h1, hz, hi, hn => by
    have e : bval ([] ++ [b]) = b % 128 := by simp only [List.nil_append, bval]; omega
    rw [e] at hn
    rw [e]
    simp only [List.nil_append, List.cons_append, vgo, List.length_nil] at *
    rw [if_neg (by omega), if_pos h1, if_neg (by omega)]
    simp
  | a :: l, b, i, n, h, h0, h1, hz, hi, hn => by
    have ha := h a (List.mem_cons_self ..)
    simp only [List.length_cons] at hi
    have e : n + bval (a :: l ++ [b]) * 128 ^ i = n + a % 128 * 128 ^ i + bval (l ++ [b]) * 128 ^ (i + 1) := by
      simp only [List.cons_append, bval, Int.pow_succ]
      rw [Int.add_mul, Int.mul_comm 128, Int.mul_assoc, Int.mul_comm 128]
      omega
    have ih := vgo_vb bs l b (i + 1) (n + a % 128 * 128 ^ i) (fun x hx => h x (List.mem_cons_of_mem _ hx)) h0 h1 (fun hb => by have := hz hb; simp at this) (by omega) (by rw [← e]; exact hn)
    rw [e]
    simp only [List.cons_append, vgo, List.length_cons]
    rw [if_neg (by omega), if_neg (by omega)]
    rw [ih]
    congr 1
    omega
end Go.Proofs.YtgjljbaadglpnaaDoor.Pl
