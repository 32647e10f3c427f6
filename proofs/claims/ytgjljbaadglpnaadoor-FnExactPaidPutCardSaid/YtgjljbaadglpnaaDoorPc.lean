/- Texts cut at a byte, and numbers in decimals: plain lists of numbers. Nothing of the program. -/
import Derived.Test.YtgjljbaadglpnaaDoorPd
import Derived.Lib.Split
import Derived.Lib.ItoaNum
import Derived.Lib.IndexBytes
namespace Go.Proofs.YtgjljbaadglpnaaDoor.Pl
open Go Go.RowKit Go.Proofs.YtgjljbaadglpnaaDoorW.PrintWords
set_option linter.unusedVariables false
/-! ### cutting -/
def addH (x : Int) : List (List Int) → List (List Int)
  | [] => [[x]]
  | p :: ps => (x :: p) :: ps
def addL (seg : List Int) : List (List Int) → List (List Int)
  | [] => [seg]
  | p :: ps => (seg ++ p) :: ps
/-- A list cut at a byte, so many times at most. -/
def cutN (b : Int) : List Int → Nat → List (List Int)
  | [], _ => [[]]
  | x :: xs, 0 => [x :: xs]
  | x :: xs, m + 1 => if x = b then [] :: cutN b xs m else addH x (cutN b xs (m + 1))
def joinB (b : Int) : List (List Int) → List Int
  | [] => []
  | [p] => p
  | p :: q :: r => p ++ b :: joinB b (q :: r)
def cntB (b : Int) : List Int → Nat
  | [] => 0
  | x :: xs => if x = b then cntB b xs + 1 else cntB b xs
def decI (n : Nat) : List Int := if h : n < 10 then [((48 + n : Nat) : Int)] else decI (n / 10) ++ [((48 + n % 10 : Nat) : Int)]
termination_by n
decreasing_by omega
theorem decI_lt {n : Nat} (h : n < 10) : decI n = [((48 + n : Nat) : Int)] := by rw [decI, dif_pos h]
theorem decI_ge {n : Nat} (h : ¬ n < 10) : decI n = decI (n / 10) ++ [((48 + n % 10 : Nat) : Int)] := by rw [decI, dif_neg h]
theorem decI_dig (n : Nat) : ∀ x ∈ decI n, 48 ≤ x ∧ x ≤ 57 := by
  induction n using Nat.strongRecOn with
  | ind n ih =>
    by_cases h : n < 10
    · rw [decI_lt h]; intro x hx; rw [List.mem_singleton.1 hx]; omega
    · rw [decI_ge h]
      intro x hx
      rcases List.mem_append.1 hx with hx | hx
      · exact ih (n / 10) (by omega) x hx
      · rw [List.mem_singleton.1 hx]; omega
theorem decI_len : ∀ (k n : Nat), n < 10 ^ (k + 1) → (decI n).length ≤ k + 1
  | 0, n, h => by rw [decI_lt (by omega)]; exact Nat.le_refl _
  | k + 1, n, h => by
    by_cases h1 : n < 10
    · rw [decI_lt h1, List.length_singleton]; omega
    · have := decI_len k (n / 10) (by rw [Nat.pow_succ] at h; omega)
      rw [decI_ge h1, List.length_append, List.length_singleton]; omega
theorem decDigits_int (n : Nat) : (Lib.decDigits n).map (fun b => ((b.toNat : Nat) : Int)) = decI n := by
  have hd : ∀ d : Nat, d < 10 → (((UInt8.ofNat (48 + d)).toNat : Nat) : Int) = ((48 + d : Nat) : Int) := by
    intro d hd
    rw [UInt8.toNat_ofNat']
    omega
  induction n using Nat.strongRecOn with
  | ind n ih =>
    rw [Lib.decDigits]
    by_cases h : n < 10
    · rw [dif_pos h, decI_lt h, List.map_cons, List.map_nil, hd n h]
    · rw [dif_neg h, decI_ge h, List.map_append, ih (n / 10) (by omega), List.map_cons, List.map_nil, hd (n % 10) (by omega)]
/-- A number in decimals, as a text. -/
def decS (n : Int) : ByteArray := strOfNums (decI n.toNat)
theorem decS_bytes (n : Int) : bytesOf (decS n) = decI n.toNat := bytes_str _ (fun x hx => by have := decI_dig _ x hx; omega)
theorem itoa_dec {n : Int} (h : 0 ≤ n) : (⟨(Lib.itoa n).toArray⟩ : ByteArray) = decS n := bytes_inj (by
  rw [decS_bytes, bytes_lit, Lib.itoa, if_neg (by omega), decDigits_int])
theorem str_app (xs ys : List Int) (hx : ∀ x ∈ xs, 0 ≤ x ∧ x ≤ 255) (hy : ∀ x ∈ ys, 0 ≤ x ∧ x ≤ 255) : strOfNums (xs ++ ys) = strOfNums xs ++ strOfNums ys := bytes_inj (by
  rw [bytes_append, bytes_str _ hx, bytes_str _ hy, bytes_str]
  intro x h
  exact (List.mem_append.1 h).elim (hx x) (hy x))
theorem decS_ge {n : Nat} (h : ¬ n < 10) : decS (n : Int) = decS ((n / 10 : Nat) : Int) ++ strOfNums [((48 + n % 10 : Nat) : Int)] := by
  unfold decS
  rw [Int.toNat_natCast, Int.toNat_natCast, decI_ge h]
  exact str_app _ _ (fun x hx => by have := decI_dig _ x hx; omega) (fun x hx => by rw [List.mem_singleton.1 hx]; omega)
theorem decS_size {n : Int} (k : Nat) (h : n < 10 ^ (k + 1)) : (decS n).size ≤ k + 1 := by
  unfold decS
  rw [str_size]
  refine decI_len k _ ?_
  have : ((10 ^ (k + 1) : Nat) : Int) = (10 : Int) ^ (k + 1) := by norm_cast
  have hp : 0 < 10 ^ (k + 1) := Nat.pow_pos (by omega)
  omega
/-! ### numerals -/
def nval : Int → List Int → Int
  | n, [] => n
  | n, b :: r => nval (10 * n + (b - 48)) r
def digB (b : Int) : Bool := decide (48 ≤ b ∧ b ≤ 57)
def numB (l : List Int) : Bool := decide (1 ≤ l.length ∧ l.length ≤ 9) && (l.all digB && decide (l.length ≤ 1 ∨ l.getD 0 0 ≠ 48))
/-- What a text is as a number; -1, if it is none. -/
def numS (s : ByteArray) : Int := if numB (bytesOf s) = true then nval 0 (bytesOf s) else -1
end Go.Proofs.YtgjljbaadglpnaaDoor.Pl
