/- Plain mathematics of sums: sixteen figures of base 16, and the number of the first eight. Nothing of the program. -/
import Derived.Test.YtgjljbaadglpnaaGreatDoorPm
namespace Go.Proofs.YtgjljbaadglpnaaGreatDoor.Pl
open Go Go.RowKit Go.Proofs.YtgjljbaadglpnaaGreatDoorW.PrintWords Go.Proofs.YtgjljbaadglpnaaGreatDoorW.PrintMore Go.Proofs.YtgjljbaadglpnaaGreatDoorW.PrintLast
set_option linter.unusedVariables false
def hexd (b : Int) : Bool := decide (48 ≤ b ∧ b ≤ 57) || decide (97 ≤ b ∧ b ≤ 102)
theorem hexd_iff (b : Int) : hexd b = true ↔ (48 ≤ b ∧ b ≤ 57) ∨ (97 ≤ b ∧ b ≤ 102) := by unfold hexd; rw [Bool.or_eq_true, decide_eq_true_iff, decide_eq_true_iff]
def sumB (l : List Int) : Bool := l.all hexd && decide (l.length = 16)
theorem sumB_iff (l : List Int) : sumB l = true ↔ (∀ x ∈ l, hexd x = true) ∧ l.length = 16 := by unfold sumB; rw [Bool.and_eq_true, decide_eq_true_iff, List.all_eq_true]
def hx (b : Int) : Int := if b ≥ 97 then b - 87 else b - 48
theorem hx_range {b : Int} (h : hexd b = true) : 0 ≤ hx b ∧ hx b ≤ 15 := by
 rw [hexd_iff] at h
 unfold hx
 split <;> omega
def hgo : List Int → Int → Int
 | [], n => n
 | b :: r, n => hgo r (16 * n + hx b)
theorem pow16 : ∀ i : Nat, i ≤ 8 → (16 : Int) ^ i ≤ 4294967296 ∧ 1 ≤ (16 : Int) ^ i := by
 intro i hi
 have : i = 0 ∨ i = 1 ∨ i = 2 ∨ i = 3 ∨ i = 4 ∨ i = 5 ∨ i = 6 ∨ i = 7 ∨ i = 8 := by omega
 rcases this with rfl | rfl | rfl | rfl | rfl | rfl | rfl | rfl | rfl <;> decide
theorem hgo_step {n d : Int} {i : Nat} (h0 : 0 ≤ n) (h1 : n < 16 ^ i) (hd : 0 ≤ d) (hd2 : d ≤ 15) : 0 ≤ 16 * n + d ∧ 16 * n + d < 16 ^ (i + 1) := by
 rw [Int.pow_succ]
 omega
theorem hgo_lt : ∀ (l : List Int) (n : Int) (i : Nat), (∀ x ∈ l, hexd x = true) → 0 ≤ n → n < 16 ^ i → 0 ≤ hgo l n ∧ hgo l n < 16 ^ (i + l.length)
 | [], n, i, _, h0, h1 => ⟨h0, h1⟩
 | b :: r, n, i, h, h0, h1 => by
  have hb := hx_range (h b (List.mem_cons_self ..))
  have hs := hgo_step h0 h1 hb.1 hb.2
  have := hgo_lt r (16 * n + hx b) (i + 1) (fun x hx => h x (List.mem_cons_of_mem _ hx)) hs.1 hs.2
  unfold hgo
  rw [List.length_cons, show i + (r.length + 1) = i + 1 + r.length by omega]
  exact this
def head31 (l : List Int) : Int := hgo (l.take 8) 0 / 2
theorem head31_range {l : List Int} (h : ∀ x ∈ l, hexd x = true) : 0 ≤ head31 l ∧ head31 l ≤ 2147483647 := by
 have h1 := hgo_lt (l.take 8) 0 0 (fun x hx => h x (List.mem_of_mem_take hx)) (by omega) (by omega)
 have h2 := pow16 (0 + (l.take 8).length) (by rw [List.length_take]; omega)
 unfold head31
 omega
end Go.Proofs.YtgjljbaadglpnaaGreatDoor.Pl
