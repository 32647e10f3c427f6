/- Plain lemmas for what is drawn: numbers below others, xor. Nothing of the program. -/
import Derived.Test.YtgjljbaadglpnaaGreatDoorPs
namespace Go.Proofs.YtgjljbaadglpnaaGreatDoor.Pl
open Go Go.RowKit Go.Proofs.YtgjljbaadglpnaaGreatDoorW.PrintWords Go.Proofs.YtgjljbaadglpnaaGreatDoorW.PrintMore Go.Proofs.YtgjljbaadglpnaaGreatDoorW.PrintLast
set_option linter.unusedVariables false
theorem bitvec_toNat {x : Int} (h0 : 0 ≤ x) (h1 : x < 4611686018427387904) : (BitVec.ofInt 64 x).toNat = x.toNat := by
 rw [BitVec.toNat_ofInt]
 congr 1
 exact Int.emod_eq_of_lt h0 (by omega)
theorem xor64 {x y : Int} (hx0 : 0 ≤ x) (hx1 : x < 4611686018427387904) (hy0 : 0 ≤ y) (hy1 : y < 4611686018427387904) : 0 ≤ Go.bits .xor .i64 x y ∧ Go.bits .xor .i64 x y < 4611686018427387904 := by
 have e : Go.bits .xor .i64 x y = ((x.toNat ^^^ y.toNat : Nat) : Int) := by
  show IntKind.i64.wrap ((BitVec.ofInt 64 x ^^^ BitVec.ofInt 64 y).toNat : Int) = _
  rw [BitVec.toNat_xor, bitvec_toNat hx0 hx1, bitvec_toNat hy0 hy1, i64_w]
  have hlt : x.toNat ^^^ y.toNat < 2 ^ 62 := Nat.xor_lt_two_pow (by omega) (by omega)
  exact w64 (by omega) (by omega)
 have hlt : x.toNat ^^^ y.toNat < 2 ^ 62 := Nat.xor_lt_two_pow (by omega) (by omega)
 rw [e]
 omega
theorem rd_range {b : List Int} (hb : ∀ x ∈ b, 0 ≤ x ∧ x ≤ 255) (i : Int) : 0 ≤ rd b i ∧ rd b i ≤ 255 := by
 unfold rd
 rw [List.getD_eq_getElem?_getD]
 by_cases h : i.toNat < b.length
 ·rw [List.getElem?_eq_getElem h]; exact hb _ (List.getElem_mem h)
 ·rw [List.getElem?_eq_none (by omega)]; decide
theorem rd_mem {b : List Int} (i : Int) (h0 : 0 ≤ i) (h : i < (b.length : Int)) : rd b i ∈ b := by
 unfold rd
 have h : i.toNat < b.length := by omega
 rw [List.getD_eq_getElem?_getD, List.getElem?_eq_getElem h]
 exact List.getElem_mem h
theorem rdOf_mem {α : Type} (d : α) {b : List α} (i : Int) (h0 : 0 ≤ i) (h : i < (b.length : Int)) : rdOf d b i ∈ b := by
 unfold rdOf
 have h : i.toNat < b.length := by omega
 rw [List.getD_eq_getElem?_getD, List.getElem?_eq_getElem h]
 exact List.getElem_mem h
theorem wf_bytes {l : List Int} (h : ∀ x ∈ l, (Lit.int .u8 x).wf = true) : ∀ x ∈ l, 0 ≤ x ∧ x ≤ 255 := by
 intro x hx
 have := h x hx
 simp only [Lit.wf, Bool.and_eq_true, decide_eq_true_iff] at this
 exact ⟨this.1, this.2⟩
theorem tmod16 {x : Int} (h : 0 ≤ x) : 0 ≤ Int.tmod x 16 ∧ Int.tmod x 16 < 16 := by
 rw [Int.tmod_eq_emod_of_nonneg h]; omega
end Go.Proofs.YtgjljbaadglpnaaGreatDoor.Pl
