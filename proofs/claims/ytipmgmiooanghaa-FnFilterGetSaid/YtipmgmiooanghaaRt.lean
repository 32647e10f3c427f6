/- Bits in bytes: what RicePut and the reference's l2Rice write, as one plain function. No program in sight, but the steps 'putL', 'sp', 'numS', 'endS' of the walks. -/
import Derived.Test.YtipmgmiooanghaaRh
import Derived.Test.YtipmgmiooanghaaSs
namespace Go.Proofs.Ytipmgmiooanghaa.Rice
open Go Go.RowKit Go.Proofs.YtipmgmiooanghaaW.PrintWords Go.Proofs.Ytipmgmiooanghaa.Pl
set_option linter.unusedVariables false
def isBits (bs : List Int) : Prop := ∀ x ∈ bs, x = 0 ∨ x = 1
theorem isBits_app {a b : List Int} (h : isBits a) (k : isBits b) : isBits (a ++ b) := fun x hx => (List.mem_append.1 hx).elim (h x) (k x)
/-- The bit of a byte, the highest first. -/
def bitB (x : Int) (j : Nat) : Int := x / 2 ^ (7 - j) % 2
def bitL (l : List Int) (p : Nat) : Int := bitB (l.getD (p / 8) 0) (p % 8)
def bytes (l : List Int) : Prop := ∀ x ∈ l, 0 ≤ x ∧ x ≤ 255
/-- The bytes l hold the bits bs, and noughts to the byte's end. -/
structure IsPack (l bs : List Int) : Prop where
  len : l.length = (bs.length + 7) / 8
  byt : bytes l
  bit : ∀ p, bitL l p = bs.getD p 0
theorem getD_snoc0 (l : List Int) (i : Nat) : (l ++ [0]).getD i 0 = l.getD i 0 := by
  rw [List.getD_eq_getElem?_getD, List.getD_eq_getElem?_getD]
  rcases Nat.lt_trichotomy i l.length with h | h | h
  · rw [List.getElem?_append_left h]
  · subst h; simp
  · rw [List.getElem?_eq_none (by simp; omega), List.getElem?_eq_none (by omega)]
theorem getD_snoc (l : List Int) (x : Int) (i : Nat) : (l ++ [x]).getD i 0 = if i = l.length then x else l.getD i 0 := by
  rw [List.getD_eq_getElem?_getD, List.getD_eq_getElem?_getD]
  rcases Nat.lt_trichotomy i l.length with h | h | h
  · rw [List.getElem?_append_left h, if_neg (by omega)]
  · subst h; simp
  · rw [List.getElem?_eq_none (by simp; omega), List.getElem?_eq_none (by omega), if_neg (by omega)]
theorem getD_set (l : List Int) (i j : Nat) (x : Int) (h : i < l.length) : (l.set i x).getD j 0 = if j = i then x else l.getD j 0 := by
  rw [List.getD_eq_getElem?_getD, List.getD_eq_getElem?_getD, List.getElem?_set]
  by_cases e : i = j
  · subst e; simp [h]
  · rw [if_neg e, if_neg (by omega)]
theorem bitB_zero (j : Nat) : bitB 0 j = 0 := by unfold bitB; simp
theorem byte_ext {x y : Int} (hx : 0 ≤ x ∧ x ≤ 255) (hy : 0 ≤ y ∧ y ≤ 255) (h : ∀ j, j < 8 → bitB x j = bitB y j) : x = y := by
  have h0 := h 0 (by omega)
  have h1 := h 1 (by omega)
  have h2 := h 2 (by omega)
  have h3 := h 3 (by omega)
  have h4 := h 4 (by omega)
  have h5 := h 5 (by omega)
  have h6 := h 6 (by omega)
  have h7 := h 7 (by omega)
  clear h
  simp only [bitB, Nat.sub_zero, Nat.reduceSub, Int.reducePow] at h0 h1 h2 h3 h4 h5 h6 h7
  omega
theorem getD_byte {l : List Int} (h : bytes l) (i : Nat) : 0 ≤ l.getD i 0 ∧ l.getD i 0 ≤ 255 := by
  rw [List.getD_eq_getElem?_getD]
  by_cases hi : i < l.length
  · rw [List.getElem?_eq_getElem hi, Option.getD_some]; exact h _ (List.getElem_mem hi)
  · rw [List.getElem?_eq_none (by omega)]; simp
theorem IsPack.unique {l l' bs : List Int} (h : IsPack l bs) (k : IsPack l' bs) : l = l' := by
  refine List.ext_getElem (h.len.trans k.len.symm) fun i h1 h2 => ?_
  have e : ∀ (z : List Int) (hz : i < z.length), z.getD i 0 = z[i] := fun z hz => by rw [List.getD_eq_getElem?_getD, List.getElem?_eq_getElem hz, Option.getD_some]
  rw [← e l h1, ← e l' h2]
  refine byte_ext (getD_byte h.byt i) (getD_byte k.byt i) fun j hj => ?_
  have a := (h.bit (8 * i + j)).trans (k.bit (8 * i + j)).symm
  unfold bitL at a
  rwa [show (8 * i + j) / 8 = i by omega, show (8 * i + j) % 8 = j by omega] at a
theorem or_fin : ∀ (x : Fin 256) (r : Fin 8), (∀ j : Fin 8, bitB (Go.bits .or .u8 (x.val : Int) (128 / 2 ^ r.val)) j.val = if j = r then 1 else bitB (x.val : Int) j.val) ∧ 0 ≤ Go.bits .or .u8 (x.val : Int) (128 / 2 ^ r.val) ∧ Go.bits .or .u8 (x.val : Int) (128 / 2 ^ r.val) ≤ 255 := by decide +kernel
theorem orBit_bit {x m : Int} (hx : 0 ≤ x ∧ x ≤ 255) (hm : 0 ≤ m) : (∀ j, j < 8 → bitB (orBit x m) j = if j = m.toNat % 8 then 1 else bitB x j) ∧ 0 ≤ orBit x m ∧ orBit x m ≤ 255 := by
  have h := or_fin ⟨x.toNat, by omega⟩ ⟨m.toNat % 8, by omega⟩
  simp only [Int.toNat_of_nonneg hx.1] at h
  unfold orBit
  rw [show (m % 8).toNat = m.toNat % 8 by omega]
  refine ⟨fun j hj => ?_, h.2⟩
  have := h.1 ⟨j, hj⟩
  rw [this]
  by_cases e : j = m.toNat % 8
  · rw [if_pos e, if_pos (by exact Fin.ext e)]
  · rw [if_neg e, if_neg (fun c => e (Fin.mk.inj_iff.1 c))]
theorem IsPack.nil : IsPack [] [] := ⟨rfl, fun x hx => by simp at hx, fun p => by simp [bitL, bitB]⟩
theorem IsPack.put {l bs : List Int} (h : IsPack l bs) (m : Int) (hm : m = (bs.length : Int)) (one : Bool) : IsPack (putL l m one) (bs ++ [if one then 1 else 0]) := by
  obtain ⟨hl, hb, hbit⟩ := h
  unfold putL
  have key : ∃ l1, (if m % 8 = 0 then l ++ [0] else l) = l1 ∧ l1.length = bs.length / 8 + 1 ∧ bytes l1 ∧ ∀ i, l1.getD i 0 = l.getD i 0 := by
    by_cases h8 : m % 8 = 0
    · refine ⟨l ++ [0], if_pos h8, by rw [List.length_append, List.length_singleton]; omega, fun x hx => ?_, getD_snoc0 l⟩
      rcases List.mem_append.1 hx with hx | hx
      · exact hb x hx
      · rw [List.mem_singleton.1 hx]; omega
    · exact ⟨l, if_neg h8, by omega, hb, fun _ => rfl⟩
  obtain ⟨l1, e1, hl1, hb1, hg⟩ := key
  simp only [e1]
  cases one
  · simp only [Bool.false_eq_true, if_false]
    refine ⟨by rw [hl1, List.length_append, List.length_singleton]; omega, hb1, fun p => ?_⟩
    rw [getD_snoc0, ← hbit p]
    unfold bitL
    rw [hg]
  · simp only [if_true]
    have hmi : (m / 8).toNat = bs.length / 8 := by omega
    have hx : rdOf 0 l1 (m / 8) = l1.getD (bs.length / 8) 0 := by unfold rdOf; rw [hmi]
    obtain ⟨ho, ho2⟩ := orBit_bit (getD_byte hb1 (bs.length / 8)) (show 0 ≤ m by omega)
    rw [hx, hmi]
    refine ⟨by rw [List.length_set, hl1, List.length_append, List.length_singleton]; omega, fun x hx => ?_, fun p => ?_⟩
    · rcases List.mem_or_eq_of_mem_set hx with hx | hx
      · exact hb1 x hx
      · rw [hx]; exact ho2
    · unfold bitL
      rw [getD_set _ _ _ _ (by omega), getD_snoc]
      by_cases hp : p / 8 = bs.length / 8
      · rw [if_pos hp, ho _ (by omega)]
        by_cases hq : p = bs.length
        · rw [if_pos hq, if_pos (by omega)]
        · rw [if_neg hq, if_neg (by omega), hg, ← hbit p]
          unfold bitL
          rw [hp]
      · rw [if_neg hp, if_neg (by intro e; exact hp (by rw [e])), ← hbit p, hg]
        rfl
/-- The bytes that hold bits. -/
def packS : List Int → List Int × Int → List Int × Int
  | [], s => s
  | x :: bs, s => packS bs (putL s.1 s.2 (x == 1), s.2 + 1)
def packL (bs : List Int) : List Int := (packS bs ([], 0)).1
theorem packS_is : ∀ (bs done l : List Int), isBits bs → IsPack l done → IsPack (packS bs (l, (done.length : Int))).1 (done ++ bs)
  | [], done, l, _, h => by rw [List.append_nil]; exact h
  | x :: bs, done, l, hb, h => by
    have hp := h.put _ rfl (x == 1)
    have e : (if (x == 1) = true then (1 : Int) else 0) = x := by
      rcases hb x List.mem_cons_self with rfl | rfl <;> rfl
    rw [e] at hp
    have := packS_is bs (done ++ [x]) _ (fun y hy => hb y (List.mem_cons_of_mem _ hy)) hp
    rw [List.append_assoc] at this
    simp only [List.length_append, List.length_singleton, Int.natCast_add, Int.natCast_one, List.cons_append, List.nil_append] at this
    exact this
theorem packL_is {bs : List Int} (h : isBits bs) : IsPack (packL bs) bs := packS_is bs [] [] h IsPack.nil
theorem IsPack.eq {l bs : List Int} (h : IsPack l bs) (hb : isBits bs) : l = packL bs := h.unique (packL_is hb)
end Go.Proofs.Ytipmgmiooanghaa.Rice
