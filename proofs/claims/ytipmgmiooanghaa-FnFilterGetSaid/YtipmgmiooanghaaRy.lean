/- What RicePut writes is read back, and a text is read in one way alone. Conditions: those in each theorem. -/
import Derived.Test.YtipmgmiooanghaaRx
namespace Go.Proofs.Ytipmgmiooanghaa.Rice
open Go Go.RowKit Go.Proofs.YtipmgmiooanghaaW.PrintWords Go.Proofs.Ytipmgmiooanghaa.Pl
set_option linter.unusedVariables false
/-- From p on the text has these bits. -/
def Agr (s : ByteArray) : Int → List Int → Prop
  | _, [] => True
  | p, x :: bs => bitAt s p = x ∧ Agr s (p + 1) bs
theorem agr_app (s : ByteArray) : ∀ (a b : List Int) (p : Int), Agr s p (a ++ b) → Agr s p a ∧ Agr s (p + a.length) b
  | [], b, p, h => ⟨trivial, by simpa using h⟩
  | x :: a, b, p, h => by
    obtain ⟨h1, h2⟩ := agr_app s a b (p + 1) h.2
    refine ⟨⟨h.1, h1⟩, ?_⟩
    rw [show p + ((x :: a).length : Int) = p + 1 + (a.length : Int) by simp only [List.length_cons]; omega]
    exact h2
theorem agr_of (s : ByteArray) : ∀ (bs : List Int) (p : Int), (∀ i, i < bs.length → bitAt s (p + (i : Int)) = bs.getD i 0) → Agr s p bs
  | [], _, _ => trivial
  | x :: bs, p, h => by
    refine ⟨by have := h 0 (by simp); simpa using this, agr_of s bs (p + 1) fun i hi => ?_⟩
    have := h (i + 1) (by simp only [List.length_cons]; omega)
    rw [List.getD_cons_succ] at this
    rw [← this]
    congr 1
    omega
theorem agr_same {s t : ByteArray} (h : ∀ p, 0 ≤ p → p < 8 * (s.size : Int) → bitAt t p = bitAt s p) : ∀ (bs : List Int) (p : Int), 0 ≤ p → p + bs.length ≤ 8 * (s.size : Int) → Agr s p bs → Agr t p bs
  | [], _, _, _, _ => trivial
  | x :: bs, p, h0, h1, k => by
    simp only [List.length_cons] at h1
    exact ⟨(h p h0 (by omega)).trans k.1, agr_same h bs (p + 1) (by omega) (by omega) k.2⟩
theorem ones_of (s : ByteArray) : ∀ (q : Nat) (p : Int) (bs : List Int), Agr s p (List.replicate q 1 ++ 0 :: bs) → ones s p = q ∧ Agr s (p + q + 1) bs
  | 0, p, bs, h => by
    refine ⟨ones_not (by rw [h.1]; omega), ?_⟩
    rw [show p + ((0 : Nat) : Int) + 1 = p + 1 by omega]
    exact h.2
  | q + 1, p, bs, h => by
    rw [List.replicate_succ] at h
    obtain ⟨h1, h2⟩ := ones_of s q (p + 1) bs h.2
    refine ⟨by rw [ones_one h.1, h1], ?_⟩
    rw [show p + ((q + 1 : Nat) : Int) + 1 = p + 1 + (q : Int) + 1 by omega]
    exact h2
theorem rest_of (s : ByteArray) (n : Int) : ∀ (c : Nat) (p : Int), Agr s p (restB n c) → restV (bitAt s) c p (n / 2 ^ c) = n
  | 0, p, _ => by simp only [restV, Int.pow_zero, Int.ediv_one]
  | c + 1, p, h => by
    have := rest_of s n c (p + 1) h.2
    simp only [restV]
    rw [h.1]
    have e : 2 * (n / 2 ^ (c + 1)) + n / 2 ^ c % 2 = n / 2 ^ c := by
      rw [Int.pow_succ, ← Int.ediv_ediv_of_nonneg (Int.pow_nonneg (by omega))]
      omega
    rw [e]
    exact this
theorem num_of {s : ByteArray} {b n p : Int} (hn : 0 ≤ n) (hb : 0 ≤ b) (h : Agr s p (encN b n)) : numAt s b p = n ∧ endAt s b p = p + (encN b n).length := by
  have hq : 0 ≤ n / 2 ^ b.toNat := Int.ediv_nonneg hn (Int.pow_nonneg (by omega))
  obtain ⟨h1, h2⟩ := ones_of s _ p _ h
  refine ⟨?_, ?_⟩
  · unfold numAt
    rw [h1, Int.toNat_of_nonneg hq]
    rw [Int.toNat_of_nonneg hq] at h2
    exact rest_of s n _ _ h2
  · unfold endAt
    rw [h1, encN_len]
    omega
/-- What is written is read. -/
theorem nums_of {s : ByteArray} {b : Int} (hb : 0 ≤ b) : ∀ (xs : List Int) (p : Int), (∀ x ∈ xs, 0 ≤ x) → Agr s p (encL b xs) → nums1 s b xs.length p = xs
  | [], _, _, _ => rfl
  | n :: xs, p, hx, h => by
    obtain ⟨h1, h2⟩ := agr_app s _ _ p h
    obtain ⟨e1, e2⟩ := num_of (hx n List.mem_cons_self) hb h1
    show numAt s b p :: nums1 s b xs.length (endAt s b p) = n :: xs
    rw [e1, e2, nums_of hb xs _ (fun x hx' => hx x (List.mem_cons_of_mem _ hx')) h2]
theorem bitAt_pack {l bs : List Int} (h : IsPack l bs) (p : Nat) (hp : p < 8 * l.length) : bitAt (strOfNums l) (p : Int) = bs.getD p 0 := by
  rw [bitAt_of _ _ (by rw [str_size]; omega), ← h.bit p]
  unfold bitL bitB
  rw [bt_get, bytes_str _ h.byt, show ((p : Int) / 8).toNat = p / 8 by omega, show (7 - (p : Int) % 8).toNat = 7 - p % 8 by omega]
theorem rice_agr (b : Int) (xs : List Int) : Agr (riceB b xs) 0 (encL b xs) := by
  refine agr_of _ _ _ fun i hi => ?_
  have hp := packL_is (encL_bits b xs)
  rw [Int.zero_add]
  exact bitAt_pack hp i (by have := hp.len; omega)
theorem rice_len (b : Int) (xs : List Int) : (encL b xs).length ≤ 8 * (riceB b xs).size := by rw [riceB_size]; omega
theorem riceGet_put {xs : List Int} {b : Int} (hl : xs.length ≤ 40) (hb0 : 0 ≤ b) (hb8 : b ≤ 8) (hx : ∀ x ∈ xs, numOk x) (hs : (riceB b xs).size ≤ 600) : riceGet (riceB b xs) (xs.length : Int) b = (xs, true) := by
  have h := nums_of hb0 xs 0 (fun x hx' => (hx x hx').1) (rice_agr b xs)
  unfold riceGet
  rw [Int.toNat_natCast, h, if_pos ⟨⟨by omega, by omega, hb0, hb8, hs⟩, fun x hx' => (hx x hx').2, rfl⟩]
/-- A text that was read: told. -/
theorem riceGet_true {s : ByteArray} {many b : Int} (h : (riceGet s many b).2 = true) : (0 ≤ many ∧ many ≤ 40 ∧ 0 ≤ b ∧ b ≤ 8 ∧ s.size ≤ 600) ∧ (∀ x ∈ nums1 s b many.toNat 0, x ≤ 60000) ∧ riceB b (nums1 s b many.toNat 0) = s ∧ riceGet s many b = (nums1 s b many.toNat 0, true) := by
  unfold riceGet at h ⊢
  by_cases c : (0 ≤ many ∧ many ≤ 40 ∧ 0 ≤ b ∧ b ≤ 8 ∧ s.size ≤ 600) ∧ (∀ x ∈ nums1 s b many.toNat 0, x ≤ 60000) ∧ riceB b (nums1 s b many.toNat 0) = s
  · rw [if_pos c]; exact ⟨c.1, c.2.1, c.2.2, rfl⟩
  · rw [if_neg c] at h; exact absurd h (by simp)
/-- Of two texts, one of which begins as the other, one alone is read. -/
theorem one_read {s t : ByteArray} {many b : Int} (hst : ∀ p, 0 ≤ p → p < 8 * (s.size : Int) → bitAt t p = bitAt s p) (h : (riceGet s many b).2 = true) (k : (riceGet t many b).2 = true) : s = t := by
  obtain ⟨h1, _, h3, _⟩ := riceGet_true h
  obtain ⟨_, _, k3, _⟩ := riceGet_true k
  have ha := rice_agr b (nums1 s b many.toNat 0)
  have hl := rice_len b (nums1 s b many.toNat 0)
  rw [h3] at ha hl
  have hb := agr_same hst _ 0 (by omega) (by omega) ha
  have hn := nums_of h1.2.2.1 (nums1 s b many.toNat 0) 0 (nums1_ge s b _ _) hb
  rw [nums1_len] at hn
  rw [hn, h3] at k3
  exact k3
end Go.Proofs.Ytipmgmiooanghaa.Rice
