/- What RicePut and the reference's l2Rice write: the same plain function of the numbers. Conditions: those in each theorem. -/
import Derived.Test.YtipmgmiooanghaaRt
namespace Go.Proofs.Ytipmgmiooanghaa.Rice
open Go Go.RowKit Go.Proofs.YtipmgmiooanghaaW.PrintWords Go.Proofs.Ytipmgmiooanghaa.Pl
set_option linter.unusedVariables false
/-- The last c bits of n, the highest first. -/
def restB (n : Int) : Nat → List Int
  | 0 => []
  | c + 1 => n / 2 ^ c % 2 :: restB n c
theorem restB_len (n : Int) : ∀ c, (restB n c).length = c
  | 0 => rfl
  | c + 1 => by simp [restB, restB_len n c]
theorem restB_bits (n : Int) : ∀ c, isBits (restB n c)
  | 0 => fun x hx => by simp [restB] at hx
  | c + 1 => fun x hx => by
    rcases List.mem_cons.1 hx with rfl | hx
    · omega
    · exact restB_bits n c x hx
/-- A number's bits. -/
def encN (b n : Int) : List Int := List.replicate (n / 2 ^ b.toNat).toNat 1 ++ 0 :: restB n b.toNat
def encL (b : Int) : List Int → List Int
  | [] => []
  | n :: xs => encN b n ++ encL b xs
theorem encN_bits (b n : Int) : isBits (encN b n) := by
  refine isBits_app (fun x hx => .inr (List.eq_of_mem_replicate hx)) fun x hx => ?_
  rcases List.mem_cons.1 hx with rfl | hx
  · exact .inl rfl
  · exact restB_bits _ _ x hx
theorem encL_bits (b : Int) : ∀ xs, isBits (encL b xs)
  | [] => fun x hx => by simp [encL] at hx
  | n :: xs => isBits_app (encN_bits b n) (encL_bits b xs)
theorem encN_len (b n : Int) : (encN b n).length = (n / 2 ^ b.toNat).toNat + 1 + b.toNat := by
  unfold encN; rw [List.length_append, List.length_replicate, List.length_cons, restB_len]; omega
theorem encL_app (b : Int) : ∀ xs ys, encL b (xs ++ ys) = encL b xs ++ encL b ys
  | [], _ => rfl
  | x :: xs, ys => by simp only [List.cons_append, encL, encL_app b xs ys, List.append_assoc]
def riceB (b : Int) (xs : List Int) : ByteArray := strOfNums (packL (encL b xs))
/-- Numbers that may be written. -/
def numOk (n : Int) : Prop := 0 ≤ n ∧ n ≤ 60000
instance (n : Int) : Decidable (numOk n) := by unfold numOk; exact inferInstance
theorem fits_of {l bs : List Int} (h : IsPack l bs) (hm : bs.length ≤ 1000000000) : fits l (bs.length : Int) := ⟨by omega, by omega, by have := h.len; omega⟩
theorem snoc_len (bs : List Int) (x : Int) : ((bs ++ [x]).length : Int) = (bs.length : Int) + 1 := by simp
theorem and_one (x : Int) (h0 : 0 ≤ x) (h1 : x ≤ 60000) : Go.bits .and .i64 x 1 = x % 2 := by
  obtain ⟨m, rfl⟩ := Int.eq_ofNat_of_zero_le h0
  have h1' : (BitVec.ofInt 64 (m : Int)).toNat = m := by
    rw [BitVec.ofInt_natCast, BitVec.toNat_ofNat]; exact Nat.mod_eq_of_lt (by omega)
  have h2 : (BitVec.ofInt 64 (1 : Int)).toNat = 1 := by decide
  show IntKind.i64.wrap ((BitVec.ofInt 64 (m : Int) &&& BitVec.ofInt 64 (1 : Int)).toNat : Int) = _
  rw [BitVec.toNat_and, h1', h2, Nat.and_one_is_mod, IntKind.wrap_i64]
  have hs : wrap64 ((m % 2 : Nat) : Int) = ((m % 2 : Nat) : Int) := w64 (by omega) (by omega)
  first | (rw [hs]; omega) | omega
/-- The bits of the rest, as the program takes them. -/
theorem and_rest {n : Int} (h : numOk n) (c : Nat) : Go.bits .and .i64 (n / 2 ^ c) 1 = n / 2 ^ c % 2 :=
  and_one _ (Int.ediv_nonneg h.1 (Int.pow_nonneg (by omega))) (Int.le_trans (Int.ediv_le_self _ h.1) h.2)
/-- RicePut from the loop over the rest's bits on. -/
theorem rp2_comes (xs : List Int) (b : Int) (i n : Int) (hn : numOk n) (r : ByteArray) :
    ∀ (c : Nat) (l bs : List Int), IsPack l bs → isBits bs → bs.length + c ≤ 1000000000 → (∀ l', IsPack l' (bs ++ restB n c) → ∃ k, rp0 k xs b (i + 1) l' ((bs ++ restB n c).length : Int) = some r) → ∃ k, rp2 k xs b i n ((c : Int) - 1) l (bs.length : Int) = some r
  | 0, l, bs, hp, hb, hl, hk => by
    simp only [restB, List.append_nil] at hk
    obtain ⟨k, hk⟩ := hk l hp
    refine ⟨k + 1, ?_⟩
    simp only [rp2]
    rw [if_neg (by omega)]
    exact hk
  | c + 1, l, bs, hp, hb, hl, hk => by
    have hbit : n / 2 ^ c % 2 = 0 ∨ n / 2 ^ c % 2 = 1 := by omega
    have hp1 := hp.put _ rfl (Go.bits .and .i64 (n / 2 ^ c) 1 == 1)
    have e : (if (Go.bits .and .i64 (n / 2 ^ c) 1 == 1) = true then (1 : Int) else 0) = n / 2 ^ c % 2 := by
      rw [and_rest hn]
      rcases hbit with h | h <;> rw [h] <;> rfl
    rw [e] at hp1
    obtain ⟨k, h⟩ := rp2_comes xs b i n hn r c _ (bs ++ [n / 2 ^ c % 2]) hp1 (isBits_app hb fun x hx => by rw [List.mem_singleton.1 hx]; exact hbit) (by rw [List.length_append, List.length_singleton]; omega) (by
      rw [List.append_assoc]; exact hk)
    refine ⟨k + 1, ?_⟩
    simp only [rp2]
    rw [if_pos (by omega), if_pos (fits_of hp (by omega)), show ((c + 1 : Nat) : Int) - 1 - 1 = (c : Int) - 1 by omega, show (((c + 1 : Nat) : Int) - 1).toNat = c by omega, ← snoc_len bs (n / 2 ^ c % 2)]
    exact h
/-- RicePut from the loop over the ones on. -/
theorem rp1_comes (xs : List Int) (b : Int) (hb0 : 0 ≤ b) (i n : Int) (hn : numOk n) (r : ByteArray) :
    ∀ (q : Nat) (l bs : List Int), IsPack l bs → isBits bs → bs.length + q + 1 + b.toNat ≤ 1000000000 → (∀ l', IsPack l' (bs ++ (List.replicate q 1 ++ 0 :: restB n b.toNat)) → ∃ k, rp0 k xs b (i + 1) l' ((bs ++ (List.replicate q 1 ++ 0 :: restB n b.toNat)).length : Int) = some r) → ∃ k, rp1 k xs b i n (q : Int) l (bs.length : Int) = some r
  | 0, l, bs, hp, hb, hl, hk => by
    have hp1 := hp.put _ rfl false
    simp only [List.replicate_zero, List.nil_append] at hk
    obtain ⟨k, h⟩ := rp2_comes xs b i n hn r b.toNat _ (bs ++ [0]) hp1 (isBits_app hb fun x hx => by rw [List.mem_singleton.1 hx]; exact .inl rfl) (by rw [List.length_append, List.length_singleton]; omega) (by
      rw [List.append_assoc]; exact hk)
    refine ⟨k + 1, ?_⟩
    simp only [rp1]
    rw [if_pos (fits_of hp (by omega)), if_neg (by omega), ← snoc_len bs 0, show b - 1 = ((b.toNat : Nat) : Int) - 1 by omega]
    exact h
  | q + 1, l, bs, hp, hb, hl, hk => by
    have hp1 := hp.put _ rfl true
    obtain ⟨k, h⟩ := rp1_comes xs b hb0 i n hn r q _ (bs ++ [1]) hp1 (isBits_app hb fun x hx => by rw [List.mem_singleton.1 hx]; exact .inr rfl) (by rw [List.length_append, List.length_singleton]; omega) (by
      rw [List.append_assoc]
      rw [List.replicate_succ] at hk
      exact hk)
    refine ⟨k + 1, ?_⟩
    simp only [rp1]
    rw [if_pos (fits_of hp (by omega)), if_pos (by omega), ← snoc_len bs 1, show ((q + 1 : Nat) : Int) - 1 = (q : Int) by omega]
    exact h
theorem enc_small {b n : Int} (hb0 : 0 ≤ b) (hb8 : b ≤ 8) (hn : numOk n) : (encN b n).length ≤ 60009 := by
  rw [encN_len]
  have := div_small hn b
  omega
theorem rd_at (xs : List Int) (i : Nat) (h : i < xs.length) : rd xs (i : Int) = xs[i] := by
  unfold rd
  rw [Int.toNat_natCast, List.getD_eq_getElem?_getD, List.getElem?_eq_getElem h, Option.getD_some]
theorem rp0_comes (xs : List Int) (b : Int) (hb0 : 0 ≤ b) (hb8 : b ≤ 8) : ∀ (d i : Nat) (l bs : List Int), i + d = xs.length → IsPack l bs → isBits bs → bs.length + 60009 * d ≤ 1000000000 → ∃ k, rp0 k xs b (i : Int) l (bs.length : Int) = some (if ∀ x ∈ xs.drop i, numOk x then strOfNums (packL (bs ++ encL b (xs.drop i))) else (⟨#[]⟩ : ByteArray))
  | 0, i, l, bs, hi, hp, hb, hl => by
    refine ⟨1, ?_⟩
    simp only [rp0]
    rw [if_neg (by omega), List.drop_eq_nil_of_le (by omega), if_pos (by simp), hp.eq hb]
    simp [encL]
  | d + 1, i, l, bs, hi, hp, hb, hl => by
    have hlt : i < xs.length := by omega
    have hd : xs.drop i = xs[i] :: xs.drop (i + 1) := List.drop_eq_getElem_cons hlt
    have hr := rd_at xs i hlt
    by_cases hn : numOk xs[i]
    · have hs := enc_small hb0 hb8 hn
      have hq : 0 ≤ xs[i] / 2 ^ b.toNat := Int.ediv_nonneg hn.1 (Int.pow_nonneg (by omega))
      obtain ⟨k, h⟩ := rp1_comes xs b hb0 (i : Int) xs[i] hn (if ∀ x ∈ xs.drop i, numOk x then strOfNums (packL (bs ++ encL b (xs.drop i))) else (⟨#[]⟩ : ByteArray)) (xs[i] / 2 ^ b.toNat).toNat l bs hp hb (by rw [encN_len] at hs; omega) (fun l' hl' => by
        obtain ⟨k, h⟩ := rp0_comes xs b hb0 hb8 d (i + 1) l' (bs ++ encN b xs[i]) (by omega) hl' (isBits_app hb (encN_bits _ _)) (by rw [List.length_append]; omega)
        refine ⟨k, ?_⟩
        have e : (∀ x ∈ xs.drop i, numOk x) ↔ (∀ x ∈ xs.drop (i + 1), numOk x) := by
          rw [hd]
          exact ⟨fun h x hx => h x (List.mem_cons_of_mem _ hx), fun h x hx => (List.mem_cons.1 hx).elim (fun e => e ▸ hn) (h x)⟩
        rw [show ((i : Int) + 1) = ((i + 1 : Nat) : Int) by omega]
        rw [show bs ++ (List.replicate (xs[i] / 2 ^ b.toNat).toNat 1 ++ 0 :: restB xs[i] b.toNat) = bs ++ encN b xs[i] from rfl, h]
        simp only [e]
        rw [hd, encL, List.append_assoc])
      refine ⟨k + 1, ?_⟩
      simp only [rp0]
      rw [if_pos (by omega), if_pos (by omega), hr, if_pos (show 0 ≤ xs[i] ∧ xs[i] ≤ 60000 from hn)]
      rw [Int.toNat_of_nonneg hq] at h
      exact h
    · refine ⟨1, ?_⟩
      simp only [rp0]
      rw [if_pos (by omega), if_pos (by omega), hr, if_neg (show ¬ (0 ≤ xs[i] ∧ xs[i] ≤ 60000) from hn), if_neg (fun h => hn (h _ (by rw [hd]; exact List.mem_cons_self)))]
/-- What RicePut answers. -/
def ricePut (xs : List Int) (b : Int) : ByteArray := if xs.length ≤ 40 ∧ (0 ≤ b ∧ b ≤ 8) ∧ (∀ x ∈ xs, numOk x) then riceB b xs else (⟨#[]⟩ : ByteArray)
theorem ricePut_calls (A0 : Option Addr) (c0 : Nat) (xs : List Int) (b : Int) (w : World) (hr0 : Kd.C (Kd.int .i64) w A0 xs.length xs) (hc0 : xs.length ≤ c0) (hm : xs.length ≤ 9223372036854775807) :
    Calls Try.prog 12 #[.slice A0 xs.length c0, .int .i64 b] w fun e w' => e = .returned (.string (ricePut xs b)) ∧ Below w.heap.size w w' := by
  unfold ricePut
  by_cases h40 : xs.length ≤ 40
  · by_cases hb : 0 ≤ b ∧ b ≤ 8
    · obtain ⟨k, h⟩ := rp0_comes xs b hb.1 hb.2 xs.length 0 [] [] (by omega) IsPack.nil (fun x hx => by simp at hx) (by rw [List.length_nil]; omega)
      have := rp_calls k A0 c0 xs b _ w hr0 hc0 h40 hb.1 hb.2 h
      simp only [List.drop_zero, List.nil_append] at this
      by_cases hx : ∀ x ∈ xs, numOk x
      · rw [if_pos hx] at this; rw [if_pos ⟨h40, hb, hx⟩]; exact this
      · rw [if_neg hx] at this; rw [if_neg (fun h => hx h.2.2)]; exact this
    · rw [if_neg (fun h => hb h.2.1)]
      exact rp_bits A0 c0 xs b w h40 hb
  · rw [if_neg (fun h => h40 h.1)]
    exact rp_long A0 c0 xs b w (by omega) hm
/-! ## The reference -/
theorem bnum8 {e : List Int} (h : isBits e) (hl : e.length = 8) : (∀ j, j < 8 → bitB (bnum e) j = e.getD j 0) ∧ 0 ≤ bnum e ∧ bnum e ≤ 255 := by
  match e, hl with
  | [a0, a1, a2, a3, a4, a5, a6, a7], _ =>
    have h0 : 0 ≤ a0 ∧ a0 ≤ 1 := by have := h a0 (by simp); omega
    have h1 : 0 ≤ a1 ∧ a1 ≤ 1 := by have := h a1 (by simp); omega
    have h2 : 0 ≤ a2 ∧ a2 ≤ 1 := by have := h a2 (by simp); omega
    have h3 : 0 ≤ a3 ∧ a3 ≤ 1 := by have := h a3 (by simp); omega
    have h4 : 0 ≤ a4 ∧ a4 ≤ 1 := by have := h a4 (by simp); omega
    have h5 : 0 ≤ a5 ∧ a5 ≤ 1 := by have := h a5 (by simp); omega
    have h6 : 0 ≤ a6 ∧ a6 ≤ 1 := by have := h a6 (by simp); omega
    have h7 : 0 ≤ a7 ∧ a7 ≤ 1 := by have := h a7 (by simp); omega
    clear h
    have ev : bnum [a0, a1, a2, a3, a4, a5, a6, a7] = 128 * a0 + 64 * a1 + 32 * a2 + 16 * a3 + 8 * a4 + 4 * a5 + 2 * a6 + a7 := by
      simp only [bnum, List.foldl]; omega
    rw [ev]
    refine ⟨fun j hj => ?_, by omega, by omega⟩
    unfold bitB
    have hj' : j = 0 ∨ j = 1 ∨ j = 2 ∨ j = 3 ∨ j = 4 ∨ j = 5 ∨ j = 6 ∨ j = 7 := by omega
    rcases hj' with rfl | rfl | rfl | rfl | rfl | rfl | rfl | rfl <;> simp only [Nat.sub_zero, Nat.reduceSub, Int.reducePow, List.getD_cons_zero, List.getD_cons_succ] <;> omega
theorem getD_app (a b : List Int) (p : Nat) : (a ++ b).getD p 0 = if p < a.length then a.getD p 0 else b.getD (p - a.length) 0 := by
  rw [List.getD_eq_getElem?_getD, List.getD_eq_getElem?_getD, List.getD_eq_getElem?_getD]
  by_cases h : p < a.length
  · rw [if_pos h, List.getElem?_append_left h]
  · rw [if_neg h, List.getElem?_append_right (by omega)]
theorem getD_out (a : List Int) (p : Nat) (h : a.length ≤ p) : a.getD p 0 = 0 := by
  rw [List.getD_eq_getElem?_getD, List.getElem?_eq_none h]; rfl
theorem IsPack.byte {l pre e : List Int} (h : IsPack l pre) (hl : pre.length = 8 * l.length) (he : isBits e) (h8 : e.length = 8) : IsPack (l ++ [bnum e]) (pre ++ e) := by
  obtain ⟨hb, hb2⟩ := bnum8 he h8
  refine ⟨by rw [List.length_append, List.length_append, List.length_singleton]; omega, fun x hx => ?_, fun p => ?_⟩
  · rcases List.mem_append.1 hx with hx | hx
    · exact h.byt x hx
    · rw [List.mem_singleton.1 hx]; exact hb2
  · unfold bitL
    rw [getD_app l, getD_app pre]
    by_cases h1 : p / 8 < l.length
    · rw [if_pos h1, if_pos (by omega), ← h.bit p]; rfl
    · rw [if_neg h1, if_neg (by omega)]
      by_cases h2 : p / 8 = l.length
      · rw [show p / 8 - l.length = 0 by omega, List.getD_cons_zero, hb _ (by omega), show p - pre.length = p % 8 by omega]
      · rw [getD_out [bnum e] _ (by rw [List.length_singleton]; omega), getD_out e _ (by omega), bitB_zero]
/-- Full bytes, and the bits that are left. -/
def IsTwo (s : List Int × List Int) (bs : List Int) : Prop := ∃ pre, bs = pre ++ s.2 ∧ pre.length = 8 * s.1.length ∧ s.2.length < 8 ∧ IsPack s.1 pre
theorem IsTwo.sp_ {s : List Int × List Int} {bs : List Int} (h : IsTwo s bs) (hb : isBits bs) {x : Int} (hx : x = 0 ∨ x = 1) : IsTwo (sp s x) (bs ++ [x]) := by
  obtain ⟨pre, rfl, hl, h8, hp⟩ := h
  unfold sp
  by_cases e : s.2.length + 1 = 8
  · rw [if_pos e]
    refine ⟨pre ++ (s.2 ++ [x]), by simp, by simp only [List.length_append, List.length_singleton]; omega, by simp, hp.byte hl (isBits_app (fun y hy => hb y (List.mem_append.2 (.inr hy))) fun y hy => by rw [List.mem_singleton.1 hy]; exact hx) (by rw [List.length_append, List.length_singleton]; exact e)⟩
  · rw [if_neg e]
    exact ⟨pre, by simp, hl, by rw [List.length_append, List.length_singleton]; omega, hp⟩
theorem sp_snd (s : List Int × List Int) (x : Int) : (sp s x).2.length = if s.2.length + 1 = 8 then 0 else s.2.length + 1 := by
  unfold sp
  by_cases e : s.2.length + 1 = 8
  · rw [if_pos e, if_pos e]; rfl
  · rw [if_neg e, if_neg e, List.length_append, List.length_singleton]
theorem endS_is : ∀ (k : Nat) (s : List Int × List Int) (bs : List Int), IsTwo s bs → isBits bs → (s.2.length = 0 ∨ 8 ≤ s.2.length + k) → ∃ c, c = (8 - s.2.length) % 8 ∧ IsTwo (endS k s) (bs ++ List.replicate c 0) ∧ (endS k s).2 = []
  | 0, s, bs, h, hb, hk => by
    obtain ⟨pre, rfl, hl, h8, hp⟩ := h
    have h0 : s.2.length = 0 := by omega
    have h0' : s.2 = [] := List.eq_nil_of_length_eq_zero h0
    exact ⟨0, by omega, by rw [List.replicate_zero, List.append_nil]; exact ⟨pre, rfl, hl, h8, hp⟩, h0'⟩
  | k + 1, s, bs, h, hb, hk => by
    simp only [endS]
    have h8 : s.2.length < 8 := by obtain ⟨_, _, _, h8, _⟩ := h; exact h8
    by_cases h0 : s.2.length > 0
    · rw [if_pos h0]
      have hs := sp_snd s 0
      obtain ⟨c, hc, h1, h2⟩ := endS_is k (sp s 0) (bs ++ [0]) (h.sp_ hb (.inl rfl)) (isBits_app hb fun y hy => by rw [List.mem_singleton.1 hy]; exact .inl rfl) (by rw [hs]; split <;> omega)
      refine ⟨c + 1, ?_, ?_, h2⟩
      · rw [hs] at hc; split at hc <;> omega
      · rw [List.append_assoc] at h1; rw [List.replicate_succ]; exact h1
    · rw [if_neg h0]
      obtain ⟨pre, rfl, hl, _, hp⟩ := h
      have h0' : s.2 = [] := List.eq_nil_of_length_eq_zero (by omega)
      exact ⟨0, by omega, by rw [List.replicate_zero, List.append_nil]; exact ⟨pre, rfl, hl, h8, hp⟩, h0'⟩
theorem getD_zeros (bs : List Int) (c p : Nat) : (bs ++ List.replicate c 0).getD p 0 = bs.getD p 0 := by
  rw [getD_app]
  by_cases h : p < bs.length
  · rw [if_pos h]
  · rw [if_neg h, getD_out bs p (by omega), List.getD_eq_getElem?_getD, List.getElem?_replicate]
    split <;> rfl
theorem endS_pack {s : List Int × List Int} {bs : List Int} (h : IsTwo s bs) (hb : isBits bs) : (endS 8 s).1 = packL bs := by
  have hlen : bs.length % 8 = s.2.length := by obtain ⟨pre, rfl, hl, h8, hp⟩ := h; rw [List.length_append]; omega
  obtain ⟨c, hc, ⟨pre, e, hl, h8, hp⟩, h2⟩ := endS_is 8 s bs h hb (.inr (by omega))
  rw [h2, List.append_nil] at e
  subst e
  refine IsPack.eq ⟨?_, hp.byt, fun p => ?_⟩ hb
  · rw [List.length_append, List.length_replicate] at hl; omega
  · rw [hp.bit p, getD_zeros]
theorem numS_is (n : Int) : ∀ (c : Nat) (s : List Int × List Int) (bs : List Int), IsTwo s bs → isBits bs → IsTwo (numS s n c) (bs ++ restB n c)
  | 0, s, bs, h, _ => by rw [restB, List.append_nil]; exact h
  | c + 1, s, bs, h, hb => by
    have hbit : n / 2 ^ c % 2 = 0 ∨ n / 2 ^ c % 2 = 1 := by omega
    have := numS_is n c (sp s (n / 2 ^ c % 2)) (bs ++ [n / 2 ^ c % 2]) (h.sp_ hb hbit) (isBits_app hb fun y hy => by rw [List.mem_singleton.1 hy]; exact hbit)
    rw [List.append_assoc] at this
    exact this
theorem restB_mod (n : Int) (b : Nat) : ∀ c, c ≤ b → restB (n % 2 ^ b) c = restB n c
  | 0, _ => rfl
  | c + 1, hc => by
    have e : n % 2 ^ b / 2 ^ c % 2 = n / 2 ^ c % 2 := by
      obtain ⟨d, rfl⟩ : ∃ d, b = c + 1 + d := ⟨b - (c + 1), by omega⟩
      have h1 : (2 : Int) ^ (c + 1 + d) = 2 ^ c * (2 * 2 ^ d) := by rw [Int.pow_add, Int.pow_succ]; simp only [Int.mul_assoc]
      have h2 : n = n % 2 ^ (c + 1 + d) + 2 ^ c * (2 * 2 ^ d * (n / 2 ^ (c + 1 + d))) := by
        have := Int.emod_add_mul_ediv n (2 ^ (c + 1 + d))
        rw [h1] at this ⊢
        rw [Int.mul_assoc] at this
        exact this.symm
      have h3 : n / 2 ^ c = n % 2 ^ (c + 1 + d) / 2 ^ c + 2 * 2 ^ d * (n / 2 ^ (c + 1 + d)) := by
        conv => lhs; rw [h2]
        exact Int.add_mul_ediv_left _ _ (Int.ne_of_gt (Int.pow_pos (by omega)))
      rw [h3, Int.mul_assoc]
      omega
    rw [restB, restB, e, restB_mod n b c (by omega)]
/-- l2Rice from the loop over the ones on. -/
theorem rs1_comes (xs : List Int) (b : Int) (i n : Int) (hr : rd xs i = n) (r : ByteArray) :
    ∀ (q : Nat) (s : List Int × List Int) (bs : List Int), IsTwo s bs → isBits bs → bs.length + q ≤ 800000000 → (∀ s', IsTwo s' (bs ++ (List.replicate q 1 ++ 0 :: restB n b.toNat)) → ∃ k, rs0 k xs b (i + 1) s' = some r) → ∃ k, rs1 k xs b i (q : Int) s = some r
  | 0, s, bs, hp, hb, hl, hk => by
    simp only [List.replicate_zero, List.nil_append] at hk
    have h1 := numS_is (n % 2 ^ b.toNat) b.toNat (sp s 0) (bs ++ [0]) (hp.sp_ hb (.inl rfl)) (isBits_app hb fun y hy => by rw [List.mem_singleton.1 hy]; exact .inl rfl)
    rw [restB_mod n _ _ (Nat.le_refl _), List.append_assoc] at h1
    obtain ⟨k, h⟩ := hk _ h1
    refine ⟨k + 1, ?_⟩
    simp only [rs1]
    rw [if_pos (by obtain ⟨pre, rfl, hl2, _⟩ := hp; rw [List.length_append] at hl; omega), if_neg (by omega), hr]
    exact h
  | q + 1, s, bs, hp, hb, hl, hk => by
    obtain ⟨k, h⟩ := rs1_comes xs b i n hr r q (sp s 1) (bs ++ [1]) (hp.sp_ hb (.inr rfl)) (isBits_app hb fun x hx => by rw [List.mem_singleton.1 hx]; exact .inr rfl) (by rw [List.length_append, List.length_singleton]; omega) (by
      rw [List.append_assoc]
      rw [List.replicate_succ] at hk
      exact hk)
    refine ⟨k + 1, ?_⟩
    simp only [rs1]
    rw [if_pos (by obtain ⟨pre, rfl, hl2, _⟩ := hp; rw [List.length_append] at hl; omega), if_pos (by omega), show ((q + 1 : Nat) : Int) - 1 = (q : Int) by omega]
    exact h
theorem rs0_comes (xs : List Int) (b : Int) (hb0 : 0 ≤ b) (hb8 : b ≤ 8) (hx : ∀ x ∈ xs, numOk x) : ∀ (d i : Nat) (s : List Int × List Int) (bs : List Int), i + d = xs.length → IsTwo s bs → isBits bs → bs.length + 60009 * d ≤ 700000000 → ∃ k, rs0 k xs b (i : Int) s = some (strOfNums (packL (bs ++ encL b (xs.drop i))))
  | 0, i, s, bs, hi, hp, hb, hl => by
    refine ⟨1, ?_⟩
    simp only [rs0]
    rw [if_neg (by omega), if_pos (by obtain ⟨pre, rfl, hl2, _⟩ := hp; rw [List.length_append] at hl; omega), List.drop_eq_nil_of_le (by omega), endS_pack hp hb]
    simp [encL]
  | d + 1, i, s, bs, hi, hp, hb, hl => by
    have hlt : i < xs.length := by omega
    have hd : xs.drop i = xs[i] :: xs.drop (i + 1) := List.drop_eq_getElem_cons hlt
    have hr := rd_at xs i hlt
    have hn : numOk xs[i] := hx _ (List.getElem_mem hlt)
    have hs := enc_small hb0 hb8 hn
    have hq : 0 ≤ xs[i] / 2 ^ b.toNat := Int.ediv_nonneg hn.1 (Int.pow_nonneg (by omega))
    obtain ⟨k, h⟩ := rs1_comes xs b (i : Int) xs[i] hr (strOfNums (packL (bs ++ encL b (xs.drop i)))) (xs[i] / 2 ^ b.toNat).toNat s bs hp hb (by rw [encN_len] at hs; omega) (fun s' hs' => by
      obtain ⟨k, h⟩ := rs0_comes xs b hb0 hb8 hx d (i + 1) s' (bs ++ encN b xs[i]) (by omega) hs' (isBits_app hb (encN_bits _ _)) (by rw [List.length_append]; omega)
      refine ⟨k, ?_⟩
      rw [show ((i : Int) + 1) = ((i + 1 : Nat) : Int) by omega, h, hd, encL, List.append_assoc])
    refine ⟨k + 1, ?_⟩
    simp only [rs0]
    rw [if_pos (by omega), if_pos (by omega), hr, if_pos (show 0 ≤ xs[i] ∧ xs[i] ≤ 60000 from hn)]
    rw [Int.toNat_of_nonneg hq] at h
    exact h
/-- What l2Rice answers, where it is asked. -/
theorem l2Rice_calls (A0 : Option Addr) (c0 : Nat) (xs : List Int) (b : Int) (w : World) (hr0 : Kd.C (Kd.int .i64) w A0 xs.length xs) (h40 : xs.length ≤ 40) (hb0 : 0 ≤ b) (hb8 : b ≤ 8) (hx : ∀ x ∈ xs, numOk x) :
    Calls Try.prog 30 #[.slice A0 xs.length c0, .int .i64 b] w fun e w' => e = .returned (.string (riceB b xs)) ∧ Below w.heap.size w w' := by
  obtain ⟨k, h⟩ := rs0_comes xs b hb0 hb8 hx xs.length 0 ([], []) [] (by omega) ⟨[], rfl, rfl, by simp, IsPack.nil⟩ (fun x hx => by simp at hx) (by rw [List.length_nil]; omega)
  exact rs_calls k A0 c0 xs b _ w hr0 h40 hb0 hb8 h
end Go.Proofs.Ytipmgmiooanghaa.Rice
