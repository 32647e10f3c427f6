/- Texts cut at a byte, and numbers in decimals: plain lists of numbers. Nothing of the program. -/
import Derived.Test.YtgjljbaadglpnaaGreatDoorPd
import Derived.Lib.Split
import Derived.Lib.ItoaNum
import Derived.Lib.IndexBytes
namespace Go.Proofs.YtgjljbaadglpnaaGreatDoor.Pl
open Go Go.RowKit Go.Proofs.YtgjljbaadglpnaaGreatDoorW.PrintWords
set_option linter.unusedVariables false
def addH (x : Int) : List (List Int) → List (List Int)
 | [] => [[x]]
 | p :: ps => (x :: p) :: ps
def addL (seg : List Int) : List (List Int) → List (List Int)
 | [] => [seg]
 | p :: ps => (seg ++ p) :: ps
def cutN (b : Int) : List Int → Nat → List (List Int)
 | [], _ => [[]]
 | x :: xs, 0 => [x :: xs]
 | x :: xs, m + 1 => if x = b then [] :: cutN b xs m else addH x (cutN b xs (m + 1))
def joinB (b : Int) : List (List Int) → List Int
 | [] => []
 | [p] => p
 | p :: q :: r => p ++ b :: joinB b (q :: r)
def cntB (b : Int) : List Int → Nat
 | [] => 0
 | x :: xs => if x = b then cntB b xs + 1 else cntB b xs
theorem cntB_le (b : Int) : ∀ xs, cntB b xs ≤ xs.length
 | [] => Nat.le_refl _
 | x :: xs => by
  have := cntB_le b xs
  rw [cntB, List.length_cons]; split <;> omega
theorem addH_len (x : Int) : ∀ ps, ps ≠ [] → (addH x ps).length = ps.length
 | [], h => absurd rfl h
 | p :: ps, _ => rfl
theorem addH_ne (x : Int) : ∀ ps, addH x ps ≠ []
 | [] => by simp [addH]
 | p :: ps => by simp [addH]
theorem cutN_ne (b : Int) : ∀ xs m, cutN b xs m ≠ []
 | [], _ => by simp [cutN]
 | x :: xs, 0 => by simp [cutN]
 | x :: xs, m + 1 => by
  rw [cutN]; split
  ·simp
  ·exact addH_ne _ _
theorem cutN_len (b : Int) : ∀ xs m, (cutN b xs m).length = min m (cntB b xs) + 1
 | [], m => by simp [cutN, cntB]
 | x :: xs, 0 => by simp [cutN]
 | x :: xs, m + 1 => by
  rw [cutN, cntB]
  by_cases h : x = b
  ·rw [if_pos h, if_pos h, List.length_cons, cutN_len b xs m]; omega
  ·rw [if_neg h, if_neg h, addH_len _ _ (cutN_ne b xs (m + 1)), cutN_len b xs (m + 1)]
theorem cutN_same (b : Int) : ∀ xs m m', cntB b xs ≤ m → cntB b xs ≤ m' → cutN b xs m = cutN b xs m'
 | [], _, _, _, _ => rfl
 | x :: xs, m, m', h, h' => by
  rw [cntB] at h h'
  by_cases e : x = b
  ·rw [if_pos e] at h h'
   obtain ⟨n, rfl⟩ : ∃ n, m = n + 1 := ⟨m - 1, by omega⟩
   obtain ⟨n', rfl⟩ : ∃ n, m' = n + 1 := ⟨m' - 1, by omega⟩
   rw [cutN, cutN, if_pos e, if_pos e, cutN_same b xs n n' (by omega) (by omega)]
  ·rw [if_neg e] at h h'
   have z : ∀ n, cntB b xs ≤ n → cutN b (x :: xs) n = addH x (cutN b xs n) := by
    intro n hn
    rcases n with _ | n
    ·have hnone : ∀ ys : List Int, cntB b ys = 0 → cutN b ys 0 = [ys] := fun ys _ => by cases ys <;> rfl
     rw [hnone xs (by omega)]; rfl
    ·rw [cutN, if_neg e]
   rw [z m h, z m' h', cutN_same b xs m m' h h']
theorem joinB_addH (b x : Int) : ∀ ps, ps ≠ [] → joinB b (addH x ps) = x :: joinB b ps
 | [], h => absurd rfl h
 | [p], _ => rfl
 | p :: q :: r, _ => rfl
theorem joinB_nil (b : Int) : ∀ ps, ps ≠ [] → joinB b ([] :: ps) = b :: joinB b ps
 | [], h => absurd rfl h
 | p :: r, _ => rfl
theorem joinB_cutN (b : Int) : ∀ xs m, joinB b (cutN b xs m) = xs
 | [], _ => rfl
 | x :: xs, 0 => rfl
 | x :: xs, m + 1 => by
  rw [cutN]
  by_cases h : x = b
  ·rw [if_pos h, joinB_nil _ _ (cutN_ne b xs m), joinB_cutN b xs m, h]
  ·rw [if_neg h, joinB_addH _ _ _ (cutN_ne b xs (m + 1)), joinB_cutN b xs (m + 1)]
theorem cutN_seg (b : Int) : ∀ (seg rest : List Int) (m : Nat), (∀ x ∈ seg, x ≠ b) → cutN b (seg ++ b :: rest) (m + 1) = seg :: cutN b rest m
 | [], rest, m, _ => by rw [List.nil_append, cutN, if_pos rfl]
 | x :: seg, rest, m, h => by
  rw [List.cons_append, cutN, if_neg (h x List.mem_cons_self), cutN_seg b seg rest m (fun y hy => h y (List.mem_cons_of_mem _ hy))]; rfl
theorem cutN_none (b : Int) : ∀ (seg : List Int) (m : Nat), (∀ x ∈ seg, x ≠ b) → cutN b seg m = [seg]
 | [], m, _ => rfl
 | x :: seg, 0, _ => rfl
 | x :: seg, m + 1, h => by
  rw [cutN, if_neg (h x List.mem_cons_self), cutN_none b seg (m + 1) (fun y hy => h y (List.mem_cons_of_mem _ hy))]; rfl
theorem addL_nil : ∀ ps : List (List Int), ps ≠ [] → addL [] ps = ps
 | [], h => absurd rfl h
 | p :: r, _ => rfl
theorem addL_addH (seg : List Int) (x : Int) : ∀ ps : List (List Int), addL seg (addH x ps) = addL (seg ++ [x]) ps
 | [] => rfl
 | p :: r => by rw [addH, addL, addL, List.append_assoc]; rfl
theorem indexByte_none {c : UInt8} : ∀ {l : List UInt8}, Lib.indexByte l c = -1 → ∀ x ∈ l, x ≠ c
 | [], _, x, hx => absurd hx List.not_mem_nil
 | y :: l, h, x, hx => by
  unfold Lib.indexByte at h
  by_cases e : (y == c) = true
  ·rw [if_pos e] at h; exact absurd h (by decide)
  ·rw [if_neg e] at h
   have hy : y ≠ c := fun k => e (by rw [k]; exact beq_self_eq_true c)
   by_cases e2 : (Lib.indexByte l c == -1) = true
   ·rcases List.mem_cons.1 hx with rfl | hx
    ·exact hy
    ·exact indexByte_none (beq_iff_eq.1 e2) x hx
   ·rw [if_neg e2] at h
    have := Lib.indexByte_ge l c
    omega
theorem indexByte_some {c : UInt8} : ∀ {l : List UInt8} {i : Nat}, Lib.indexByte l c = (i : Int) → i < l.length ∧ l = l.take i ++ c :: l.drop (i + 1) ∧ ∀ x ∈ l.take i, x ≠ c
 | [], i, h => by unfold Lib.indexByte at h; omega
 | y :: l, i, h => by
  unfold Lib.indexByte at h
  by_cases e : (y == c) = true
  ·rw [if_pos e] at h
   obtain rfl : i = 0 := by omega
   have : y = c := eq_of_beq e
   subst this
   exact ⟨by rw [List.length_cons]; omega, rfl, fun x hx => by rw [List.take_zero] at hx; cases hx⟩
  ·rw [if_neg e] at h
   have hy : y ≠ c := fun k => e (by rw [k]; exact beq_self_eq_true c)
   by_cases e2 : (Lib.indexByte l c == -1) = true
   ·rw [if_pos e2] at h; omega
   ·rw [if_neg e2] at h
    obtain ⟨j, rfl⟩ : ∃ j, i = j + 1 := ⟨i - 1, by have := Lib.indexByte_ge l c; have : ¬ Lib.indexByte l c = -1 := fun k => e2 (beq_iff_eq.2 k); omega⟩
    obtain ⟨h1, h2, h3⟩ := indexByte_some (c := c) (l := l) (i := j) (by omega)
    refine ⟨by rw [List.length_cons]; omega, ?_, ?_⟩
    ·rw [List.take_succ_cons, List.drop_succ_cons, List.cons_append, ← h2]
    ·intro x hx
     rw [List.take_succ_cons] at hx
     rcases List.mem_cons.1 hx with rfl | hx
     ·exact hy
     ·exact h3 x hx
theorem bytes_data (s : ByteArray) : bytesOf s = s.data.toList.map fun b => ((b.toNat : Nat) : Int) := rfl
theorem str_extract (s : ByteArray) (a b : Nat) : s.extract a b = strOfNums (((bytesOf s).take b).drop a) := bytes_inj (by
 rw [bytes_extract, bytes_str]
 intro x hx
 exact bytes_nn s x (List.mem_of_mem_take (List.mem_of_mem_drop hx)))
theorem u8_ne {c : UInt8} {l : List UInt8} (h : ∀ x ∈ l, x ≠ c) : ∀ x ∈ l.map (fun b => ((b.toNat : Nat) : Int)), x ≠ ((c.toNat : Nat) : Int) := by
 intro x hx
 obtain ⟨y, hy, rfl⟩ := List.mem_map.1 hx
 intro e
 exact h y hy (UInt8.toNat_inj.1 (by omega))
theorem split_cut (c : UInt8) : ∀ (n : Nat) (s : ByteArray), s.size ≤ n → Lib.splitB (⟨#[c]⟩ : ByteArray) 0 (Lib.countB s (⟨#[c]⟩ : ByteArray)) s = (cutN ((c.toNat : Nat) : Int) (bytesOf s) s.size).map strOfNums := by
 intro n
 induction n with
 | zero =>
  intro s hs
  have h0 : bytesOf s = [] := List.eq_nil_of_length_eq_zero (by rw [bytes_len]; omega)
  rcases Lib.indexB_cases s (⟨#[c]⟩ : ByteArray) with h | ⟨i, _, hi⟩
  ·rw [Lib.splitB_miss _ _ _ _ h, h0, cutN]
   show [s] = [strOfNums []]
   rw [← h0, str_bytes]
  ·exact absurd hi (by show ¬ i + 1 ≤ s.size; omega)
 | succ n ih =>
  intro s hs
  rcases Lib.indexB_cases s (⟨#[c]⟩ : ByteArray) with h | ⟨i, h, hi⟩
  ·have h2 : Lib.indexByte s.data.toList c = -1 := by rw [← Lib.index_one]; exact h
   rw [Lib.splitB_miss _ _ _ _ h, cutN_none _ _ _ (by rw [bytes_data]; exact u8_ne (indexByte_none h2))]
   show [s] = [strOfNums (bytesOf s)]
   rw [str_bytes]
  ·have h2 : Lib.indexByte s.data.toList c = (i : Int) := by rw [← Lib.index_one]; exact h
   obtain ⟨h3, h4, h5⟩ := indexByte_some h2
   have hi1 : i + 1 ≤ s.size := hi
   have e1 : bytesOf s = (bytesOf s).take i ++ ((c.toNat : Nat) : Int) :: (bytesOf s).drop (i + 1) := by
    conv => lhs; rw [bytes_data, h4]
    rw [List.map_append, List.map_cons, List.map_take, List.map_drop]; rfl
   have e2 : ∀ x ∈ (bytesOf s).take i, x ≠ ((c.toNat : Nat) : Int) := by
    rw [bytes_data, ← List.map_take]; exact u8_ne h5
   rw [Lib.countB_hit s _ i (Nat.le_refl _) h, Nat.add_comm, Lib.splitB_hit _ _ _ _ i h]
   have hx : (s.extract (i + (⟨#[c]⟩ : ByteArray).size) s.size) = s.extract (i + 1) s.size := rfl
   have hsz : (s.extract (i + 1) s.size).size = s.size - (i + 1) := by rw [ByteArray.size_extract]; omega
   have hbx : bytesOf (s.extract (i + 1) s.size) = (bytesOf s).drop (i + 1) := by
    rw [bytes_extract, List.take_of_length_le (by rw [bytes_len]; exact Nat.le_refl _)]
   rw [hx, ih _ (by omega), hsz, hbx]
   obtain ⟨z, hz⟩ : ∃ z, s.size = z + 1 := ⟨s.size - 1, by omega⟩
   have hc := cntB_le ((c.toNat : Nat) : Int) ((bytesOf s).drop (i + 1))
   rw [List.length_drop, bytes_len] at hc
   conv => rhs; rw [e1, hz, cutN_seg _ _ _ _ e2]
   rw [List.map_cons, str_extract, Nat.add_zero, List.drop_zero, cutN_same _ _ (s.size - (i + 1)) z hc (by omega)]
def decI (n : Nat) : List Int := if h : n < 10 then [((48 + n : Nat) : Int)] else decI (n / 10) ++ [((48 + n % 10 : Nat) : Int)]
termination_by n
decreasing_by omega
theorem decI_lt {n : Nat} (h : n < 10) : decI n = [((48 + n : Nat) : Int)] := by rw [decI, dif_pos h]
theorem decI_ge {n : Nat} (h : ¬ n < 10) : decI n = decI (n / 10) ++ [((48 + n % 10 : Nat) : Int)] := by rw [decI, dif_neg h]
theorem decI_dig (n : Nat) : ∀ x ∈ decI n, 48 ≤ x ∧ x ≤ 57 := by
 induction n using Nat.strongRecOn with
 | ind n ih =>
  by_cases h : n < 10
  ·rw [decI_lt h]; intro x hx; rw [List.mem_singleton.1 hx]; omega
  ·rw [decI_ge h]
   intro x hx
   rcases List.mem_append.1 hx with hx | hx
   ·exact ih (n / 10) (by omega) x hx
   ·rw [List.mem_singleton.1 hx]; omega
theorem decI_len : ∀ (k n : Nat), n < 10 ^ (k + 1) → (decI n).length ≤ k + 1
 | 0, n, h => by rw [decI_lt (by omega)]; exact Nat.le_refl _
 | k + 1, n, h => by
  by_cases h1 : n < 10
  ·rw [decI_lt h1, List.length_singleton]; omega
  ·have := decI_len k (n / 10) (by rw [Nat.pow_succ] at h; omega)
   rw [decI_ge h1, List.length_append, List.length_singleton]; omega
theorem decI_pos (n : Nat) : 1 ≤ (decI n).length := by
 by_cases h : n < 10
 ·rw [decI_lt h]; exact Nat.le_refl _
 ·rw [decI_ge h, List.length_append, List.length_singleton]; omega
theorem decDigits_int (n : Nat) : (Lib.decDigits n).map (fun b => ((b.toNat : Nat) : Int)) = decI n := by
 have hd : ∀ d : Nat, d < 10 → (((UInt8.ofNat (48 + d)).toNat : Nat) : Int) = ((48 + d : Nat) : Int) := by
  intro d hd
  rw [UInt8.toNat_ofNat']
  omega
 induction n using Nat.strongRecOn with
 | ind n ih =>
  rw [Lib.decDigits]
  by_cases h : n < 10
  ·rw [dif_pos h, decI_lt h, List.map_cons, List.map_nil, hd n h]
  ·rw [dif_neg h, decI_ge h, List.map_append, ih (n / 10) (by omega), List.map_cons, List.map_nil, hd (n % 10) (by omega)]
def decS (n : Int) : ByteArray := strOfNums (decI n.toNat)
theorem decS_bytes (n : Int) : bytesOf (decS n) = decI n.toNat := bytes_str _ (fun x hx => by have := decI_dig _ x hx; omega)
theorem itoa_dec {n : Int} (h : 0 ≤ n) : (⟨(Lib.itoa n).toArray⟩ : ByteArray) = decS n := bytes_inj (by
 rw [decS_bytes, bytes_lit, Lib.itoa, if_neg (by omega), decDigits_int])
theorem str_app (xs ys : List Int) (hx : ∀ x ∈ xs, 0 ≤ x ∧ x ≤ 255) (hy : ∀ x ∈ ys, 0 ≤ x ∧ x ≤ 255) : strOfNums (xs ++ ys) = strOfNums xs ++ strOfNums ys := bytes_inj (by
 rw [bytes_append, bytes_str _ hx, bytes_str _ hy, bytes_str]
 intro x h
 exact (List.mem_append.1 h).elim (hx x) (hy x))
theorem decS_ge {n : Nat} (h : ¬ n < 10) : decS (n : Int) = decS ((n / 10 : Nat) : Int) ++ strOfNums [((48 + n % 10 : Nat) : Int)] := by
 unfold decS
 rw [Int.toNat_natCast, Int.toNat_natCast, decI_ge h]
 exact str_app _ _ (fun x hx => by have := decI_dig _ x hx; omega) (fun x hx => by rw [List.mem_singleton.1 hx]; omega)
theorem decS_size {n : Int} (k : Nat) (h : n < 10 ^ (k + 1)) : (decS n).size ≤ k + 1 := by
 unfold decS
 rw [str_size]
 refine decI_len k _ ?_
 have : ((10 ^ (k + 1) : Nat) : Int) = (10 : Int) ^ (k + 1) := by norm_cast
 have hp : 0 < 10 ^ (k + 1) := Nat.pow_pos (by omega)
 omega
def nval : Int → List Int → Int
 | n, [] => n
 | n, b :: r => nval (10 * n + (b - 48)) r
def digB (b : Int) : Bool := decide (48 ≤ b ∧ b ≤ 57)
theorem digB_iff (b : Int) : digB b = true ↔ 48 ≤ b ∧ b ≤ 57 := decide_eq_true_iff
def numB (l : List Int) : Bool := decide (1 ≤ l.length ∧ l.length ≤ 9) && (l.all digB && decide (l.length ≤ 1 ∨ l.getD 0 0 ≠ 48))
theorem numB_iff (l : List Int) : numB l = true ↔ (1 ≤ l.length ∧ l.length ≤ 9) ∧ (∀ x ∈ l, 48 ≤ x ∧ x ≤ 57) ∧ (l.length ≤ 1 ∨ l.getD 0 0 ≠ 48) := by
 unfold numB
 rw [Bool.and_eq_true, Bool.and_eq_true, decide_eq_true_iff, decide_eq_true_iff, List.all_eq_true]
 simp only [digB_iff]
def numS (s : ByteArray) : Int := if numB (bytesOf s) = true then nval 0 (bytesOf s) else -1
theorem nval_app : ∀ (l : List Int) (n b : Int), nval n (l ++ [b]) = 10 * nval n l + (b - 48)
 | [], n, b => rfl
 | x :: l, n, b => by rw [List.cons_append, nval, nval]; exact nval_app l _ b
theorem nval_lt : ∀ (l : List Int) (n : Int) (i : Nat), (∀ x ∈ l, 48 ≤ x ∧ x ≤ 57) → 0 ≤ n → n < 10 ^ i → 0 ≤ nval n l ∧ nval n l < 10 ^ (i + l.length)
 | [], n, i, _, h0, h1 => ⟨h0, h1⟩
 | b :: r, n, i, h, h0, h1 => by
  have hb := h b List.mem_cons_self
  have h2 : 10 * n + (b - 48) < 10 ^ (i + 1) := by rw [Int.pow_succ]; omega
  have := nval_lt r (10 * n + (b - 48)) (i + 1) (fun x hx => h x (List.mem_cons_of_mem _ hx)) (by omega) h2
  rw [nval, List.length_cons, show i + (r.length + 1) = i + 1 + r.length by omega]
  exact this
theorem pow10_9 : ∀ i : Nat, i ≤ 9 → (10 : Int) ^ i ≤ 1000000000 ∧ 1 ≤ (10 : Int) ^ i := by
 intro i hi
 have : i = 0 ∨ i = 1 ∨ i = 2 ∨ i = 3 ∨ i = 4 ∨ i = 5 ∨ i = 6 ∨ i = 7 ∨ i = 8 ∨ i = 9 := by omega
 rcases this with rfl | rfl | rfl | rfl | rfl | rfl | rfl | rfl | rfl | rfl <;> decide
theorem nval_dec : ∀ (k : Nat) (l : List Int), l.length = k + 1 → (∀ x ∈ l, 48 ≤ x ∧ x ≤ 57) → l.getD 0 0 ≠ 48 → 1 ≤ nval 0 l ∧ decI (nval 0 l).toNat = l := by
 intro k
 induction k with
 | zero =>
  intro l hl hd h0
  obtain ⟨b, rfl⟩ : ∃ b, l = [b] := List.length_eq_one_iff.1 hl
  have hb := hd b List.mem_cons_self
  have hne : b ≠ 48 := h0
  have e : nval 0 [b] = b - 48 := by simp [nval]
  rw [e]
  refine ⟨by omega, ?_⟩
  rw [decI_lt (by omega)]
  congr 1; omega
 | succ k ih =>
  intro l hl hd h0
  obtain ⟨init, b, rfl⟩ : ∃ init b, l = init ++ [b] := by
   have hne : l ≠ [] := fun e => by rw [e] at hl; cases hl
   exact ⟨l.dropLast, l.getLast hne, (List.dropLast_concat_getLast hne).symm⟩
  rw [List.length_append, List.length_singleton] at hl
  have hb := hd b (List.mem_append_right _ List.mem_cons_self)
  obtain ⟨h1, h2⟩ := ih init (by omega) (fun x hx => hd x (List.mem_append_left _ hx)) (by
   rw [List.getD_eq_getElem?_getD, List.getElem?_append_left (by omega), ← List.getD_eq_getElem?_getD] at h0; exact h0)
  rw [nval_app]
  refine ⟨by omega, ?_⟩
  rw [decI_ge (by omega), show (10 * nval 0 init + (b - 48)).toNat / 10 = (nval 0 init).toNat by omega, h2]
  congr 2; omega
theorem numB_dec {l : List Int} (h : numB l = true) : decI (nval 0 l).toNat = l := by
 obtain ⟨h1, h2, h3⟩ := (numB_iff l).1 h
 by_cases h4 : l.getD 0 0 = 48
 ·have hl : l.length = 1 := by rcases h3 with h3 | h3; omega; exact absurd h4 h3
  obtain ⟨b, rfl⟩ : ∃ b, l = [b] := List.length_eq_one_iff.1 hl
  obtain rfl : b = 48 := h4
  have e : nval 0 [48] = 0 := by simp [nval]
  rw [e, decI_lt (by decide)]; rfl
 ·exact (nval_dec (l.length - 1) l (by omega) h2 h4).2
theorem numS_dec {s : ByteArray} (h : 0 ≤ numS s) : decS (numS s) = s := by
 unfold numS at h ⊢
 by_cases c : numB (bytesOf s) = true
 ·rw [if_pos c]
  unfold decS
  rw [numB_dec c, str_bytes]
 ·rw [if_neg c] at h; omega
theorem dec_num : ∀ (n : Nat), nval 0 (decI n) = n ∧ (1 ≤ n → (decI n).getD 0 0 ≠ 48) := by
 intro n
 induction n using Nat.strongRecOn with
 | ind n ih =>
  by_cases h : n < 10
  ·rw [decI_lt h]
   refine ⟨by simp only [nval]; omega, fun h1 => ?_⟩
   show ((48 + n : Nat) : Int) ≠ 48
   omega
  ·obtain ⟨h1, h2⟩ := ih (n / 10) (by omega)
   rw [decI_ge h, nval_app, h1]
   refine ⟨by omega, fun _ => ?_⟩
   have hp := decI_pos (n / 10)
   rw [List.getD_eq_getElem?_getD, List.getElem?_append_left (by omega), ← List.getD_eq_getElem?_getD]
   exact h2 (by omega)
theorem numB_decI {n : Nat} (h : n < 1000000000) : numB (decI n) = true := by
 refine (numB_iff _).2 ⟨⟨decI_pos n, decI_len 8 n (by omega)⟩, decI_dig n, ?_⟩
 by_cases h1 : 1 ≤ n
 ·exact .inr ((dec_num n).2 h1)
 ·obtain rfl : n = 0 := by omega
  exact .inl (by rw [decI_lt (by decide)]; exact Nat.le_refl _)
theorem numS_decS {n : Int} (h0 : 0 ≤ n) (h1 : n < 1000000000) : numS (decS n) = n := by
 unfold numS
 rw [decS_bytes, if_pos (numB_decI (by omega)), (dec_num _).1]
 omega
end Go.Proofs.YtgjljbaadglpnaaGreatDoor.Pl
