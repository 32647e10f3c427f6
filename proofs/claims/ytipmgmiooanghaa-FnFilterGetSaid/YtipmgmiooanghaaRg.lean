/- The walk of RiceGet's 'next', of copied and of RiceGet. Conditions: those in each theorem. -/
import Derived.Test.YtipmgmiooanghaaSs
import Derived.Laws.IdiomCopy
import Derived.Laws.MakeOwn
import Derived.Laws.CopyOwn
namespace Go.Proofs.Ytipmgmiooanghaa.Rice
open Go Go.RowKit Go.Proofs.YtipmgmiooanghaaW.PrintWords Go.Proofs.YtipmgmiooanghaaW.PrintLast Go.Proofs.YtipmgmiooanghaaW.PrintMore
set_option linter.unusedVariables false
/-- The bit of a text at a place; 0 behind it. -/
def bitAt (s : ByteArray) (p : Int) : Int := if p ≥ 8 * (s.size : Int) then 0 else Go.bits .and .i64 (bt s (p / 8) / 2 ^ (7 - p % 8).toNat) 1
theorem one_cell {w : World} {a : Nat} {t : TypeId} {v : Value} (h : w.heap[a]? = some (.cells #[v] t (0, 0))) : w.cell? ⟨a, 0, none⟩ = some v ∧ w.frozen? ⟨a, 0, none⟩ = false := ⟨(blk_cell h 0).trans rfl, by simp [World.frozen?, h]⟩
set_option maxHeartbeats 4000000 in
theorem next_any (w : World) (base a q : Nat) (p : Int) (s : ByteArray) (ha : w.heap[a]? = some (.cells #[.int .i64 p] 3 (0, 0))) (hq : w.heap[q]? = some (.cells #[.string s] 9 (0, 0))) (hab : base ≤ a) (hp0 : 0 ≤ p) (hp1 : p ≤ 1000000000) (hs : s.size ≤ 600) :
    Calls Try.prog 36 #[.pointer (some ⟨a, 0, none⟩), .pointer (some ⟨q, 0, none⟩)] w fun e w' => e = .returned (.int .i64 (bitAt s p)) ∧ w'.heap[a]? = some (.cells #[.int .i64 (p + 1)] 3 (0, 0)) ∧ KeepBut w w' a none ∧ Below base w w' := by
  obtain ⟨hca, hfa⟩ := one_cell ha
  obtain ⟨hcq, hfq⟩ := one_cell hq
  have HA := Aside0.mk ha
  clear ha hq
  unfold bitAt
  by_cases h : p ≥ 8 * (s.size : Int)
  · rw [if_pos h]
    have hd : decide (8 * (s.size : Int) ≤ p) = true := decide_eq_true h
    clear h
    go_enter Try.func36, Try.ntmps36
    go_wp2
    go_ret
    exact ⟨rfl, blk_set HA.out 0 _, (KeepBut.refl w a none).set_ 0 _, (Below.refl _ _).setCell hab _⟩
  · rw [if_neg h]
    have hd : decide (8 * (s.size : Int) ≤ p) = false := decide_eq_false h
    have hi0 : 0 ≤ p / 8 := by omega
    have hi1 : p / 8 < (s.size : Int) := by omega
    have hr0 : 0 ≤ 7 - p % 8 := by omega
    have hr1 : 7 - p % 8 ≤ 7 := by omega
    have hx := bt_at s (p / 8)
    obtain ⟨hb0, hb1⟩ := bt_range s (p / 8)
    clear h
    go_enter Try.func36, Try.ntmps36
    go_wp2
    go_region
    go_wp2
    go_ret
    refine ⟨rfl, ?_, ?_, ?_⟩
    · exact blk_set (w := w.drew) HA.out 0 _
    · exact KeepBut.set_ (w := w) (w1 := w.drew) (KeepBut.of_below (below_drew (Below.refl _ _)) a none) 0 _
    · exact (below_drew (Below.refl _ _)).setCell hab _
set_option maxHeartbeats 4000000 in
/-- copied, of a list that is none. -/
theorem copied_nil (A0 : Option Addr) (c0 : Nat) (w : World) :
    Calls Try.prog 37 #[.slice A0 0 c0] w fun e w' => e = .returned (.slice none 0 0) ∧ w = w' := by
  go_enter Try.func37, Try.ntmps37
  go_wp2
  go_ret
  exact ⟨rfl, rfl⟩
theorem made_len (m : Nat) : (madeCells #[.int .i64 0] m).toList.length = m := by simp [madeCells]
theorem nums_one (xs : List Int) : ∀ v ∈ nums .i64 xs, v.oneCell' = true := by
  intro v hv
  unfold nums at hv
  obtain ⟨x, _, rfl⟩ := List.mem_map.1 hv
  rfl
theorem splice_all {L cs : List Value} (h : cs.length = L.length) : splice L 0 cs = cs := by
  unfold splice
  rw [List.take_zero, List.nil_append, Nat.zero_add, List.drop_eq_nil_of_le (by omega), List.append_nil]
theorem nums_cells {w : World} {ad : Addr} {xs : List Int} (h : Kd.C (Kd.int .i64) w (some ad) xs.length xs) : ∀ j v, (nums .i64 xs)[j]? = some v → w.cell? (ad.add j) = some v := by
  intro j v hj
  have hjl : j < xs.length := by have := (List.getElem?_eq_some_iff.1 hj).1; rwa [nums_length] at this
  obtain ⟨ad', e, hx⟩ := Kd.at_int h (j : Int) (by omega) (by omega)
  obtain rfl : ad = ad' := by injection e
  rw [Int.toNat_natCast] at hx
  rw [hx]
  unfold nums at hj
  rw [List.getElem?_map, List.getElem?_eq_getElem hjl, Option.map_some] at hj
  rw [← hj]
  unfold rd
  rw [Int.toNat_natCast, List.getD_eq_getElem?_getD, List.getElem?_eq_getElem hjl, Option.getD_some]
set_option maxHeartbeats 4000000 in
theorem copied_some (ad : Addr) (c0 : Nat) (xs : List Int) (w : World) (hr0 : Kd.C (Kd.int .i64) w (some ad) xs.length xs) (hc0 : xs.length ≤ c0) (h0 : 0 < xs.length) (hl : xs.length ≤ 1000000000) :
    Calls Try.prog 37 #[.slice (some ad) xs.length c0] w fun e w' => ∃ v, e = .returned v ∧ Kd.R (Kd.int .i64) 3 w' w.heap.size (fun _ => True) v xs ∧ Below w.heap.size w w' := by
  have hlen : ((xs.length : Int) == 0) = false := beq_eq_false_iff_ne.2 (by omega)
  have hmk := print_make (P := Try.prog) 22 3 .i64 8 Try.underlying22 info3 (by omega) xs.length (by omega)
  have HR := Aside0.mk hr0
  clear hr0
  go_enter Try.func37, Try.ntmps37
  have hcs : ∀ j v, (nums .i64 xs)[j]? = some v → w.cell? (ad.add j) = some v := nums_cells HR.out
  have HCS := Aside0.mk hcs
  have hn1 : (nums .i64 xs).length = Nat.min xs.length xs.length := by rw [nums_length]; exact (Nat.min_self _).symm
  have HN1 := Aside0.mk hn1
  clear hcs hn1
  go_wp2_with (first | (refine wpList_copy_splice rfl (.tmp 10) (.tmp 11) 22 22 rfl 3 Try.underlying22 (by kernel_rfl) (some ⟨w.heap.size, 0, none⟩) (some ad) xs.length xs.length xs.length c0 rfl rfl w.heap.size 0 (madeCells #[.int .i64 0] xs.length).toList 3 (heap_alloc_new w _) (nums .i64 xs) HN1.out (fun _ => ⟨rfl, ad, rfl, fun j v hj => pw_cell_below (below_alloc (Below.refl _ _) _) (HCS.out j v hj)⟩) ?cF ?c1 w.heap.size w (below_alloc (Below.refl _ _) _) (Nat.le_refl _) ?_; (case cF => rw [nums_length, Nat.zero_add, made_len]; exact Nat.le_refl _); (case c1 => exact nums_one xs); intro w2 hh hb; have HH := Aside0.mk hh.out; have HB := Aside0.mk hb; clear hh hb))
  go_ret
  refine ⟨_, rfl, ?_, HB.out⟩
  have hh := HH.out
  rw [show splice (madeCells #[.int .i64 0] xs.length).toList 0 (nums .i64 xs) = nums .i64 xs from splice_all (by rw [nums_length, made_len])] at hh
  refine Kd.R_of_own (enc := Value.int .i64) (h1 := fun _ => rfl) ⟨by simp [encs], .inr ⟨w.heap.size, xs.length, (nums .i64 xs).toArray, rfl, Nat.le_refl _, hh, Nat.le_refl _, ?_, ?_, ?_⟩⟩ (fun _ _ => trivial)
  · simp only [maxLen]; omega
  · simp [nums]
  · rw [Nat.mul_one, List.take_of_length_le (by simp [nums])]; rfl
/-- copied, of whole numbers. -/
theorem copied_any (A0 : Option Addr) (c0 : Nat) (xs : List Int) (w : World) (hr0 : Kd.C (Kd.int .i64) w A0 xs.length xs) (hc0 : xs.length ≤ c0) (hl : xs.length ≤ 1000000000) :
    Calls Try.prog 37 #[.slice A0 xs.length c0] w fun e w' => ∃ v, e = .returned v ∧ Kd.R (Kd.int .i64) 3 w' w.heap.size (fun _ => True) v xs ∧ Below w.heap.size w w' := by
  rcases Nat.eq_zero_or_pos xs.length with h0 | h0
  · obtain rfl : xs = [] := List.eq_nil_of_length_eq_zero h0
    refine (copied_nil A0 c0 w).mono ?_
    rintro e w' ⟨rfl, rfl⟩
    exact ⟨_, rfl, Kd.R_nil _ _ _ _ _, Below.refl _ _⟩
  · obtain ⟨ad, rfl, _⟩ := Kd.at_int hr0 0 (by omega) (by omega)
    exact copied_some ad c0 xs w hr0 hc0 h0 hl
end Go.Proofs.Ytipmgmiooanghaa.Rice
