/- What three functions of Go's library answer (strconv.Itoa, strings.Split, strings.Cut), in the form that the other texts take. Conditions: the table of powers and a number of the library stand in memory. -/
import Derived.Test.YtgjljbaadglpnaaGreatDoorSl
import Derived.Test.YtgjljbaadglpnaaGreatDoorWWords
import Derived.Lib.SmallJoins
namespace Go.Proofs.YtgjljbaadglpnaaGreatDoor.Sh
open Go Go.RowKit Go.Proofs.YtgjljbaadglpnaaGreatDoorW.PrintWords
set_option linter.unusedVariables false
def HasT (w : World) : Prop := Lib.TabIs Tryz.prog w "internal/strconv.uint64pow10" .u64 Lib.pow10Tab
def HasM (w : World) : Prop := ∃ m : Int, w.cell? ⟨0, 0, none⟩ = some (.int .i64 m)
theorem gT : Tryz.prog.globalNamed "internal/strconv.uint64pow10" = some 1 := by kernel_rfl
theorem hasT_of {w w' : World} (h : Aside0 (HasT w)) (hb : Below w.heap.size w w') : HasT w' := Joins.tab_stays gT h.out hb (Nat.le_refl _)
theorem hasM_of {w w' : World} (h : Aside0 (HasM w)) (hb : Below w.heap.size w w') : HasM w' := by
 obtain ⟨m, hm⟩ := h.out
 exact ⟨m, pw_cell_below hb hm⟩
theorem below_grow {B : Nat} {w W : World} (h : Below B w W) (hB : B ≤ W.heap.size) (os : Array Obj) : Below B w (Sort.grow W os) :=
 below_then h hB ⟨rfl, rfl, rfl, by show W.heap.size ≤ (W.heap ++ os).size; rw [Array.size_append]; omega, fun k hk => Array.getElem?_append_left hk⟩
def itoaS (n : Int) : ByteArray := ⟨(Lib.itoa n).toArray⟩
theorem itoa_calls (n : Int) (h0 : -9223372036854775808 ≤ n) (h1 : n ≤ 9223372036854775807) (w : World) (ht : HasT w) :
  Calls Tryz.prog 19 #[.int .i64 n] w fun e w' => e = .returned (.string (itoaS n)) ∧ Below w.heap.size w w' := by
 refine (Tryz.strconv_Itoa n h0 h1 w ht).mono ?_
 rintro e w' ⟨rfl, k, os, rfl⟩
 exact ⟨rfl, below_grow (pw_below_drewN (Below.refl _ _) k) (Nat.le_refl _) os⟩
def splitS (s sep : ByteArray) : List ByteArray := Lib.splitB sep 0 (Lib.countB s sep) s
theorem split_calls (s sep : ByteArray) (hs : s.size < 4294967281) (h1 : 1 ≤ sep.size) (w : World) (hm : HasM w) :
  Calls Tryz.prog 24 #[.string s, .string sep] w fun e w' => ∃ v, e = .returned v ∧ Kd.R Kd.string 9 w' w.heap.size (fun _ => True) v (splitS s sep) ∧ Below w.heap.size w w' := by
 obtain ⟨m, hm⟩ := hm
 refine (Tryz.strings_Split s sep m w hs hm h1).mono ?_
 rintro e w' ⟨rfl, rfl⟩
 have hl : (splitS s sep).length = Lib.countB s sep + 1 := Lib.splitB_all sep h1 0 _ s rfl
 have hle : Lib.countB s sep ≤ s.size := Lib.countB_le sep h1 s.size s (Nat.le_refl _)
 refine ⟨_, rfl, Kd.R_of_own (enc := Value.string) (h1 := fun _ => rfl) ⟨?_, .inr ⟨w.heap.size, Lib.countB s sep + 1, ((splitS s sep).map Value.string).toArray, by rw [hl], Nat.le_refl _, ?_, by rw [hl]; exact Nat.le_refl _, ?_, ?_, ?_⟩⟩ (fun _ _ => trivial), below_alloc (Below.refl _ _) _⟩
 ·simp [encs]
 ·show (w.heap.push _)[w.heap.size]? = _
  rw [Array.getElem?_push_size]; rfl
 ·show Lib.countB s sep + 1 ≤ maxLen
  unfold maxLen; omega
 ·rw [List.size_toArray, List.length_map, hl]; omega
 ·rw [List.take_of_length_le (by rw [List.length_map, Nat.mul_one]; exact Nat.le_refl _)]; rfl
def cutS (s sep : ByteArray) : ByteArray × ByteArray × Bool := (⟨(Lib.cut s.data.toList sep.data.toList).1.toArray⟩, ⟨(Lib.cut s.data.toList sep.data.toList).2.1.toArray⟩, (Lib.cut s.data.toList sep.data.toList).2.2)
theorem cut_calls (s sep : ByteArray) (hs : s.size < 4294967281) (w : World) (hm : HasM w) :
  Calls Tryz.prog 25 #[.string s, .string sep] w fun e w' => e = .returned (.tuple #[.string (cutS s sep).1, .string (cutS s sep).2.1, .bool (cutS s sep).2.2]) ∧ Below w.heap.size w w' := by
 obtain ⟨m, hm⟩ := hm
 refine (Tryz.strings_Cut s sep m w hs hm).mono ?_
 rintro e w' ⟨rfl, n, rfl⟩
 exact ⟨rfl, pw_below_drewN (Below.refl _ _) n⟩
end Go.Proofs.YtgjljbaadglpnaaGreatDoor.Sh
