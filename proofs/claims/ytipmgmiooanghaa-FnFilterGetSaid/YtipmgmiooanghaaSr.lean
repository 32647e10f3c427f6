/- The walk of the reference's l2Bits and l2Rice: what each call leaves in memory, and what it answers. Conditions: those in each theorem. -/
import Derived.Test.YtipmgmiooanghaaRp
namespace Go.Proofs.Ytipmgmiooanghaa.Rice
open Go Go.RowKit Go.Proofs.YtipmgmiooanghaaW.PrintWords Go.Proofs.YtipmgmiooanghaaW.PrintLast Go.Proofs.YtipmgmiooanghaaW.PrintMore
set_option linter.unusedVariables false
theorem info3 : (Try.prog.info? 3).map (fun i => (i.zero, i.size, i.bytes)) = some (some (.int .i64 0), 1, 8) := by kernel_rfl
/-- What is known of the reference's block: full bytes, and bits that are left. -/
structure Two (w : World) (g : Nat) (vo vl : Value) : Prop where
  blk : w.heap[g]? = some (.cells #[vo, vl] 66 (0, 0))
theorem Two.c0 {w : World} {g : Nat} {vo vl : Value} (h : Two w g vo vl) : w.cell? ⟨g, 0, none⟩ = some vo := (blk_cell h.blk 0).trans rfl
theorem Two.c1 {w : World} {g : Nat} {vo vl : Value} (h : Two w g vo vl) : w.cell? ⟨g, 1, none⟩ = some vl := (blk_cell h.blk 1).trans rfl
theorem Two.fr {w : World} {g : Nat} {vo vl : Value} (h : Two w g vo vl) (i : Nat) : w.frozen? ⟨g, i, none⟩ = false := by have h := h.blk; simp [World.frozen?, h]
def Bt (w : World) (base g : Nat) (o left : List Int) : Prop := ∃ vo vl, Two w g vo vl ∧ base ≤ g ∧ Kd.R (Kd.int .u8) 5 w base (fun _ => True) vo o ∧ Kd.R (Kd.int .i64) 3 w base (fun _ => True) vl left
theorem bt_new (w : World) : Bt (w.alloc (.cells #[.slice none 0 0, .slice none 0 0] 66)) w.heap.size w.heap.size [] [] :=
  ⟨_, _, ⟨heap_alloc_new w _⟩, Nat.le_refl _, Kd.R_nil _ _ _ _ _, Kd.R_nil _ _ _ _ _⟩
/-- The number of bits, the highest first. -/
def bnum (l : List Int) : Int := l.foldl (fun n b => n * 2 + b) 0
theorem bnum_snoc (l : List Int) (b : Int) : bnum (l ++ [b]) = bnum l * 2 + b := by simp [bnum]
theorem bnum_take (l : List Int) (h : ∀ x ∈ l, 0 ≤ x ∧ x ≤ 1) : ∀ k : Nat, k ≤ l.length → 0 ≤ bnum (l.take k) ∧ bnum (l.take k) < 2 ^ k
  | 0, _ => by simp [bnum]
  | k + 1, hk => by
    have h1 := bnum_take l h k (by omega)
    have h2 := h _ (List.getElem_mem (show k < l.length by omega))
    rw [List.take_succ_eq_append_getElem (by omega), bnum_snoc, Int.pow_succ]
    omega
theorem bnum_take8 (l : List Int) (h : ∀ x ∈ l, 0 ≤ x ∧ x ≤ 1) (hl : l.length = 8) (k : Nat) (hk : k ≤ 8) : 0 ≤ bnum (l.take k) ∧ bnum (l.take k) ≤ 255 := by
  have h1 := bnum_take l h k (by omega)
  have h2 : (2 : Int) ^ k ≤ 2 ^ 8 := by
    have : k = 0 ∨ k = 1 ∨ k = 2 ∨ k = 3 ∨ k = 4 ∨ k = 5 ∨ k = 6 ∨ k = 7 ∨ k = 8 := by omega
    rcases this with rfl | rfl | rfl | rfl | rfl | rfl | rfl | rfl | rfl <;> decide
  have h3 : (2 : Int) ^ 8 = 256 := by decide
  omega
/-- The row's append, and the block behind it. -/
theorem two_left {w w1 : World} {base g : Nat} {vo vl : Value} {o left : List Int} (h : Two w g vo vl) (HO : Kd.R (Kd.int .u8) 5 w base (fun _ => True) vo o) (HL : Kd.R (Kd.int .i64) 3 w base (fun _ => True) vl left) (hg : w.grownBy w1 vl.ownBlock) :
    Two w1 g vo vl ∧ Kd.R (Kd.int .u8) 5 w1 base (fun _ => True) vo o :=
  ⟨⟨blk_grown h.blk hg (Kd.R_ne HL h.blk (by decide))⟩, Kd.R_mono (Kd.R_grown (Kd.R_apartR HO HL (by decide)) hg (fun _ hk => hk.2)) (fun _ _ => trivial)⟩
theorem two_out {w w1 : World} {base g : Nat} {vo vl : Value} {o left : List Int} (h : Two w g vo vl) (HO : Kd.R (Kd.int .u8) 5 w base (fun _ => True) vo o) (HL : Kd.R (Kd.int .i64) 3 w base (fun _ => True) vl left) (hg : w.grownBy w1 vo.ownBlock) :
    Two w1 g vo vl ∧ Kd.R (Kd.int .i64) 3 w1 base (fun _ => True) vl left :=
  ⟨⟨blk_grown h.blk hg (Kd.R_ne HO h.blk (by decide))⟩, Kd.R_mono (Kd.R_grown (Kd.R_apartR HL HO (by decide)) hg (fun _ hk => hk.2)) (fun _ _ => trivial)⟩
/-- A store into the block's second cell, and into its first. -/
theorem two_set1 {w : World} {base g : Nat} {vo vl vl' : Value} {o left : List Int} (h : Two w g vo vl) (HO : Kd.R (Kd.int .u8) 5 w base (fun _ => True) vo o) (HL : Kd.R (Kd.int .i64) 3 w base (fun _ => True) vl' left) :
    Two (w.setCell ⟨g, 1, none⟩ vl') g vo vl' ∧ Kd.R (Kd.int .u8) 5 (w.setCell ⟨g, 1, none⟩ vl') base (fun _ => True) vo o ∧ Kd.R (Kd.int .i64) 3 (w.setCell ⟨g, 1, none⟩ vl') base (fun _ => True) vl' left :=
  ⟨⟨blk_set h.blk 1 vl'⟩, Kd.R_set HO h.blk (by decide) 1 _, Kd.R_set HL h.blk (by decide) 1 _⟩
theorem two_set0 {w : World} {base g : Nat} {vo vo' vl : Value} {o left : List Int} (h : Two w g vo vl) (HO : Kd.R (Kd.int .u8) 5 w base (fun _ => True) vo' o) (HL : Kd.R (Kd.int .i64) 3 w base (fun _ => True) vl left) :
    Two (w.setCell ⟨g, 0, none⟩ vo') g vo' vl ∧ Kd.R (Kd.int .u8) 5 (w.setCell ⟨g, 0, none⟩ vo') base (fun _ => True) vo' o ∧ Kd.R (Kd.int .i64) 3 (w.setCell ⟨g, 0, none⟩ vo') base (fun _ => True) vl left :=
  ⟨⟨blk_set h.blk 0 vo'⟩, Kd.R_set HO h.blk (by decide) 0 _, Kd.R_set HL h.blk (by decide) 0 _⟩
set_option maxHeartbeats 1000000 in
/-- put, where the byte is not full behind it. -/
theorem sput_few (w : World) (base g : Nat) (o left : List Int) (bit : Int) (hB : Bt w base g o left) (hbw : base ≤ w.heap.size) (h8 : left.length + 1 < 8) :
    Calls Try.prog 48 #[.pointer (some ⟨g, 0, none⟩), .int .i64 bit] w fun e w' => e = .returned (.tuple #[]) ∧ Bt w' base g o (left ++ [bit]) ∧ Below base w w' := by
  obtain ⟨vo, vl, hT, hg, HO, HL⟩ := hB
  obtain ⟨A0, C0, rfl, _, _⟩ := Kd.R_reads HL
  have hc1 := hT.c1
  have hf1 := hT.fr 1
  have HOa := Aside0.mk HO
  have HLa := Aside0.mk HL
  have HTa := Aside0.mk hT
  have hlen : (((left.length + 1 : Nat) : Int) == 8) = false := beq_eq_false_iff_ne.2 (by omega)
  have hlen2 : (((left.length : Int) + 1) == 8) = false := beq_eq_false_iff_ne.2 (by omega)
  clear HO HL hT
  go_enter Try.func48, Try.ntmps48
  go_wp2_with (first | ((with_reducible refine gate_builtin (b := .append) (xs := #[.tmp 10, .tmp 12]) rfl ?_); at_builtin; refine Kd.R_append (Kd.int .i64) (w0 := w) base rfl (.tmp 10) (.tmp 12) 22 3 (.int .i64 0) 8 rfl Try.underlying22 info3 rfl (by decide) (by omega) (.slice A0 left.length C0) left bit [.int .i64 bit] (fun _ => True) (fun _ => False) rfl rfl ?aP (fun _ hk => hk.elim) ?aF ?aO ?aB ?aS ?aL ?_; (case aP => exact rfl); (case aF => exact fun _ _ => trivial); (case aO => exact HLa.out); (case aB => exact Below.refl _ _); (case aS => exact hbw); (case aL => omega); intro v1 w1 HR1 HB1 HG1 HW1; obtain ⟨A1, C1, rfl, _, _⟩ := Kd.R_reads HR1; rw [List.length_append] at HR1; have HR1a := Aside0.mk HR1; have HB1a := Aside0.mk HB1; have hh := two_left HTa.out HOa.out HLa.out HG1; have hc1' := hh.1.c1; have hf1' := hh.1.fr 1; have HHb := Aside0.mk hh; clear HR1 HB1 HG1 HW1 hh hc1 hf1))
  go_end0
  obtain ⟨hT2, HO2⟩ := HHb.out
  obtain ⟨hT3, HO3, HL3⟩ := two_set1 (vl' := .slice A1 (left.length + 1) C1) hT2 HO2 HR1a.out
  exact ⟨rfl, ⟨_, _, hT3, hg, HO3, HL3⟩, HB1a.out.setCell hg _⟩
set_option maxHeartbeats 4000000 in
/-- put, where the byte is full. -/
theorem sput_full (w : World) (base g : Nat) (o left : List Int) (bit : Int) (hB : Bt w base g o left) (hbw : base ≤ w.heap.size) (h8 : left.length + 1 = 8) (hbits : ∀ x ∈ left ++ [bit], 0 ≤ x ∧ x ≤ 1) (ho : o.length ≤ 1000000000) :
    Calls Try.prog 48 #[.pointer (some ⟨g, 0, none⟩), .int .i64 bit] w fun e w' => e = .returned (.tuple #[]) ∧ Bt w' base g (o ++ [bnum (left ++ [bit])]) [] ∧ Below base w w' := by
  obtain ⟨vo, vl, hT, hg, HO, HL⟩ := hB
  obtain ⟨A0, C0, rfl, _, _⟩ := Kd.R_reads HL
  obtain ⟨A9, C9, rfl, _, _⟩ := Kd.R_reads HO
  have hL8 : (left ++ [bit]).length = 8 := by simpa using h8
  have hc0 := hT.c0
  have hc1 := hT.c1
  have hf0 := hT.fr 0
  have hf1 := hT.fr 1
  have HOa := Aside0.mk HO
  have HLa := Aside0.mk HL
  have HTa := Aside0.mk hT
  have H8 := Aside0.mk hL8
  have Hlim := Aside0.mk h8
  clear HO HL hT hL8 h8
  go_enter Try.func48, Try.ntmps48
  go_wp2_with (first | ((with_reducible refine gate_builtin (b := .append) (xs := #[.tmp 10, .tmp 12]) rfl ?_); at_builtin; refine Kd.R_append (Kd.int .i64) (w0 := w) base rfl (.tmp 10) (.tmp 12) 22 3 (.int .i64 0) 8 rfl Try.underlying22 info3 rfl (by decide) (by omega) (.slice A0 left.length C0) left bit [.int .i64 bit] (fun _ => True) (fun _ => False) rfl rfl ?aP (fun _ hk => hk.elim) ?aF ?aO ?aB ?aS ?aL ?_; (case aP => exact rfl); (case aF => exact fun _ _ => trivial); (case aO => exact HLa.out); (case aB => exact Below.refl _ _); (case aS => exact hbw); (case aL => have := Hlim.out; omega); intro v1 w1 HR1 HB1 HG1 HW1; obtain ⟨g1, C1, hv1, hbg1, hlg1, cl1, hcl1⟩ := Kd.R_form HR1 (by simp); rw [H8.out] at hv1; subst hv1; have hh := two_left HTa.out HOa.out HLa.out HG1; obtain ⟨hT2, HO2⟩ := hh; have hc0' := hT2.c0; have hf0' := hT2.fr 0; have hc1' := hT2.c1; have hf1' := hT2.fr 1; have hz := two_set1 hT2 HO2 HR1; have HBc : Below base w _ := HB1.setCell (p := ⟨g, 1, none⟩) hg (.slice (some ⟨g1, 0, none⟩) 8 C1); have Hz := Aside0.mk hz; have HBb := Aside0.mk HBc; clear HR1 HB1 HG1 HW1 hT2 HO2 hc0 hc1 hf0 hf1 hcl1 hz HBc))
  obtain ⟨hT3, HO3, HL3⟩ := Hz.out
  have hB3 := HBb.out
  clear Hz HBb hc0' hf0' hc1' hf1'
  generalize w1.setCell ⟨g, 1, none⟩ _ = V at *
  obtain ⟨L, hL⟩ : ∃ L, left ++ [bit] = L := ⟨_, rfl⟩
  rw [hL] at HL3
  have HLL := Aside0.mk hL
  have hlen8 : L.length = 8 := by rw [← hL]; exact H8.out
  have hbits' : ∀ x ∈ L, 0 ≤ x ∧ x ≤ 1 := by rw [← hL]; exact hbits
  have HLc := Aside0.mk HL3
  have HOc := Aside0.mk HO3
  have HTc := Aside0.mk hT3
  have HBc := Aside0.mk hB3
  have Hl8 := Aside0.mk hlen8
  have Hbit := Aside0.mk hbits'
  have hd1 := hT3.c1
  have hd0 := hT3.c0
  have he0 := hT3.fr 0
  have he1 := hT3.fr 1
  clear hL hlen8 hbits' hbits HL3 HO3 hT3 hB3 H8 Hlim
  go_loop [4, 5] (fun n i => ∃ k : Nat, k ≤ 8 ∧ i = .int .i64 k ∧ n = .int .i64 (bnum (L.take k))) (fun _ i => 8 - (intOf i).toNat)
  case atStart => exact ⟨0, Nat.zero_le _, rfl, rfl⟩
  case round =>
    obtain ⟨k, hk, rfl, rfl⟩ := hrel
    obtain ⟨hn0, hn1⟩ := bnum_take8 L Hbit.out Hl8.out k hk
    by_cases hlt : k < 8
    · obtain ⟨hx, hfx⟩ := Kd.R_celln 0 HLc.out (k : Int) (by omega) (by omega)
      have hkl : k < L.length := by rw [Hl8.out]; exact hlt
      have hb := Hbit.out _ (List.getElem_mem hkl)
      have hstep : bnum (L.take (k + 1)) = bnum (L.take k) * 2 + L[k] := by rw [List.take_succ_eq_append_getElem hkl, bnum_snoc]
      rw [Int.toNat_natCast, show rdOf 0 L (k : Int) = L[k] by unfold rdOf; rw [Int.toNat_natCast, List.getD_eq_getElem?_getD, List.getElem?_eq_getElem hkl, Option.getD_some]] at hx
      have HS := Aside0.mk hstep
      clear hstep hfx
      obtain ⟨hb0, hb1⟩ := hb
      have hki : (k : Int) < 8 := by omega
      have hkd : decide ((k : Int) < 8) = true := decide_eq_true hki
      have hkn : decide (k < 8) = true := decide_eq_true hlt
      generalize L[k] = bk at *
      generalize bnum (L.take k) = q at *
      go_wp2
      go_round
      case rel => exact ⟨k + 1, by omega, by go_num, by rw [HS.out]⟩
      case measure => simp [intOf]; omega
    · obtain rfl : k = 8 := by omega
      have hfull : bnum (L.take 8) = bnum L := by rw [List.take_of_length_le (by rw [Hl8.out]; omega)]
      rw [hfull] at hn0 hn1 ⊢
      clear hfull
      have Hq := Aside0.mk (rfl : bnum L = bnum L)
      obtain ⟨q, hq⟩ : ∃ q, bnum L = q := ⟨_, rfl⟩
      rw [hq] at hn0 hn1 ⊢
      have HQ := Aside0.mk hq
      clear hq Hq
      have hkd : decide (((8 : Nat) : Int) < 8) = false := by decide
      have hbv : base ≤ V.heap.size := Nat.le_trans hbw HBc.out.size
      go_wp2_with (first | ((with_reducible refine gate_builtin (b := .append) (xs := #[.tmp 40, .tmp 43]) rfl ?_); at_builtin; refine Kd.R_append (Kd.int .u8) (w0 := w) base rfl (.tmp 40) (.tmp 43) 27 5 (.int .u8 0) 1 rfl Try.underlying27 info5 rfl (by decide) (by omega) (.slice A9 o.length C9) o q [.int .u8 q] (fun _ => True) (fun _ => False) rfl rfl ?aP (fun _ hk => hk.elim) ?aF ?aO ?aB ?aS ?aL ?_; (case aP => exact rfl); (case aF => exact fun _ _ => trivial); (case aO => exact HOc.out); (case aB => exact HBc.out); (case aS => exact hbv); (case aL => omega); intro v2 w2 HR2 HB2 HG2 HW2; obtain ⟨A2, C2, rfl, _, _⟩ := Kd.R_reads HR2; rw [List.length_append] at HR2; obtain ⟨hT4, HL4⟩ := two_out HTc.out HOc.out HLc.out HG2; have hc0'' := hT4.c0; have hf0'' := hT4.fr 0; have hc1'' := hT4.c1; have hf1'' := hT4.fr 1; have HRd := Aside0.mk HR2; have HTd := Aside0.mk hT4; have HLd := Aside0.mk HL4; have HBd := Aside0.mk HB2; clear HR2 HB2 HG2 HW2 hT4 HL4 hd0 hd1 he0 he1))
      go_end0
      obtain ⟨hT5, HO5, HL5⟩ := two_set0 (vo' := .slice A2 (o.length + 1) C2) HTd.out HRd.out HLd.out
      obtain ⟨hT6, HO6, HL6⟩ := two_set1 (vl' := .slice none 0 0) (left := []) hT5 HO5 (Kd.R_nil _ _ _ _ _)
      rw [HLL.out, HQ.out]
      exact ⟨rfl, ⟨_, _, hT6, hg, HO6, HL6⟩, (HBd.out.setCell hg _).setCell hg _⟩
/-- The bytes and the bits that are left, behind one bit more. -/
def sp (s : List Int × List Int) (bit : Int) : List Int × List Int := if s.2.length + 1 = 8 then (s.1 ++ [bnum (s.2 ++ [bit])], []) else (s.1, s.2 ++ [bit])
/-- What holds of them. -/
def good (s : List Int × List Int) : Prop := s.2.length < 8 ∧ (∀ x ∈ s.2, 0 ≤ x ∧ x ≤ 1) ∧ s.1.length ≤ 1000000000
theorem sput_any (w : World) (base g : Nat) (s : List Int × List Int) (bit : Int) (hB : Bt w base g s.1 s.2) (hbw : base ≤ w.heap.size) (hs : good s) (hb : 0 ≤ bit ∧ bit ≤ 1) :
    Calls Try.prog 48 #[.pointer (some ⟨g, 0, none⟩), .int .i64 bit] w fun e w' => e = .returned (.tuple #[]) ∧ Bt w' base g (sp s bit).1 (sp s bit).2 ∧ Below base w w' := by
  unfold sp
  by_cases h : s.2.length + 1 = 8
  · rw [if_pos h]
    exact sput_full w base g s.1 s.2 bit hB hbw h (fun x hx => by rcases List.mem_append.1 hx with hx | hx; exact hs.2.1 x hx; rw [List.mem_singleton.1 hx]; exact hb) hs.2.2
  · rw [if_neg h]
    have := hs.1
    exact sput_few w base g s.1 s.2 bit hB hbw (by omega)
end Go.Proofs.Ytipmgmiooanghaa.Rice
