/- The walk of (*bitsOut).put, RicePut and copied: what each call leaves in memory, and what it answers. Conditions: those in each theorem. -/
import Derived.Test.YtipmgmiooanghaaProg
import Derived.Test.YtipmgmiooanghaaWWords
import Derived.Test.YtipmgmiooanghaaWLast
import Derived.Test.YtipmgmiooanghaaWTab
import Derived.Test.YtipmgmiooanghaaWMore
import Derived.BigRegion
import Derived.StillTailTactics
import Derived.Outline
namespace Go.Proofs.Ytipmgmiooanghaa.Rice
open Go Go.RowKit Go.Proofs.YtipmgmiooanghaaW.PrintWords Go.Proofs.YtipmgmiooanghaaW.PrintLast Go.Proofs.YtipmgmiooanghaaW.PrintMore
set_option linter.unusedVariables false
theorem info5 : (Try.prog.info? 5).map (fun i => (i.zero, i.size, i.bytes)) = some (some (.int .u8 0), 1, 1) := by kernel_rfl
/-- Bits that are written lie in block g: the bytes so far, and how many bits. -/
def Bo (w : World) (base g : Nat) (l : List Int) (m : Int) : Prop := ∃ v, w.heap[g]? = some (.cells #[v, .int .i64 m] 47 (0, 0)) ∧ base ≤ g ∧ Kd.R (Kd.int .u8) 5 w base (fun _ => True) v l
/-- The bytes behind one bit more. -/
def grow (l : List Int) (m : Int) : List Int := if m % 8 = 0 then l ++ [0] else l
/-- What is known of the block. -/
structure Has (w : World) (g : Nat) (v : Value) (m : Int) : Prop where
  blk : w.heap[g]? = some (.cells #[v, .int .i64 m] 47 (0, 0))
theorem Has.c0 {w : World} {g : Nat} {v : Value} {m : Int} (h : Has w g v m) : w.cell? ⟨g, 0, none⟩ = some v := (blk_cell h.blk 0).trans rfl
theorem Has.c1 {w : World} {g : Nat} {v : Value} {m : Int} (h : Has w g v m) : w.cell? ⟨g, 1, none⟩ = some (.int .i64 m) := (blk_cell h.blk 1).trans rfl
theorem Has.fr {w : World} {g : Nat} {v : Value} {m : Int} (h : Has w g v m) (i : Nat) : w.frozen? ⟨g, i, none⟩ = false := by have h := h.blk; simp [World.frozen?, h]
theorem has_grown {w w1 : World} {base g : Nat} {v : Value} {m : Int} {l : List Int} (h : Has w g v m) (HR : Kd.R (Kd.int .u8) 5 w base (fun _ => True) v l) (hg : w.grownBy w1 v.ownBlock) : Has w1 g v m :=
  ⟨blk_grown h.blk hg (Kd.R_ne HR h.blk (by decide))⟩
theorem put_done {w w1 : World} {base g : Nat} {v : Value} {m : Int} {l1 : List Int} {A1 : Option Addr} {n C1 : Nat} (h : Has w1 g v m) (hg : base ≤ g) (HR : Kd.R (Kd.int .u8) 5 w1 base (fun _ => True) (.slice A1 n C1) l1) (HB : Below base w w1) :
    Bo ((w1.setCell ⟨g, 0, none⟩ (.slice A1 n C1)).setCell ⟨g, 1, none⟩ (.int .i64 (m + 1))) base g l1 (m + 1) ∧ Below base w ((w1.setCell ⟨g, 0, none⟩ (.slice A1 n C1)).setCell ⟨g, 1, none⟩ (.int .i64 (m + 1))) := by
  have b1 := blk_set h.blk 0 (.slice A1 n C1)
  have b2 := blk_set b1 1 (.int .i64 (m + 1))
  exact ⟨⟨_, b2, hg, Kd.R_set (Kd.R_set HR h.blk (by decide) 0 _) b1 (by decide) 1 _⟩, (HB.setCell hg _).setCell hg _⟩
set_option maxHeartbeats 1000000 in
theorem put0_ff (w : World) (base g : Nat) (l : List Int) (m : Int) (v : Value) (hH : Has w g v m) (hg : base ≤ g) (hbw : base ≤ w.heap.size) (HR : Kd.R (Kd.int .u8) 5 w base (fun _ => True) v l) (h0 : 0 ≤ m) (hm : m ≤ 1000000000) (he : (m % 8 == 0) = true) (hll : l.length ≤ 1000000000) :
    Calls Try.prog 32 #[.pointer (some ⟨g, 0, none⟩), .bool false] w fun e w' => e = .returned (.tuple #[]) ∧ Bo w' base g (l ++ [0]) (m + 1) ∧ Below base w w' := by
  obtain ⟨A0, C0, rfl, _, _⟩ := Kd.R_reads HR
  have hc0 := hH.c0
  have hc1 := hH.c1
  have hf0 := hH.fr 0
  have hf1 := hH.fr 1
  have HRa := Aside0.mk HR
  have HHa := Aside0.mk hH
  clear HR hH
  go_enter Try.func32, Try.ntmps32
  go_wp2_with (first | ((with_reducible refine gate_builtin (b := .append) (xs := #[.tmp 14, .tmp 15]) rfl ?_); at_builtin; refine Kd.R_append (Kd.int .u8) (w0 := w) base rfl (.tmp 14) (.tmp 15) 27 5 (.int .u8 0) 1 rfl Try.underlying27 info5 rfl (by decide) (by omega) (.slice A0 l.length C0) l 0 [.int .u8 0] (fun _ => True) (fun _ => False) rfl rfl ?aP (fun _ hk => hk.elim) ?aF ?aO ?aB ?aS ?aL ?_; (case aP => exact rfl); (case aF => exact fun _ _ => trivial); (case aO => exact HRa.out); (case aB => exact Below.refl _ _); (case aS => exact hbw); (case aL => omega); intro v1 w1 HR1 HB1 HG1 HW1; obtain ⟨A1, C1, rfl, _, _⟩ := Kd.R_reads HR1; have HR1a := Aside0.mk HR1; have HB1a := Aside0.mk HB1; have hh := has_grown HHa.out HRa.out HG1; have hc0' := hh.c0; have hc1' := hh.c1; have hf0' := hh.fr 0; have hf1' := hh.fr 1; have HHb := Aside0.mk hh; clear HR1 HB1 HG1 HW1 hh hc0 hc1 hf0 hf1))
  go_end0
  have hh := HHb.out
  have hr := HR1a.out
  rw [List.length_append] at hr
  exact ⟨rfl, put_done hh hg hr HB1a.out⟩
/-- A byte with one bit more. -/
def orBit (x m : Int) : Int := Go.bits .or .u8 x (128 / 2 ^ (m % 8).toNat)
/-- Behind the store of a byte. -/
theorem has_byte {w : World} {base g g0 n C0 : Nat} {m : Int} {l : List Int} (hH : Has w g (.slice (some ⟨g0, 0, none⟩) n C0) m) (HR : Kd.R (Kd.int .u8) 5 w base (fun _ => True) (.slice (some ⟨g0, 0, none⟩) n C0) l) (hb : base ≤ g0) (i x : Int) :
    Has (w.setCell ⟨g0, i.toNat, none⟩ (.int .u8 x)).drew g (.slice (some ⟨g0, 0, none⟩) n C0) m ∧ Kd.R (Kd.int .u8) 5 (w.setCell ⟨g0, i.toNat, none⟩ (.int .u8 x)).drew base (fun _ => True) (.slice (some ⟨g0, 0, none⟩) n C0) (l.set i.toNat x) ∧ Below base w (w.setCell ⟨g0, i.toNat, none⟩ (.int .u8 x)).drew := by
  have hp := Kd.R_putg HR i x
  have hne := Kd.R_ne HR hH.blk (by decide)
  have hg : Has (w.setCell ⟨g0, i.toNat, none⟩ (.int .u8 x)) g (.slice (some ⟨g0, 0, none⟩) n C0) m := ⟨blk_grown hH.blk hp.2 (by intro e; apply hne; rw [e]; rfl)⟩
  exact ⟨⟨hg.blk⟩, Kd.R_drew hp.1, below_drew ((Below.refl base w).setCell hb _)⟩
theorem put_done1 {w w1 : World} {base g : Nat} {v : Value} {m : Int} {l1 : List Int} (h : Has w1 g v m) (hg : base ≤ g) (HR : Kd.R (Kd.int .u8) 5 w1 base (fun _ => True) v l1) (HB : Below base w w1) :
    Bo (w1.setCell ⟨g, 1, none⟩ (.int .i64 (m + 1))) base g l1 (m + 1) ∧ Below base w (w1.setCell ⟨g, 1, none⟩ (.int .i64 (m + 1))) :=
  ⟨⟨_, blk_set h.blk 1 (.int .i64 (m + 1)), hg, Kd.R_set HR h.blk (by decide) 1 _⟩, HB.setCell hg _⟩
set_option maxHeartbeats 1000000 in
theorem put1_ff (w : World) (base g : Nat) (l : List Int) (m : Int) (v : Value) (hH : Has w g v m) (hg : base ≤ g) (HR : Kd.R (Kd.int .u8) 5 w base (fun _ => True) v l) (h0 : 0 ≤ m) (hm : m ≤ 1000000000) (he : (m % 8 == 0) = false) :
    Calls Try.prog 32 #[.pointer (some ⟨g, 0, none⟩), .bool false] w fun e w' => e = .returned (.tuple #[]) ∧ Bo w' base g l (m + 1) ∧ Below base w w' := by
  have hc1 := hH.c1
  have hf1 := hH.fr 1
  have HRa := Aside0.mk HR
  have HHa := Aside0.mk hH
  clear HR hH
  go_enter Try.func32, Try.ntmps32
  go_wp2_with fail
  go_end0
  exact ⟨rfl, put_done1 HHa.out hg HRa.out (Below.refl _ _)⟩
set_option maxHeartbeats 1000000 in
theorem put1_ft (w : World) (base g : Nat) (l : List Int) (m : Int) (v : Value) (hH : Has w g v m) (hg : base ≤ g) (HR : Kd.R (Kd.int .u8) 5 w base (fun _ => True) v l) (h0 : 0 ≤ m) (hm : m ≤ 1000000000) (he : (m % 8 == 0) = false) (hlm : m / 8 < l.length) :
    Calls Try.prog 32 #[.pointer (some ⟨g, 0, none⟩), .bool true] w fun e w' => e = .returned (.tuple #[]) ∧ Bo w' base g (l.set (m / 8).toNat (orBit (rdOf 0 l (m / 8)) m)) (m + 1) ∧ Below base w w' := by
  obtain ⟨g0, C0, rfl, hbg0, hlg0, cl0, hcl0⟩ := Kd.R_form HR (by omega)
  obtain ⟨hx, hfx⟩ := Kd.R_celln 0 HR (m / 8) (by omega) hlm
  have hc0 := hH.c0
  have hc1 := hH.c1
  have hf0 := hH.fr 0
  have hf1 := hH.fr 1
  have HRa := Aside0.mk HR
  have HHa := Aside0.mk hH
  have hq0 : 0 ≤ m / 8 := by omega
  have hq : m / 8 < (l.length : Int) := hlm
  have hr0 : 0 ≤ m % 8 := by omega
  have hr1 : m % 8 ≤ 8 := by omega
  clear HR hH hcl0
  go_enter Try.func32, Try.ntmps32
  go_wp2_with fail
  go_region
  generalize hW : World.drew _ = W2
  have hz := has_byte HHa.out HRa.out hbg0 (m / 8) (orBit (rdOf 0 l (m / 8)) m)
  unfold orBit at hz
  rw [hW] at hz
  clear hW hc0 hc1 hf0 hf1 hx hfx
  obtain ⟨hH2, hR2, hB2⟩ := hz
  have hc1 := hH2.c1
  have hf1 := hH2.fr 1
  have HRb := Aside0.mk hR2
  have HHb := Aside0.mk hH2
  have HBb := Aside0.mk hB2
  clear hH2 hR2 hB2
  go_wp2_with fail
  go_end0
  exact ⟨rfl, put_done1 HHb.out hg HRb.out HBb.out⟩
set_option maxHeartbeats 1000000 in
theorem put0_ft (w : World) (base g : Nat) (l : List Int) (m : Int) (v : Value) (hH : Has w g v m) (hg : base ≤ g) (hbw : base ≤ w.heap.size) (HR : Kd.R (Kd.int .u8) 5 w base (fun _ => True) v l) (h0 : 0 ≤ m) (hm : m ≤ 1000000000) (he : (m % 8 == 0) = true) (hll : l.length ≤ 1000000000) (hlm : m / 8 < (l.length : Int) + 1) :
    Calls Try.prog 32 #[.pointer (some ⟨g, 0, none⟩), .bool true] w fun e w' => e = .returned (.tuple #[]) ∧ Bo w' base g ((l ++ [0]).set (m / 8).toNat (orBit (rdOf 0 (l ++ [0]) (m / 8)) m)) (m + 1) ∧ Below base w w' := by
  obtain ⟨A0, C0, rfl, _, _⟩ := Kd.R_reads HR
  have hc0 := hH.c0
  have hc1 := hH.c1
  have hf0 := hH.fr 0
  have hf1 := hH.fr 1
  have HRa := Aside0.mk HR
  have HHa := Aside0.mk hH
  have hq0 : 0 ≤ m / 8 := by omega
  have hq : m / 8 < (l.length : Int) + 1 := hlm
  have hr0 : 0 ≤ m % 8 := by omega
  have hr1 : m % 8 ≤ 8 := by omega
  clear HR hH
  go_enter Try.func32, Try.ntmps32
  go_wp2_with (first | ((with_reducible refine gate_builtin (b := .append) (xs := #[.tmp 14, .tmp 15]) rfl ?_); at_builtin; refine Kd.R_append (Kd.int .u8) (w0 := w) base rfl (.tmp 14) (.tmp 15) 27 5 (.int .u8 0) 1 rfl Try.underlying27 info5 rfl (by decide) (by omega) (.slice A0 l.length C0) l 0 [.int .u8 0] (fun _ => True) (fun _ => False) rfl rfl ?aP (fun _ hk => hk.elim) ?aF ?aO ?aB ?aS ?aL ?_; (case aP => exact rfl); (case aF => exact fun _ _ => trivial); (case aO => exact HRa.out); (case aB => exact Below.refl _ _); (case aS => exact hbw); (case aL => omega); intro v1 w1 HR1 HB1 HG1 HW1; obtain ⟨g1, C1, rfl, hbg1, hlg1, cl1, hcl1⟩ := Kd.R_form HR1 (by simp); rw [List.length_append] at HR1; have HR1a := Aside0.mk HR1; have HB1a := Aside0.mk HB1; have hh := has_grown HHa.out HRa.out HG1; have hc0' := hh.c0; have hc1' := hh.c1; have hf0' := hh.fr 0; have hf1' := hh.fr 1; have HHb := Aside0.mk hh; clear HR1 HB1 HG1 HW1 hh hc0 hc1 hf0 hf1 hcl1))
  have hb0 := HHb.out
  have b1 := blk_set hb0.blk 0 (.slice (some ⟨g1, 0, none⟩) (l.length + 1) C1)
  have hr := Kd.R_set HR1a.out hb0.blk (by decide) 0 (.slice (some ⟨g1, 0, none⟩) (l.length + 1) C1)
  have hB : Below base w (w1.setCell ⟨g, 0, none⟩ (.slice (some ⟨g1, 0, none⟩) (l.length + 1) C1)) := HB1a.out.setCell hg _
  generalize hV : w1.setCell ⟨g, 0, none⟩ _ = V
  rw [hV] at b1 hB
  have hr2 : Kd.R (Kd.int .u8) 5 V base (fun _ => True) (.slice (some ⟨g1, 0, none⟩) (l.length + 1) C1) (l ++ [0]) := by rw [← hV]; exact hr
  have hHV : Has V g (.slice (some ⟨g1, 0, none⟩) (l.length + 1) C1) m := ⟨b1⟩
  clear hr b1 hb0 hc0' hc1' hf0' hf1' hV
  obtain ⟨hx, hfx⟩ := Kd.R_celln 0 hr2 (m / 8) hq0 (by exact_mod_cast hq)
  have hd0 := hHV.c0
  have hd1 := hHV.c1
  have he0 := hHV.fr 0
  have he1 := hHV.fr 1
  have HRc := Aside0.mk hr2
  have HHc := Aside0.mk hHV
  have HBc := Aside0.mk hB
  clear hr2 hHV hB
  go_region
  generalize hW : World.drew _ = W2
  have hz := has_byte HHc.out HRc.out hbg1 (m / 8) (orBit (rdOf 0 (l ++ [0]) (m / 8)) m)
  unfold orBit at hz
  rw [hW] at hz
  clear hW hd0 hd1 he0 he1 hx hfx
  obtain ⟨hH2, hR2, hB2⟩ := hz
  have hd1 := hH2.c1
  have he1 := hH2.fr 1
  have HRd := Aside0.mk hR2
  have HHd := Aside0.mk hH2
  have HBd := Aside0.mk (HBc.out.trans hB2)
  clear hH2 hR2 hB2
  go_wp2_with fail
  go_end0
  exact ⟨rfl, put_done1 HHd.out hg HRd.out HBd.out⟩
/-- The bytes behind one bit more, the first m bits being there. -/
def putL (l : List Int) (m : Int) (one : Bool) : List Int :=
  let l1 := if m % 8 = 0 then l ++ [0] else l
  if one = true then l1.set (m / 8).toNat (orBit (rdOf 0 l1 (m / 8)) m) else l1
/-- (*bitsOut).put, whatever the bit. -/
theorem put_any (w : World) (base g : Nat) (l : List Int) (m : Int) (one : Bool) (hB : Bo w base g l m) (hbw : base ≤ w.heap.size) (h0 : 0 ≤ m) (hm : m ≤ 1000000000) (hl : (l.length : Int) = (m + 7) / 8) :
    Calls Try.prog 32 #[.pointer (some ⟨g, 0, none⟩), .bool one] w fun e w' => e = .returned (.tuple #[]) ∧ Bo w' base g (putL l m one) (m + 1) ∧ Below base w w' := by
  obtain ⟨v, hblk, hg, HR⟩ := hB
  have hH : Has w g v m := ⟨hblk⟩
  unfold putL
  by_cases he : m % 8 = 0
  · have heb : (m % 8 == 0) = true := beq_iff_eq.2 he
    cases one
    · simp only [if_pos he]
      exact put0_ff w base g l m v hH hg hbw HR h0 hm heb (by omega)
    · simp only [if_pos he]
      exact put0_ft w base g l m v hH hg hbw HR h0 hm heb (by omega) (by omega)
  · have heb : (m % 8 == 0) = false := beq_eq_false_iff_ne.2 he
    cases one
    · simp only [if_neg he]
      exact put1_ff w base g l m v hH hg HR h0 hm heb
    · simp only [if_neg he]
      exact put1_ft w base g l m v hH hg HR h0 hm heb (by omega)
end Go.Proofs.Ytipmgmiooanghaa.Rice
