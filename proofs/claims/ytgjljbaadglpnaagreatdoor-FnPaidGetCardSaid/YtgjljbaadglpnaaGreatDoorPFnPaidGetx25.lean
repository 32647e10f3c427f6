/- Functions of the program and what each answers: the kit's print, shortened (wip/press2.py). -/
import Derived.Test.YtgjljbaadglpnaaGreatDoorPFnPaidGetx0
import Derived.Test.YtgjljbaadglpnaaGreatDoorPFnPaidGetx14
import Derived.Test.YtgjljbaadglpnaaGreatDoorPFnPaidGetx16
import Derived.Test.YtgjljbaadglpnaaGreatDoorPFnPaidGetx18
import Derived.Test.YtgjljbaadglpnaaGreatDoorPFnPaidGetx21
import Derived.Test.YtgjljbaadglpnaaGreatDoorPFnPaidGetx23
namespace Go.Proofs.YtgjljbaadglpnaaGreatDoor.PFnPaidGet
open Go.Proofs.YtgjljbaadglpnaaGreatDoor.Sq Go.RowKit Go.Proofs.YtgjljbaadglpnaaGreatDoorW.PrintWords Go.Proofs.YtgjljbaadglpnaaGreatDoorW.PrintLast Go.Proofs.YtgjljbaadglpnaaGreatDoorW.PrintMore
open Kd
set_option linter.unusedVariables false
set_option linter.unusedSimpArgs false
set_option maxHeartbeats 64000000
set_option maxRecDepth 100000
mutual
def spec_l4Mine.j0 : Nat → List S82 → Int → List ByteArray → List S24 → ByteArray → ByteArray → Int → Int → Int → Option ((List S82) × Bool)
 | 0, _, _, _, _, _, _, _, _, _ => none
 | k + 1, x0, x1, x2, x8, x473000, x473001, x473002, x473003, x473004 => if (x0.length : Int) ≥ 20 then (spec_l4Mine.j1 k x0 x2 true x473000 x473001 x473002 x473003 x473004) else ((spec_l1In.f x1 0 99999).bind fun t475 => (if t475 = true then (if (x0.length : Int) > 0 then (if 0 ≤ (wrap64 ((x8.length : Int) - 1)) then (if (wrap64 ((x8.length : Int) - 1)) < (x8.length : Int) then (spec_l4Mine.j1 k x0 x2 (decide (x1 ≤ ((rd_T24 x8 (wrap64 ((x8.length : Int) - 1))).f2))) x473000 x473001 x473002 x473003 x473004) else (none)) else (none)) else (spec_l4Mine.j1 k x0 x2 false x473000 x473001 x473002 x473003 x473004)) else (spec_l4Mine.j1 k x0 x2 true x473000 x473001 x473002 x473003 x473004)))
def spec_l4Mine.j1 : Nat → List S82 → List ByteArray → Bool → ByteArray → ByteArray → Int → Int → Int → Option ((List S82) × Bool)
 | 0, _, _, _, _, _, _, _, _ => none
 | k + 1, x0, x2, x55, x473000, x473001, x473002, x473003, x473004 => if x55 = true then (some (x0, false)) else ((spec_l3Mine.f k x473000 x473001 x473002 x473003 x473004).bind fun bt477 => (if bt477.2.2.2.2.2 = true then ((spec_l4Copy.f k x0).bind fun t484 => ((some (([] : List ByteArray) : List ByteArray)).bind fun y487 => (if y487.length + x2.length < 8796093022208 then (if t484.length < 1759218604441 then (some ((t484 ++ [(⟨(⟨bt477.1, bt477.2.1, bt477.2.2.1, bt477.2.2.2.1, bt477.2.2.2.2.1⟩ : S24), (y487 ++ x2)⟩ : S82)]), true)) else (none)) else (none)))) else (some (x0, false))))
end
def spec_l4Mine.f (k : Nat) (l0 : List S82) (a1 : Int) (l2 : List ByteArray) : Option ((List S82) × Bool) := (spec_l4Heads.f k l0).bind fun t466 => ((spec_l4Zero.f).bind fun t469 => ((spec_l3Root.f k l2).bind fun t470 => ((spec_l4Diff.f k t466).bind fun t471 => (if (l0.length : Int) > 0 then (if 0 ≤ (wrap64 ((t466.length : Int) - 1)) then (if (wrap64 ((t466.length : Int) - 1)) < (t466.length : Int) then ((spec_l3Sum.f k ((rd_T24 t466 (wrap64 ((t466.length : Int) - 1))).f0) ((rd_T24 t466 (wrap64 ((t466.length : Int) - 1))).f1) ((rd_T24 t466 (wrap64 ((t466.length : Int) - 1))).f2) ((rd_T24 t466 (wrap64 ((t466.length : Int) - 1))).f3) ((rd_T24 t466 (wrap64 ((t466.length : Int) - 1))).f4)).bind fun t474 => (spec_l4Mine.j0 k l0 a1 l2 t466 t474 t470 a1 t471 0)) else (none)) else (none)) else (spec_l4Mine.j0 k l0 a1 l2 t466 t469 t470 a1 t471 0)))))
def spec_l4Mine.T10 : Bool × List (List Nat × List Nat) := (true, [([], []), ([0], [0]), ([], []), ([], []), ([], []), ([3, 4, 1], [3, 4]), ([2, 5], [2, 5]), ([6], [6]), ([1, 7, 5], [1, 7]), ([8, 8, 0, 1, 2, 3, 4, 5, 6, 7, 8], [8]), ([9, 0, 1, 2, 3, 4, 5, 6, 7, 8, 9], [])])
def spec_l4Mine.B10 : List Nat := [0, 1, 0, 0, 0, 27, 63, 127, 255, 511, 1023]
theorem spec_l4Mine.tab10 : rtab .any (opsOf Tryz.f69 10) = spec_l4Mine.T10 := by kernel_rfl
theorem spec_l4Mine.bits10 : waitsOk spec_l4Mine.T10.2 spec_l4Mine.B10 = true := by kernel_rfl
theorem spec_l4Mine.calls (k : Nat) (P0_ : Nat → Prop) (A0 : Option Addr) (c0 : Nat) (l0 : List S82) (a1 : Int) (A2 : Option Addr) (c2 : Nat) (l2 : List ByteArray) (r1 : List S82) (r2 : Bool) (w : World) (hs0 : Kd.V k82 82 w w.heap.size (fun k_ => P0_ k_) (.slice A0 l0.length c0) l0) (hr2 : Kd.C Kd.string w A2 l2.length l2) (hc2 : l2.length ≤ c2) (h : spec_l4Mine.f k l0 a1 l2 = some (r1, r2)) :
  Calls Tryz.prog 69 #[.slice A0 l0.length c0, .int .i64 a1, .slice A2 l2.length c2] w fun e w' => ∃ v0_ : Value, e = .returned (.tuple #[v0_, .bool r2]) ∧ Kd.V k82 82 w' w.heap.size (fun k_ => (P0_ k_ ∨ w.heap.size ≤ k_)) v0_ r1 ∧ Below w.heap.size w w' := by
 have hu24 := Tryz.underlying24
 have hu82 := Tryz.underlying82
 have HO0 := am (show Kd.V k82 82 w w.heap.size (fun k_ => (P0_ k_ ∨ w.heap.size ≤ k_)) (.slice A0 l0.length c0) l0 from V_mono hs0 (fun k_ hk => .inl hk))
 have HR2 := am hr2
 have HC2 := am hc2
 clear hr2 hc2
 have HB := am (Below.refl w.heap.size w)
 have H : ((spec_l4Heads.f k l0).bind fun t466 => ((spec_l4Zero.f).bind fun t469 => ((spec_l3Root.f k l2).bind fun t470 => ((spec_l4Diff.f k t466).bind fun t471 => (if (l0.length : Int) > 0 then (if 0 ≤ (wrap64 ((t466.length : Int) - 1)) then (if (wrap64 ((t466.length : Int) - 1)) < (t466.length : Int) then ((spec_l3Sum.f k ((rd_T24 t466 (wrap64 ((t466.length : Int) - 1))).f0) ((rd_T24 t466 (wrap64 ((t466.length : Int) - 1))).f1) ((rd_T24 t466 (wrap64 ((t466.length : Int) - 1))).f2) ((rd_T24 t466 (wrap64 ((t466.length : Int) - 1))).f3) ((rd_T24 t466 (wrap64 ((t466.length : Int) - 1))).f4)).bind fun t474 => (spec_l4Mine.j0 k l0 a1 l2 t466 t474 t470 a1 t471 0)) else (none)) else (none)) else (spec_l4Mine.j0 k l0 a1 l2 t466 t469 t470 a1 t471 0)))))) = some (r1, r2) := h
 clear h
 replace ⟨t466, A4, H⟩ := oa H
 replace ⟨t469, A5, H⟩ := oa H
 replace ⟨t470, A6, H⟩ := oa H
 replace ⟨t471, A7, H⟩ := oa H
 have HC8 := am H
 clear H
 go_enter Tryz.func69, Tryz.ntmps69
 go_upto_if 23 with (first | ((with_reducible refine gg ?_); first | (refine gL 13 Tryz.func44 #[.slice A0 l0.length c0] ?_; (with_reducible refine (spec_l4Heads.calls k _ _ l0 t466 _ ?side1 ?side2 A4.out).mono ?_); (case side1 => exact cr (V_reads' HO0.out).2.2); (case side2 => exact (V_reads' HO0.out).2.1); rintro e w9 ⟨v467, rfl, ho0, hb⟩; refine ⟨_, rfl, ?_⟩; replace HO0 := am (V_elder' (va HO0) (R_base ho0) hb); have HO468 := am (R_lower (R_newM (M := fun k_ => (w.heap.size ≤ k_)) ho0 (below_size (bl HB)) (fun k_ h_ => h_)) (below_size (bl HB))); replace HB := kH HB hb; (try clear hb); (try clear ho0)) | (refine gL 14 Tryz.func84 #[] ?_; (with_reducible refine (spec_l4Zero.calls  t469 _ A5.out).mono ?_); rintro e w' ⟨rfl, ⟨nd, rfl⟩⟩; refine ⟨_, rfl, ?_⟩; (try (rw [drewN_self w9]; generalize hq_ : World.drewN w9 _ = w9; have n0_ := dV hq_ HO0; have n1_ := dM hq_ HO468 (fun _ hk => hk.1); have n2_ := dB hq_ HB; clear HO0 HO468 HB hq_; have HO0 := n0_; have HO468 := n1_; have HB := n2_; clear n0_ n1_ n2_))) | (refine gL 16 Tryz.func85 #[.slice A2 l2.length c2] ?_; (with_reducible refine (spec_l3Root.calls k _ _ l2 t470 _ ?side1 ?side2 A6.out).mono ?_); (case side1 => exact cb HR2 HB); (case side2 => exact HC2.out); rintro e w10 ⟨rfl, hb⟩; refine ⟨_, rfl, ?_⟩; replace HO0 := am (V_below (va HO0) hb); replace HO468 := rk HO468 hb; replace HB := kH HB hb; (try clear hb); obtain ⟨Ao11, co11, rfl⟩ := R_slice HO468.out) | (refine gL 19 Tryz.func86 #[.slice Ao11 t466.length co11] ?_; (with_reducible refine (spec_l4Diff.calls k _ _ t466 t471 _ ?side1 ?side2 A7.out).mono ?_); (case side1 => exact cr (R_reads' HO468.out).2.2); (case side2 => exact sl HO468); rintro e w' ⟨rfl, ⟨nd, rfl⟩⟩; refine ⟨_, rfl, ?_⟩; (try (rw [drewN_self w10]; generalize hq_ : World.drewN w10 _ = w10; have n0_ := dV hq_ HO0; have n1_ := dM hq_ HO468 (fun _ hk => hk.1); have n2_ := dB hq_ HB; clear HO0 HO468 HB hq_; have HO0 := n0_; have HO468 := n1_; have HB := n2_; clear n0_ n1_ n2_)))) | ((with_reducible refine gate_dst (N := 9) rfl ?_); (try (refine gate_guard (by rfl) ?_; dsimp only)); refine box_event ?hg (N := 9) ?hd (cs := #[.string (⟨#[]⟩ : ByteArray), .string (⟨#[]⟩ : ByteArray), .int .i64 0, .int .i64 0, .int .i64 0]) (t := 24) ?hr ?_; (case hd => rfl); (case hg => rfl); (case hr => first | (go_simp; done) | (go_simp; rfl)); intro gb472 hg w12 hbox hb; replace HO0 := am (V_below (V_elderB (va HO0) gb472 (Nat.le_of_eq hg.symm)) hb); replace HO468 := am (R_below (R_elderB (ra HO468) gb472 (Nat.le_of_eq hg.symm)) hb); have BK472 := am (hbox); have GW472 := zB hg HB; have GE472 := zB hg HB; replace HB := kH HB hb; clear hb hbox hg; have hz13 := bc5 BK472))
 (try simp only [Act.put, sa, s0, s1])
 go_cut [] (fun wc => ∃ (kq : Nat) (x473000_7 : ByteArray), Aside0 (spec_l4Mine.j0 kq l0 a1 l2 t466 x473000_7 t470 a1 t471 0 = some (r1, r2)) ∧ Aside0 (kq ≤ k) ∧ Aside0 (Kd.V k82 82 wc w.heap.size (fun k_ => (P0_ k_ ∨ w.heap.size ≤ k_) ∧ some k_ ≠ ((.slice Ao11 t466.length co11) : Value).ownBlock ∧ k_ ≠ gb472) (.slice A0 l0.length c0) l0) ∧ Aside0 (Kd.R k24 24 wc w.heap.size (fun k_ => (w.heap.size ≤ k_) ∧ k_ ≠ gb472) (.slice Ao11 t466.length co11) t466) ∧ Aside0 (wc.heap[gb472]? = some (.cells #[.string x473000_7, .string t470, .int .i64 a1, .int .i64 t471, .int .i64 0] 24 (0, 0))) ∧ Aside0 (Below w.heap.size w wc))
 case first =>
  have H := HC8.out
  clear HC8
  by_cases c14 : (l0.length : Int) > 0
  rotate_left
  ·rw [if_neg c14] at H
   have c14b0 := df c14
   have c14b1 : decide (0 < l0.length) = false := decide_eq_false (by omega)
   clear c14
   (first | rw [c14b0] | rw [c14b1] | (simp only [i64_w, i32_w]; rw [c14b0]) | skip)
   have H' := am H
   clear H
   go_wp2
   go_meet
   case rel => exact ⟨_, (t469), H', ⟨xO⟩, ⟨by (with_reducible repeat (first | apply V_alloc | apply V_drewN | apply V_drew)); exact V_mono (V_far (p := ⟨gb472, 4, none⟩) (V_far (p := ⟨gb472, 3, none⟩) (V_far (p := ⟨gb472, 2, none⟩) (V_far (p := ⟨gb472, 1, none⟩) (V_far (p := ⟨gb472, 0, none⟩) (V_mono HO0.out (fun k_ hk => (⟨hk, hk.2⟩ : _ ∧ k_ ≠ gb472))) h2 (.string t469)) h2 (.string t470)) h2 (.int .i64 a1)) h2 (.int .i64 t471)) h2 (.int .i64 0)) (fun _ hk => ⟨hk.1.1.1, ⟨hk.1.1.2, hk.1.2⟩⟩)⟩, ⟨by (with_reducible repeat (first | apply R_alloc | apply R_drewN | apply R_drew)); exact R_mono (R_far (p := ⟨gb472, 4, none⟩) (R_far (p := ⟨gb472, 3, none⟩) (R_far (p := ⟨gb472, 2, none⟩) (R_far (p := ⟨gb472, 1, none⟩) (R_far (p := ⟨gb472, 0, none⟩) (R_mono HO468.out (fun k_ hk => (⟨hk, hk.2⟩ : _ ∧ k_ ≠ gb472))) h2 (.string t469)) h2 (.string t470)) h2 (.int .i64 a1)) h2 (.int .i64 t471)) h2 (.int .i64 0)) (fun _ hk => ⟨hk.1.1, hk.1.2⟩)⟩, ⟨fb BK472⟩, ⟨xB HB⟩⟩
  rw [if_pos c14] at H
  have c14b0 := dt c14
  have c14b1 : decide (0 < l0.length) = true := dt (by omega)
  clear c14
  (first | rw [c14b0] | rw [c14b1] | (simp only [i64_w, i32_w]; rw [c14b0]) | skip)
  obtain ⟨ji15, hji15⟩ := je (wrap64 ((t466.length : Int) - 1))
  first | rw [hji15] at H | simp only [hji15] at H
  have hji15w : (IntKind.i64.wrap ((t466.length : Int) - 1)) = ji15 := (i64_w _).trans hji15
  replace ⟨c16b0, H⟩ := ipd H
  replace ⟨c17b0, H⟩ := ipd H
  replace ⟨t474, A18, H⟩ := oa H
  have H' := am H
  clear H
  have p473 : 0 ≤ ((ji15) : Int) := oX
  have q473 : (ji15) < (t466.length : Int) := oX
  obtain ⟨ad473, e473, hx473_0, hx473_1, hx473_2, hx473_3, hx473_4⟩ := at_T24 (R_reads' HO468.out).2.2 (ji15) p473 q473
  cases e473
  have hn473_0 : ad473.block ≠ gb472 := own_blk (R_away HO468.out h2)
  have hn473_1 : ad473.block ≠ gb472 := own_blk (R_away HO468.out h2)
  have hn473_2 : ad473.block ≠ gb472 := own_blk (R_away HO468.out h2)
  have hn473_3 : ad473.block ≠ gb472 := own_blk (R_away HO468.out h2)
  have hn473_4 : ad473.block ≠ gb472 := own_blk (R_away HO468.out h2)
  replace hx473_0 := (cell_far (p := ⟨gb472, 0, none⟩) (by first | (rw [add_block]; exact hn473_0) | (show (Addr.add _ _).block ≠ _; rw [add_block]; exact hn473_0) | exact hn473_0) (.string t469)).trans hx473_0
  replace hx473_1 := (cell_far (p := ⟨gb472, 0, none⟩) (by first | (rw [add_block]; exact hn473_0) | (show (Addr.add _ _).block ≠ _; rw [add_block]; exact hn473_0) | exact hn473_0) (.string t469)).trans hx473_1
  replace hx473_2 := (cell_far (p := ⟨gb472, 0, none⟩) (by first | (rw [add_block]; exact hn473_0) | (show (Addr.add _ _).block ≠ _; rw [add_block]; exact hn473_0) | exact hn473_0) (.string t469)).trans hx473_2
  replace hx473_3 := (cell_far (p := ⟨gb472, 0, none⟩) (by first | (rw [add_block]; exact hn473_0) | (show (Addr.add _ _).block ≠ _; rw [add_block]; exact hn473_0) | exact hn473_0) (.string t469)).trans hx473_3
  replace hx473_4 := (cell_far (p := ⟨gb472, 0, none⟩) (by first | (rw [add_block]; exact hn473_0) | (show (Addr.add _ _).block ≠ _; rw [add_block]; exact hn473_0) | exact hn473_0) (.string t469)).trans hx473_4
  replace hx473_0 := (cell_far (p := ⟨gb472, 1, none⟩) (by first | (rw [add_block]; exact hn473_1) | (show (Addr.add _ _).block ≠ _; rw [add_block]; exact hn473_1) | exact hn473_1) (.string t470)).trans hx473_0
  replace hx473_1 := (cell_far (p := ⟨gb472, 1, none⟩) (by first | (rw [add_block]; exact hn473_1) | (show (Addr.add _ _).block ≠ _; rw [add_block]; exact hn473_1) | exact hn473_1) (.string t470)).trans hx473_1
  replace hx473_2 := (cell_far (p := ⟨gb472, 1, none⟩) (by first | (rw [add_block]; exact hn473_1) | (show (Addr.add _ _).block ≠ _; rw [add_block]; exact hn473_1) | exact hn473_1) (.string t470)).trans hx473_2
  replace hx473_3 := (cell_far (p := ⟨gb472, 1, none⟩) (by first | (rw [add_block]; exact hn473_1) | (show (Addr.add _ _).block ≠ _; rw [add_block]; exact hn473_1) | exact hn473_1) (.string t470)).trans hx473_3
  replace hx473_4 := (cell_far (p := ⟨gb472, 1, none⟩) (by first | (rw [add_block]; exact hn473_1) | (show (Addr.add _ _).block ≠ _; rw [add_block]; exact hn473_1) | exact hn473_1) (.string t470)).trans hx473_4
  replace hx473_0 := (cell_far (p := ⟨gb472, 2, none⟩) (by first | (rw [add_block]; exact hn473_2) | (show (Addr.add _ _).block ≠ _; rw [add_block]; exact hn473_2) | exact hn473_2) (.int .i64 a1)).trans hx473_0
  replace hx473_1 := (cell_far (p := ⟨gb472, 2, none⟩) (by first | (rw [add_block]; exact hn473_2) | (show (Addr.add _ _).block ≠ _; rw [add_block]; exact hn473_2) | exact hn473_2) (.int .i64 a1)).trans hx473_1
  replace hx473_2 := (cell_far (p := ⟨gb472, 2, none⟩) (by first | (rw [add_block]; exact hn473_2) | (show (Addr.add _ _).block ≠ _; rw [add_block]; exact hn473_2) | exact hn473_2) (.int .i64 a1)).trans hx473_2
  replace hx473_3 := (cell_far (p := ⟨gb472, 2, none⟩) (by first | (rw [add_block]; exact hn473_2) | (show (Addr.add _ _).block ≠ _; rw [add_block]; exact hn473_2) | exact hn473_2) (.int .i64 a1)).trans hx473_3
  replace hx473_4 := (cell_far (p := ⟨gb472, 2, none⟩) (by first | (rw [add_block]; exact hn473_2) | (show (Addr.add _ _).block ≠ _; rw [add_block]; exact hn473_2) | exact hn473_2) (.int .i64 a1)).trans hx473_4
  replace hx473_0 := (cell_far (p := ⟨gb472, 3, none⟩) (by first | (rw [add_block]; exact hn473_3) | (show (Addr.add _ _).block ≠ _; rw [add_block]; exact hn473_3) | exact hn473_3) (.int .i64 t471)).trans hx473_0
  replace hx473_1 := (cell_far (p := ⟨gb472, 3, none⟩) (by first | (rw [add_block]; exact hn473_3) | (show (Addr.add _ _).block ≠ _; rw [add_block]; exact hn473_3) | exact hn473_3) (.int .i64 t471)).trans hx473_1
  replace hx473_2 := (cell_far (p := ⟨gb472, 3, none⟩) (by first | (rw [add_block]; exact hn473_3) | (show (Addr.add _ _).block ≠ _; rw [add_block]; exact hn473_3) | exact hn473_3) (.int .i64 t471)).trans hx473_2
  replace hx473_3 := (cell_far (p := ⟨gb472, 3, none⟩) (by first | (rw [add_block]; exact hn473_3) | (show (Addr.add _ _).block ≠ _; rw [add_block]; exact hn473_3) | exact hn473_3) (.int .i64 t471)).trans hx473_3
  replace hx473_4 := (cell_far (p := ⟨gb472, 3, none⟩) (by first | (rw [add_block]; exact hn473_3) | (show (Addr.add _ _).block ≠ _; rw [add_block]; exact hn473_3) | exact hn473_3) (.int .i64 t471)).trans hx473_4
  replace hx473_0 := (cell_far (p := ⟨gb472, 4, none⟩) (by first | (rw [add_block]; exact hn473_4) | (show (Addr.add _ _).block ≠ _; rw [add_block]; exact hn473_4) | exact hn473_4) (.int .i64 0)).trans hx473_0
  replace hx473_1 := (cell_far (p := ⟨gb472, 4, none⟩) (by first | (rw [add_block]; exact hn473_4) | (show (Addr.add _ _).block ≠ _; rw [add_block]; exact hn473_4) | exact hn473_4) (.int .i64 0)).trans hx473_1
  replace hx473_2 := (cell_far (p := ⟨gb472, 4, none⟩) (by first | (rw [add_block]; exact hn473_4) | (show (Addr.add _ _).block ≠ _; rw [add_block]; exact hn473_4) | exact hn473_4) (.int .i64 0)).trans hx473_2
  replace hx473_3 := (cell_far (p := ⟨gb472, 4, none⟩) (by first | (rw [add_block]; exact hn473_4) | (show (Addr.add _ _).block ≠ _; rw [add_block]; exact hn473_4) | exact hn473_4) (.int .i64 0)).trans hx473_3
  replace hx473_4 := (cell_far (p := ⟨gb472, 4, none⟩) (by first | (rw [add_block]; exact hn473_4) | (show (Addr.add _ _).block ≠ _; rw [add_block]; exact hn473_4) | exact hn473_4) (.int .i64 0)).trans hx473_4
  clear hn473_0
  clear hn473_1
  clear hn473_2
  clear hn473_3
  clear hn473_4
  replace ⟨p473, q473⟩ := eT p473 q473
  generalize hW_ : World.setCell _ ⟨gb472, 4, none⟩ _ = wq_ at hx473_0 hx473_1 hx473_2 hx473_3 hx473_4 ⊢
  replace hW_ := hW_.symm
  have BQ_ := am hW_
  have hzq_ := am hW_
  replace hW_ := am hW_
  go_wp2_with ((with_reducible refine gate_callee (f := 87) rfl ?_); refine goesL_ (some 30) rfl rfl Tryz.func87 (by kernel_rfl) rfl #[.agg #[.string ((rd_T24 t466 (ji15)).f0), .string ((rd_T24 t466 (ji15)).f1), .int .i64 ((rd_T24 t466 (ji15)).f2), .int .i64 ((rd_T24 t466 (ji15)).f3), .int .i64 ((rd_T24 t466 (ji15)).f4)]] rfl (by (try simp only [List.map_toArray, List.map_cons, List.map_nil]); first | done | (simp only [hji15]; rfl) | rfl | (simp only [List.length_drop, List.length_take]; rfl)) ?_; (try (clear hzq_ BQ_; obtain ⟨hW_⟩ := hW_; subst hW_)); (with_reducible refine (spec_l3Sum.calls k ((rd_T24 t466 (ji15)).f0) ((rd_T24 t466 (ji15)).f1) ((rd_T24 t466 (ji15)).f2) ((rd_T24 t466 (ji15)).f3) ((rd_T24 t466 (ji15)).f4) t474 _ A18.out).mono ?_); rintro e w19 ⟨rfl, hb⟩; refine ⟨_, rfl, ?_⟩; replace HO0 := am (V_below (by (with_reducible repeat (first | apply V_alloc | apply V_drewN | apply V_drew)); exact (V_mono (V_far (p := ⟨gb472, 4, none⟩) (V_far (p := ⟨gb472, 3, none⟩) (V_far (p := ⟨gb472, 2, none⟩) (V_far (p := ⟨gb472, 1, none⟩) (V_far (p := ⟨gb472, 0, none⟩) (V_mono HO0.out (fun k_ hk => (⟨hk, hk.2⟩ : _ ∧ k_ ≠ gb472))) h2 (.string t469)) h2 (.string t470)) h2 (.int .i64 a1)) h2 (.int .i64 t471)) h2 (.int .i64 0)) (fun _ h_ => h_.1))) hb); replace HO468 := am (R_below (by (with_reducible repeat (first | apply R_alloc | apply R_drewN | apply R_drew)); exact (R_mono (R_far (p := ⟨gb472, 4, none⟩) (R_far (p := ⟨gb472, 3, none⟩) (R_far (p := ⟨gb472, 2, none⟩) (R_far (p := ⟨gb472, 1, none⟩) (R_far (p := ⟨gb472, 0, none⟩) (R_mono HO468.out (fun k_ hk => (⟨hk, hk.2⟩ : _ ∧ k_ ≠ gb472))) h2 (.string t469)) h2 (.string t470)) h2 (.int .i64 a1)) h2 (.int .i64 t471)) h2 (.int .i64 0)) (fun _ h_ => h_.1))) hb); replace BK472 := kP (.cells #[.string t469, .string t470, .int .i64 a1, .int .i64 t471, .int .i64 0] 24 (0, 0)) BK472 hb; replace HB := kH HB hb; (try clear hb); have hz20 := bc5 BK472)
  (try (clear hzq_ BQ_; obtain ⟨hW_⟩ := hW_; subst hW_))
  go_meet
  case rel => exact ⟨_, (t474), H', ⟨xO⟩, ⟨by (with_reducible repeat (first | apply V_alloc | apply V_drewN | apply V_drew)); exact V_mono (V_far (p := ⟨gb472, 0, none⟩) (V_mono HO0.out (fun k_ hk => (⟨hk, hk.2⟩ : _ ∧ k_ ≠ gb472))) h2 (.string t474)) (fun _ hk => ⟨hk.1.1.1, ⟨hk.1.1.2, hk.1.2⟩⟩)⟩, ⟨by (with_reducible repeat (first | apply R_alloc | apply R_drewN | apply R_drew)); exact R_mono (R_far (p := ⟨gb472, 0, none⟩) (R_mono HO468.out (fun k_ hk => (⟨hk, hk.2⟩ : _ ∧ k_ ≠ gb472))) h2 (.string t474)) (fun _ hk => ⟨hk.1.1, hk.1.2⟩)⟩, ⟨fb BK472⟩, ⟨xB HB⟩⟩
 case rest =>
  clear HC8
  try clear hz13
  obtain ⟨kq, x473000_7, HA, HJ7, HO_0, HO_8, BK472, HB⟩ := hcut
  cases kq with
  | zero => exact absurd HA.out (by simp [spec_l4Mine.j0])
  | succ kj7 =>
   have H := HA.out
   clear HA
   simp only [spec_l4Mine.j0] at H
   have HC21 := am H
   clear H
   go_upto_region 5 with (fail)
   (try (clear hzq_ BQ_; obtain ⟨hW_⟩ := hW_; subst hW_))
   go_cut [55] (fun v55 wc => ∃ (kq : Nat) (x55_20 : Bool), v55 = .bool x55_20 ∧ Aside0 (spec_l4Mine.j1 kq l0 l2 x55_20 x473000_7 t470 a1 t471 0 = some (r1, r2)) ∧ Aside0 (kq ≤ kj7) ∧ Aside0 (Kd.V k82 82 wc w.heap.size (fun k_ => (P0_ k_ ∨ w.heap.size ≤ k_) ∧ k_ ≠ gb472) (.slice A0 l0.length c0) l0) ∧ Aside0 (wc.heap[gb472]? = some (.cells #[.string x473000_7, .string t470, .int .i64 a1, .int .i64 t471, .int .i64 0] 24 (0, 0))) ∧ Aside0 (Below w.heap.size w wc))
   case first =>
    have H := HC21.out
    clear HC21
    by_cases c22 : (l0.length : Int) ≥ 20
    ·rw [if_pos c22] at H
     have c22b0 := dt c22
     have c22b1 : decide (20 ≤ l0.length) = true := decide_eq_true (by omega)
     clear c22
     (first | rw [c22b0] | rw [c22b1] | (simp only [i64_w, i32_w]; rw [c22b0]) | skip)
     have H' := am H
     clear H
     go_wp2
     (try (clear hzq_ BQ_; obtain ⟨hW_⟩ := hW_; subst hW_))
     go_meet
     case rel => exact ⟨_, (true), xR, H', ⟨by have := HJ7.out; first | omega | exact Nat.le_refl _⟩, ⟨vM HO_0 (fun _ hk => ⟨hk.1, hk.2.2⟩)⟩, ⟨kb BK472⟩, ⟨xB HB⟩⟩
    rw [if_neg c22] at H
    have c22b0 := df c22
    have c22b1 : decide (20 ≤ l0.length) = false := decide_eq_false (by omega)
    clear c22
    (first | rw [c22b0] | rw [c22b1] | (simp only [i64_w, i32_w]; rw [c22b0]) | skip)
    replace ⟨t475, A23, H⟩ := oa H
    by_cases c24 : t475 = true
    rotate_left
    ·replace c24 := bF c24
     subst c24
     rw [if_neg nF] at H
     have H' := am H
     clear H
     go_wp2_with (go_at_call 56; (try (clear hzq_ BQ_; obtain ⟨hW_⟩ := hW_; subst hW_)); (with_reducible refine (spec_l1In.calls a1 0 99999 false _ A23.out).mono ?_); rintro e w' ⟨rfl, ⟨nd, rfl⟩⟩)
     (try (clear hzq_ BQ_; obtain ⟨hW_⟩ := hW_; subst hW_))
     go_meet
     case rel => exact ⟨_, (true), xR, H', ⟨by have := HJ7.out; first | omega | exact Nat.le_refl _⟩, ⟨vM HO_0 (fun _ hk => ⟨hk.1, hk.2.2⟩)⟩, ⟨kb BK472⟩, ⟨xB HB⟩⟩
    subst c24
    rw [if_pos rfl] at H
    by_cases c25 : (l0.length : Int) > 0
    rotate_left
    ·rw [if_neg c25] at H
     have c25b0 := df c25
     have c25b1 : decide (0 < l0.length) = false := decide_eq_false (by omega)
     clear c25
     have H' := am H
     clear H
     go_wp2_with (go_at_call 56; (try (clear hzq_ BQ_; obtain ⟨hW_⟩ := hW_; subst hW_)); (with_reducible refine (spec_l1In.calls a1 0 99999 true _ A23.out).mono ?_); rintro e w' ⟨rfl, ⟨nd, rfl⟩⟩)
     (try (clear hzq_ BQ_; obtain ⟨hW_⟩ := hW_; subst hW_))
     go_meet
     case rel => exact ⟨_, (false), xR, H', ⟨by have := HJ7.out; first | omega | exact Nat.le_refl _⟩, ⟨vM HO_0 (fun _ hk => ⟨hk.1, hk.2.2⟩)⟩, ⟨kb BK472⟩, ⟨xB HB⟩⟩
    rw [if_pos c25] at H
    have c25b0 := dt c25
    have c25b1 : decide (0 < l0.length) = true := dt (by omega)
    clear c25
    obtain ⟨ji26, hji26⟩ := je (wrap64 ((t466.length : Int) - 1))
    first | rw [hji26] at H | simp only [hji26] at H
    (try rw [hji26] at A23)
    have hji26w : (IntKind.i64.wrap ((t466.length : Int) - 1)) = ji26 := (i64_w _).trans hji26
    replace ⟨c27b0, H⟩ := ipd H
    replace ⟨c28b0, H⟩ := ipd H
    have H' := am H
    clear H
    go_wp2_with (go_at_call 56; (try (clear hzq_ BQ_; obtain ⟨hW_⟩ := hW_; subst hW_)); (with_reducible refine (spec_l1In.calls a1 0 99999 true _ A23.out).mono ?_); rintro e w' ⟨rfl, ⟨nd, rfl⟩⟩; have p476 : 0 ≤ ((ji26) : Int) := oX; have q476 : (ji26) < (t466.length : Int) := oX; obtain ⟨ad476, e476, hx476_0, hx476_1, hx476_2, hx476_3, hx476_4⟩ := at_T24 (R_reads' HO_8.out).2.2 (ji26) p476 q476; cases e476; replace ⟨p476, q476⟩ := eT p476 q476)
    (try (clear hzq_ BQ_; obtain ⟨hW_⟩ := hW_; subst hW_))
    go_meet
    case rel => exact ⟨_, (decide (a1 ≤ ((rd_T24 t466 (ji26)).f2))), (by first | rfl | (simp; done) | (simp only [← hji26] <;> (first | rfl | simp)) | (simp [*]; done)), H', ⟨by have := HJ7.out; first | omega | exact Nat.le_refl _⟩, ⟨vM HO_0 (fun _ hk => ⟨hk.1, hk.2.2⟩)⟩, ⟨kb BK472⟩, ⟨xB HB⟩⟩
   case rest =>
    clear HC21
    try clear hz13
    obtain ⟨kq, x55_20, rfl, HA, HJ20, HO_0, BK472, HB⟩ := hcut
    cases kq with
    | zero => exact absurd HA.out (by simp [spec_l4Mine.j1])
    | succ kj20 =>
     have H := HA.out
     clear HA
     simp only [spec_l4Mine.j1] at H
     by_cases c29 : x55_20 = true
     ·subst c29
      rw [if_pos rfl] at H
      simp only [Option.some.injEq, Prod.mk.injEq] at H
      obtain ⟨rfl, rfl⟩ := H
      go_wp2
      (try (clear hzq_ BQ_; obtain ⟨hW_⟩ := hW_; subst hW_))
      go_ret2
      exact ⟨_, xE, vM HO_0 (fun _ hk => hk.1), xB HB⟩
     replace c29 := bF c29
     subst c29
     rw [if_neg nF] at H
     replace H := Option.bind_eq_some_iff.mp H
     obtain ⟨⟨t477, t478, t479, t480, t481, t482⟩, A300, H⟩ := H
     have A30 := am A300
     clear A300
     (first | have hz35 := bc5 (kF _ BK472 hW_.out) | have hz35 := bc5 BK472)
     go_upto_if 63 with (first | ((with_reducible refine gg ?_); refine gL 59 Tryz.func88 #[.agg #[.string x473000_7, .string t470, .int .i64 a1, .int .i64 t471, .int .i64 0]] ?_; (try (clear hzq_ BQ_; obtain ⟨hW_⟩ := hW_; subst hW_)); (with_reducible refine (spec_l3Mine.calls kj20 x473000_7 t470 a1 t471 0 t477 t478 t479 t480 t481 t482 _ A30.out).mono ?_); rintro e w36 ⟨rfl, hb⟩; refine ⟨_, rfl, ?_⟩; replace HO_0 := am (V_below (va HO_0) hb); replace BK472 := kP _ BK472 hb; replace HB := kH HB hb; (try clear hb)) | ((with_reducible refine gate_dst (N := 10) rfl ?_); (try (refine gate_guard (by rfl) ?_; dsimp only)); refine box_event ?hg (N := 10) ?hd (cs := #[.string (⟨#[]⟩ : ByteArray), .string (⟨#[]⟩ : ByteArray), .int .i64 0, .int .i64 0, .int .i64 0]) (t := 24) ?hr ?_; (try (clear hzq_ BQ_; obtain ⟨hW_⟩ := hW_; subst hW_)); (case hd => rfl); (case hg => rfl); (case hr => first | (go_simp; done) | (go_simp; rfl)); intro gb483 hg w37 hbox hb; replace HO_0 := am (V_below (V_elderB (va HO_0) gb483 (Nat.le_of_eq hg.symm)) hb); have BK483 := am (hbox); have GW483 := zB hg HB; have GE483 := zB hg HB; replace HB := kH HB hb; have NB472_483 := nl hg (kb BK472); have NB483_472 := ng hg (kb BK472); replace BK472 := kP _ BK472 hb; clear hb hbox hg; have hnb38 := NB483_472.out; have hnc38 := NB472_483.out; have hz39 := bc5 BK483))
     by_cases c31 : t482 = true
     rotate_left
     ·replace c31 := bF c31
      subst c31
      try simp only [Bool.not_true, Bool.not_false]
      rw [if_neg nF] at H
      simp only [Option.some.injEq, Prod.mk.injEq] at H
      obtain ⟨rfl, rfl⟩ := H
      go_wp2
      (try (clear hzq_ BQ_; obtain ⟨hW_⟩ := hW_; subst hW_))
      go_ret2
      exact ⟨_, xE, by (with_reducible repeat (first | apply V_alloc | apply V_drewN | apply V_drew)); exact V_mono (V_far (p := ⟨gb483, 4, none⟩) (V_far (p := ⟨gb483, 3, none⟩) (V_far (p := ⟨gb483, 2, none⟩) (V_far (p := ⟨gb483, 1, none⟩) (V_far (p := ⟨gb483, 0, none⟩) (V_mono HO_0.out (fun k_ hk => (⟨hk, hk.2⟩ : _ ∧ k_ ≠ gb483))) h2 (.string t477)) h2 (.string t478)) h2 (.int .i64 t479)) h2 (.int .i64 t480)) h2 (.int .i64 t481)) (fun _ hk => hk.1.1.1), xB HB⟩
     subst c31
     try simp only [Bool.not_true, Bool.not_false]
     rw [if_pos rfl] at H
     replace ⟨t484, A32, H⟩ := oa H
     obtain ⟨y487, Ny487⟩ := yA (([] : List ByteArray) : List ByteArray)
     rw [← Ny487.out] at H
     replace ⟨LMc33, H⟩ := ipa H
     obtain ⟨y490, Ny490⟩ := yA (y487 ++ l2 : List ByteArray)
     rw [← Ny490.out] at H
     replace ⟨LMc34, H⟩ := ipa H
     obtain ⟨y493, Ny493⟩ := yA (t484 ++ [(⟨(⟨t477, t478, t479, t480, t481⟩ : S24), y490⟩ : S82)] : List S82)
     rw [← Ny493.out] at H
     simp only [Option.some.injEq, Prod.mk.injEq] at H
     obtain ⟨rfl, rfl⟩ := H
     try go_wp2
     have n0_ : Aside0 (Kd.V k82 82 (((((w37.setCell ⟨gb483, 0, none⟩ (.string t477)).setCell ⟨gb483, 1, none⟩ (.string t478)).setCell ⟨gb483, 2, none⟩ (.int .i64 t479)).setCell ⟨gb483, 3, none⟩ (.int .i64 t480)).setCell ⟨gb483, 4, none⟩ (.int .i64 t481)) w.heap.size (fun k_ => (P0_ k_ ∨ w.heap.size ≤ k_) ∧ k_ ≠ gb472 ∧ k_ ≠ gb483) (.slice A0 l0.length c0) l0) := ⟨by (with_reducible repeat (first | apply V_alloc | apply V_drewN | apply V_drew)); exact V_mono (V_far (p := ⟨gb483, 4, none⟩) (V_far (p := ⟨gb483, 3, none⟩) (V_far (p := ⟨gb483, 2, none⟩) (V_far (p := ⟨gb483, 1, none⟩) (V_far (p := ⟨gb483, 0, none⟩) (V_mono HO_0.out (fun k_ hk => (⟨hk, hk.2⟩ : _ ∧ k_ ≠ gb483))) h2 (.string t477)) h2 (.string t478)) h2 (.int .i64 t479)) h2 (.int .i64 t480)) h2 (.int .i64 t481)) (fun _ hk => ⟨hk.1.1.1, ⟨hk.1.1.2, hk.1.2⟩⟩)⟩
     have n1_ : Aside0 ((((((w37.setCell ⟨gb483, 0, none⟩ (.string t477)).setCell ⟨gb483, 1, none⟩ (.string t478)).setCell ⟨gb483, 2, none⟩ (.int .i64 t479)).setCell ⟨gb483, 3, none⟩ (.int .i64 t480)).setCell ⟨gb483, 4, none⟩ (.int .i64 t481)).heap[gb472]? = some (.cells #[.string x473000_7, .string t470, .int .i64 a1, .int .i64 t471, .int .i64 0] 24 (0, 0))) := ⟨fb BK472⟩
     have n2_ : Aside0 ((((((w37.setCell ⟨gb483, 0, none⟩ (.string t477)).setCell ⟨gb483, 1, none⟩ (.string t478)).setCell ⟨gb483, 2, none⟩ (.int .i64 t479)).setCell ⟨gb483, 3, none⟩ (.int .i64 t480)).setCell ⟨gb483, 4, none⟩ (.int .i64 t481)).heap[gb483]? = some (.cells #[.string t477, .string t478, .int .i64 t479, .int .i64 t480, .int .i64 t481] 24 (0, 0))) := ⟨fb BK483⟩
     have n3_ : Aside0 (Below w.heap.size w (((((w37.setCell ⟨gb483, 0, none⟩ (.string t477)).setCell ⟨gb483, 1, none⟩ (.string t478)).setCell ⟨gb483, 2, none⟩ (.int .i64 t479)).setCell ⟨gb483, 3, none⟩ (.int .i64 t480)).setCell ⟨gb483, 4, none⟩ (.int .i64 t481))) := ⟨xB HB⟩
     (try clear HO_0)
     (try clear BK472)
     (try clear BK483)
     (try clear HB)
     generalize (((((w37.setCell ⟨gb483, 0, none⟩ (.string t477)).setCell ⟨gb483, 1, none⟩ (.string t478)).setCell ⟨gb483, 2, none⟩ (.int .i64 t479)).setCell ⟨gb483, 3, none⟩ (.int .i64 t480)).setCell ⟨gb483, 4, none⟩ (.int .i64 t481)) = w40 at n0_ n1_ n2_ n3_ ⊢
     have HO_0 := n0_
     have BK472 := n1_
     have BK483 := n2_
     have HB := n3_
     clear n0_ n1_ n2_ n3_
     replace HO_0 := am (V_drew HO_0.out)
     replace BK472 := am (blk_drew BK472.out)
     replace BK483 := am (blk_drew BK483.out)
     replace HB := am (below_drew1 HB.out)
     (try (clear hzq_ BQ_; obtain ⟨hW_⟩ := hW_; subst hW_))
     refine start_ (n := 11) (S := cs5 gb483 (.string t477) (.string t478) (.int .i64 t479) (.int .i64 t480) (.int .i64 t481)) (ds := []) (bm 11 0) (by kernel_rfl) rfl rfl (bz5 BK483) (fun hHeld => ?_); refine with_tabW spec_l4Mine.tab10 spec_l4Mine.bits10 (fun HT_ HW_ => ?_)
     generalize w40.drew = w41 at HO_0 BK472 BK483 HB hHeld ⊢
     refine pA 0 65 (bm 11 1) HT_ ?_
     refine pA 4 69 (bm 11 17) HT_ ?_
     refine tA 2 67 (bm 11 21) HT_ HW_ hHeld ?_
     refine join_ (σ := Value × Value) 6 (bm 11 31) (fun s_ => [(66, s_.1), (68, s_.2)]) (fun s_ w' => (w'.cell? ⟨gb483, 0, none⟩ = some (.string t477) ∧ w'.cell? ⟨gb483, 1, none⟩ = some (.string t478) ∧ w'.cell? ⟨gb483, 2, none⟩ = some (.int .i64 t479) ∧ w'.cell? ⟨gb483, 3, none⟩ = some (.int .i64 t480) ∧ w'.cell? ⟨gb483, 4, none⟩ = some (.int .i64 t481)) ∧ (Kd.S k82 82 w' w.heap.size (fun k_ => (w.heap.size ≤ k_) ∧ some k_ ≠ (s_.2 : Value).ownBlock) s_.1 t484) ∧ (Kd.R Kd.string 9 w' w.heap.size (fun k_ => (w.heap.size ≤ k_)) s_.2 y487) ∧ (Kd.V k82 82 w' w.heap.size (fun k_ => (P0_ k_ ∨ w.heap.size ≤ k_) ∧ some k_ ≠ (s_.1 : Value).ownBlock ∧ some k_ ≠ (s_.2 : Value).ownBlock ∧ k_ ≠ gb472 ∧ k_ ≠ gb483) (.slice A0 l0.length c0) l0) ∧ (w'.heap[gb472]? = some (.cells #[.string x473000_7, .string t470, .int .i64 a1, .int .i64 t471, .int .i64 0] 24 (0, 0))) ∧ (w'.heap[gb483]? = some (.cells #[.string t477, .string t478, .int .i64 t479, .int .i64 t480, .int .i64 t481] 24 (0, 0))) ∧ (Below w.heap.size w w')) ?_ ?_
     rotate_left
     ·intro hCont
      refine two_ (i := 1) (j := 3) (Ni := some 66) (Nj := some 68) (bm 11 23) (bm 11 29) rfl rfl rfl rfl (two_of HT_.out (by kernel_rfl)) (by decide) (by decide) (fun K hK => ?_) (fun K hK => ?_)
      ·skip
       refine gA Tryz.func89 #[.slice A0 l0.length c0] ?_
       with_reducible refine (spec_l4Copy.calls kj20 _ _ l0 t484 _ ?side1 ?side2 A32.out).mono ?_
       (case side1 => exact cr (V_reads' HO_0.out).2.2)
       (case side2 => exact (V_reads' HO_0.out).2.1)
       rintro e w42 ⟨v485, rfl, ho0, hb⟩
       refine ⟨_, rfl, ?_⟩
       replace HO_0 := am (V_elder' (va HO_0) (S_base ho0) hb)
       have HO486 := am (S_lower (S_newM (M := fun k_ => (w.heap.size ≤ k_)) ho0 (below_size (xB HB)) (fun k_ h_ => h_)) (below_size (xB HB)))
       replace BK472 := kP _ BK472 hb
       replace BK483 := kP _ BK483 hb
       replace HB := kH HB hb
       (try clear hb)
       (try clear hb2)
       (try clear hk)
       (try clear hi)
       (try clear ho0)
       refine hK.out _ _ (bz5 BK483) (fun hHeld => ?_)
       clear hK K
       refine nA (some 66) ?_
       refine oA 3 (some 68) (bm 11 31) HT_ fun K hK => ?_
       refine R_lit_step Kd.string _ 9 ?hg (N := 68) ?hd (xs := ([] : List ByteArray)) (inner := []) (ok := fun _ => True) (okp := fun _ => True) ?hr ?hp (fun _ hk => hk) trivial (Below.refl _ _) (Nat.le_refl _) (by simp) ?_; (case hd => rfl); (case hg => rfl); (case hr => first | (go_simp; done) | (go_simp; rfl)); (case hp => exact (Reps.none _ _))
       intro v488 w43 ho44 hb hg_ hnew_
       clear hg_ hnew_
       (first | rw [← Ny487.out] at ho44 | (simp only [Int.reduceToNat] at ho44; rw [← Ny487.out] at ho44))
       replace HO_0 := am (V_elder' (va HO_0) (R_base ho44) hb)
       replace HO486 := am (S_elder' (sx HO486) (R_base ho44) hb)
       have HO489 := am (R_lower (R_newM (M := fun k_ => (w.heap.size ≤ k_)) ho44 (below_size (xB HB)) (fun k_ h_ => h_)) (below_size (xB HB)))
       replace BK472 := kP _ BK472 hb
       replace BK483 := kP _ BK483 hb
       replace HB := kH HB hb
       clear hb ho44
       refine hK.out _ _ (bz5 BK483) (fun hHeld => ?_)
       clear hK K
       refine nA (some 68) ?_
       exact norm_ (by simp only [putAll, Act.put, sa, s0, s1]) (hCont (v485, v488) _ ⟨hHeld, (sM HO486 (fun _ hk => ⟨hk.1.1, hk.2⟩)), (rM HO489 (fun _ hk => hk.1)), (vM HO_0 (fun _ hk => ⟨hk.1.1.1, ⟨hk.1.2, ⟨hk.2, ⟨hk.1.1.2.1, hk.1.1.2.2⟩⟩⟩⟩)), (kb BK472), (kb BK483), (xB HB)⟩)
      ·skip
       refine R_lit_step Kd.string _ 9 ?hg (N := 68) ?hd (xs := ([] : List ByteArray)) (inner := []) (ok := fun _ => True) (okp := fun _ => True) ?hr ?hp (fun _ hk => hk) trivial (Below.refl _ _) (Nat.le_refl _) (by simp) ?_; (case hd => rfl); (case hg => rfl); (case hr => first | (go_simp; done) | (go_simp; rfl)); (case hp => exact (Reps.none _ _))
       intro v488 w42 ho43 hb hg_ hnew_
       clear hg_ hnew_
       (first | rw [← Ny487.out] at ho43 | (simp only [Int.reduceToNat] at ho43; rw [← Ny487.out] at ho43))
       replace HO_0 := am (V_elder' (va HO_0) (R_base ho43) hb)
       have HO489 := am (R_lower (R_newM (M := fun k_ => (w.heap.size ≤ k_)) ho43 (below_size (xB HB)) (fun k_ h_ => h_)) (below_size (xB HB)))
       replace BK472 := kP _ BK472 hb
       replace BK483 := kP _ BK483 hb
       replace HB := kH HB hb
       clear hb ho43
       refine hK.out _ _ (bz5 BK483) (fun hHeld => ?_)
       clear hK K
       refine nA (some 68) ?_
       refine oA 1 (some 66) (bm 11 31) HT_ fun K hK => ?_
       refine gA Tryz.func89 #[.slice A0 l0.length c0] ?_
       with_reducible refine (spec_l4Copy.calls kj20 _ _ l0 t484 _ ?side1 ?side2 A32.out).mono ?_
       (case side1 => exact cr (V_reads' HO_0.out).2.2)
       (case side2 => exact (V_reads' HO_0.out).2.1)
       rintro e w44 ⟨v485, rfl, ho0, hb⟩
       refine ⟨_, rfl, ?_⟩
       replace HO_0 := am (V_elder' (va HO_0) (S_base ho0) hb)
       have HO486 := am (S_lower (S_new' (S_newM (M := fun k_ => (w.heap.size ≤ k_)) ho0 (below_size (xB HB)) (fun k_ h_ => h_)) (R_lt (ra HO489))) (below_size (xB HB)))
       replace HO489 := rk HO489 hb
       replace BK472 := kP _ BK472 hb
       replace BK483 := kP _ BK483 hb
       replace HB := kH HB hb
       (try clear hb)
       (try clear hb2)
       (try clear hk)
       (try clear hi)
       (try clear ho0)
       refine hK.out _ _ (bz5 BK483) (fun hHeld => ?_)
       clear hK K
       refine nA (some 66) ?_
       exact norm_ (by simp only [putAll, Act.put, sa, s0, s1]) (hCont (v485, v488) _ ⟨hHeld, (sM HO486 (fun _ hk => ⟨hk.1.1, hk.2⟩)), (rM HO489 (fun _ hk => hk.1)), (vM HO_0 (fun _ hk => ⟨hk.1.1.1, ⟨hk.2, ⟨hk.1.2, ⟨hk.1.1.2.1, hk.1.1.2.2⟩⟩⟩⟩)), (kb BK472), (kb BK483), (xB HB)⟩)
     rintro ⟨v485, v488⟩ w45 ⟨hS_, h0_, h1_, h2_, h3_, h4_, h5_⟩
     try dsimp only at h0_ h1_ h2_ h3_ h4_ h5_
     have n0_ := am h0_
     have n1_ := am h1_
     have n2_ := am h2_
     have n3_ := am h3_
     have n4_ := am h4_
     have n5_ := am h5_
     clear HO_0
     clear BK472
     clear BK483
     clear HB
     clear h0_ h1_ h2_ h3_ h4_ h5_
     have HO486 := n0_
     have HO489 := n1_
     have HO_0 := n2_
     have BK472 := n3_
     have BK483 := n4_
     have HB := n5_
     clear n0_ n1_ n2_ n3_ n4_ n5_
     have hHeld : w45.cell? ⟨gb483, 0, none⟩ = some (.string t477) ∧ w45.cell? ⟨gb483, 1, none⟩ = some (.string t478) ∧ w45.cell? ⟨gb483, 2, none⟩ = some (.int .i64 t479) ∧ w45.cell? ⟨gb483, 3, none⟩ = some (.int .i64 t480) ∧ w45.cell? ⟨gb483, 4, none⟩ = some (.int .i64 t481) := hS_
     refine norm_ (a' := ?_) ?_ ?_
     rotate_left
     ·simp only [putAll, Act.put, sa, s0, s1]
      rfl
     refine oA 5 (some 70) (bm 11 63) HT_ fun K hK => ?_
     refine R_append_rows_step Kd.string (w0 := w) w.heap.size (by rfl) (.tmp 68) (.tmp 69) 53 9 (.string ⟨#[]⟩) 16 rfl Tryz.underlying53 info9 rfl (by decide) (by omega) v488 y487 l2 _ _ _ (fun k_ => (w.heap.size ≤ k_)) (fun _ => False) rfl rfl ?aO ?aR (fun _ _ h => h) (fun _ h => h.elim) ?aF ?aB ?aS ?aL ?_
     (case aR => exact cb HR2 HB)
     (case aB => exact (xB HB))
     (case aF => exact (fun k_ hk => (Nat.le_trans (below_size (xB HB)) hk)))
     (case aO => exact (ra HO489))
     (case aS => exact (below_size (xB HB)))
     (case aL => have := LMc33.out; omega)
     intro v491 w46 ho hb hg hat
     rw [← Ny490.out] at ho
     have n0_ := am (V_afterv (ok := (fun k_ => (P0_ k_ ∨ w.heap.size ≤ k_) ∧ some k_ ≠ (v485 : Value).ownBlock ∧ k_ ≠ gb472 ∧ k_ ≠ gb483)) (vM HO_0 (fun _ hk => ⟨⟨hk.1, ⟨hk.2.1, ⟨hk.2.2.2.1, hk.2.2.2.2⟩⟩⟩, hk.2.2.1⟩)) hg hat)
     have n1_ := am (blk_grown (g := gb472) (o := .cells #[.string x473000_7, .string t470, .int .i64 a1, .int .i64 t471, .int .i64 0] 24 (0, 0)) (kb BK472) hg (R_ne HO489.out BK472.out (by decide)))
     have n2_ := am (blk_grown (g := gb483) (o := .cells #[.string t477, .string t478, .int .i64 t479, .int .i64 t480, .int .i64 t481] 24 (0, 0)) (kb BK483) hg (R_ne HO489.out BK483.out (by decide)))
     have n3_ := am (S_after (ok := (fun k_ => (w.heap.size ≤ k_))) (sx HO486) hg hat)
     have n4_ := am (hb)
     have n5_ := am (ho)
     clear HO_0
     clear BK472
     clear BK483
     clear HO486
     clear HB
     clear HO489
     have HO_0 := n0_
     have BK472 := n1_
     have BK483 := n2_
     have HO486 := n3_
     have HB := n4_
     have HO492 := n5_
     clear n0_ n1_ n2_ n3_ n4_ n5_
     clear ho hb hg hat
     obtain ⟨Ao47, co47, eo47⟩ := R_slice HO492.out
     (first | subst eo47 | (obtain ⟨f4_, f5_⟩ := eS eo47; subst f4_ f5_))
     refine hK.out _ _ (bz5 BK483) (fun hHeld => ?_)
     clear hK K
     refine nA (some 70) ?_
     refine pA 6 71 (bm 11 127) HT_ ?_
     refine oA 7 (some 72) (bm 11 255) HT_ fun K hK => ?_
     refine value_ (w1 := ?_) (v := ?_) (by rfl) rfl ?_ ?_
     rotate_left 2
     ·go_simp
      constructor
      ·rfl
      ·rfl
     refine hK.out _ _ ⟨(blk_cell (blk_alloc BK483.out _) 0).trans rfl, (blk_cell (blk_alloc BK483.out _) 1).trans rfl, (blk_cell (blk_alloc BK483.out _) 2).trans rfl, (blk_cell (blk_alloc BK483.out _) 3).trans rfl, (blk_cell (blk_alloc BK483.out _) 4).trans rfl⟩ (fun hHeld => ?_)
     clear hK K
     refine nA (some 72) ?_
     refine oA 8 (some 73) (bm 11 511) HT_ fun K hK => ?_
     refine S_append_step k82 (w0 := w) w.heap.size (by rfl) (.tmp 66) (.tmp 72) 79 82 (.agg #[(.string ⟨#[]⟩), (.string ⟨#[]⟩), (.int .i64 0), (.int .i64 0), (.int .i64 0), (.slice none 0 0)]) 80 rfl Tryz.underlying79 info82 rfl (by decide) (by omega) v485 t484 (⟨(⟨t477, t478, t479, t480, t481⟩ : S24), y490⟩ : S82) [.string t477, .string t478, .int .i64 t479, .int .i64 t480, .int .i64 t481, .slice Ao47 y490.length co47] (fun k_ => (w.heap.size ≤ k_)) (fun k_ => some k_ = (.slice Ao47 y490.length co47 : Value).ownBlock) rfl rfl ?aP (fun k_ hk_ => ((R_mono (ok' := fun k_ => ((fun k_ => (w.heap.size ≤ k_))) k_ ∧ some k_ ≠ (v485 : Value).ownBlock) (R_apart' (HO492.out) (S_typed HO486.out) (by decide)) (fun k_ hk => ⟨hk.1, hk.2⟩))).1 k_ hk_.symm) ?aF ?aO ?aB ?aS ?aL ?_
     (case aP => exact k82_mkM _ _ _ (⟨(⟨t477, t478, t479, t480, t481⟩ : S24), y490⟩ : S82) (R_mono (R_tight rfl (R_mono (ok' := fun k_ => ((fun k_ => (w.heap.size ≤ k_))) k_ ∧ some k_ ≠ (v485 : Value).ownBlock) (R_apart' (HO492.out) (S_typed HO486.out) (by decide)) (fun k_ hk => ⟨hk.1, hk.2⟩))) (fun _ h_ => h_)))
     (case aB => exact (xB HB))
     (case aF => exact (fun k_ hk => (Nat.le_trans (below_size (xB HB)) hk)))
     (case aO => exact (by (with_reducible repeat (first | apply S_alloc | apply S_drewN | apply S_drew)); exact S_mono HO486.out (fun k_ hk => ⟨hk.1, fun e_ => hk.2 e_⟩)))
     (case aS => exact (below_size (xB HB)))
     (case aL => have := LMc34.out; omega)
     intro v494 w48 ho hb hg hat
     rw [← Ny493.out] at ho
     have n0_ := am (V_afterv (ok := (fun k_ => (P0_ k_ ∨ w.heap.size ≤ k_) ∧ some k_ ≠ (.slice Ao47 y490.length co47 : Value).ownBlock ∧ k_ ≠ gb472 ∧ k_ ≠ gb483)) (vM HO_0 (fun _ hk => ⟨⟨hk.1.1, ⟨hk.2, ⟨hk.1.2.2.1, hk.1.2.2.2⟩⟩⟩, hk.1.2.1⟩)) hg hat)
     have n1_ := am (blk_grown (g := gb472) (o := .cells #[.string x473000_7, .string t470, .int .i64 a1, .int .i64 t471, .int .i64 0] 24 (0, 0)) (kb BK472) hg (S_ne HO486.out BK472.out (by decide)))
     have n2_ := am (blk_grown (g := gb483) (o := .cells #[.string t477, .string t478, .int .i64 t479, .int .i64 t480, .int .i64 t481] 24 (0, 0)) (kb BK483) hg (S_ne HO486.out BK483.out (by decide)))
     have n3_ := am (hb)
     have n4_ := am (ho)
     clear HO_0
     clear BK472
     clear BK483
     clear HB
     clear HO486
     clear HO492
     have HO_0 := n0_
     have BK472 := n1_
     have BK483 := n2_
     have HB := n3_
     have HO495 := n4_
     clear n0_ n1_ n2_ n3_ n4_
     clear ho hb hg hat
     refine hK.out _ _ (bz5 BK483) (fun hHeld => ?_)
     clear hK K
     refine nA (some 73) ?_
     refine pA 9 6 (bm 11 1023) HT_ ?_
     refine pA 10 7 (bm 11 2047) HT_ ?_
     refine done_ (done_of HT_.out (by kernel_rfl)) ?_
     try go_wp2
     (try (clear hzq_ BQ_; obtain ⟨hW_⟩ := hW_; subst hW_))
     go_ret2
     exact ⟨_, xE, V_mono (S_V (sx HO495)) (fun k_ hk => by first | exact ⟨(.inr (hk.1)), hk.2⟩ | exact (.inr (hk))), xB HB⟩
open Kd
set_option linter.unusedVariables false
set_option linter.unusedSimpArgs false
set_option maxHeartbeats 64000000
set_option maxRecDepth 100000
def spec_l20Rd_of.f (k : Nat) (s0_0 : List Int) (s0_1 : Int) (l1 : List ByteArray) : Option (ByteArray × Int) := (spec_l20Rd_pick.f k s0_0 s0_1 (l1.length : Int)).bind fun bt496 => (if 0 ≤ bt496.1 then (if bt496.1 < (l1.length : Int) then (some (rdOf ByteArray.empty l1 bt496.1, bt496.2)) else (none)) else (none))
theorem spec_l20Rd_of.calls (k : Nat) (g : Nat) (s0_0 : List Int) (s0_1 : Int) (A1 : Option Addr) (c1 : Nat) (l1 : List ByteArray) (r1 : ByteArray) (r2 : Int) (w0 w : World) (hI : IsS78 w0 w g s0_0 s0_1) (hB : Below w0.heap.size w0 w) (hr1 : Kd.C Kd.string w A1 l1.length l1) (hc1 : l1.length ≤ c1) (hf1 : ∀ ad, A1 = some ad → 0 < l1.length → ad.block ≠ g) (h : spec_l20Rd_of.f k s0_0 s0_1 l1 = some (r1, r2)) :
  Calls Tryz.prog 46 #[.pointer (some ⟨g, 0, none⟩), .slice A1 l1.length c1] w fun e w' => e = .returned (.string r1) ∧ IsS78 w0 w' g s0_0 r2 ∧ Below w0.heap.size w0 w' ∧ KeepBut w w' g none := by
 have HR1 := am hr1
 have HC1 := am hc1
 clear hr1 hc1
 have HI0 := am hI
 have HK := am (KeepBut.refl w g none)
 have HL := am hB.size
 clear hI
 have HW0 := am hB.size
 have HB := am hB
 clear hB
 have H : ((spec_l20Rd_pick.f k s0_0 s0_1 (l1.length : Int)).bind fun bt496 => (if 0 ≤ bt496.1 then (if bt496.1 < (l1.length : Int) then (some (rdOf ByteArray.empty l1 bt496.1, bt496.2)) else (none)) else (none))) = some (r1, r2) := h
 clear h
 replace H := Option.bind_eq_some_iff.mp H
 obtain ⟨⟨t496, t497⟩, A30, H⟩ := H
 have A3 := am A30
 clear A30
 replace ⟨c4b0, H⟩ := ipd H
 replace ⟨c5b0, H⟩ := ipd H
 simp only [Option.some.injEq, Prod.mk.injEq] at H
 obtain ⟨rfl, rfl⟩ := H
 go_enter Tryz.func46, Tryz.ntmps46
 go_wp2_with ((with_reducible refine gg ?_); refine gL 9 Tryz.func15 #[.pointer (some ⟨g, 0, none⟩), .int .i64 (l1.length : Int)] ?_; (with_reducible refine (spec_l20Rd_pick.calls k g s0_0 s0_1 (l1.length : Int) t496 t497 w0 _ ?side1 ?side2 A3.out).mono ?_); (case side1 => exact iX HI0); (case side2 => exact xBi HB); rintro e w6 ⟨rfl, hi, hb, hk⟩; refine ⟨_, rfl, ?_⟩; replace HK := kT HK hk; replace HB := am (hb); replace HI0 := am (hi); (try clear hb); have p498 : 0 ≤ (t496 : Int) := oX; have q498 : t496 < (l1.length : Int) := oX; obtain ⟨ad498, e498, hx498_0⟩ := at_string HR1.out t496 p498 q498; cases e498; replace hx498_0 := keep_cell HK.out hx498_0 (by first | (rw [add_block]; exact hf1 _ rfl (by omega)) | exact hf1 _ rfl (by omega) | exact hf1 ad498 rfl (by omega)); replace ⟨p498, q498⟩ := eT p498 q498)
 go_ret
 exact ⟨xE, iX HI0, xBi HB, xK HK⟩
def spec_l20Item.f (k : Nat) (s0_0 : List Int) (s0_1 : Int) : Option (ByteArray × Int) := (spec_l20Rd_of.f k s0_0 s0_1 (([(⟨#[97]⟩ : ByteArray), (⟨#[98]⟩ : ByteArray), (⟨#[99]⟩ : ByteArray), (⟨#[100]⟩ : ByteArray), (⟨#[97, 110, 110]⟩ : ByteArray), (⟨#[98, 111, 98]⟩ : ByteArray), (⟨#[99, 121, 100]⟩ : ByteArray), (⟨#[120, 49]⟩ : ByteArray), (⟨#[120, 50]⟩ : ByteArray), (⟨#[120, 51]⟩ : ByteArray), (⟨#[122, 122]⟩ : ByteArray), (⟨#[108, 111, 110, 103, 110, 97, 109, 101]⟩ : ByteArray)] : List ByteArray))).bind fun bt502 => (some (bt502.1, bt502.2))
theorem spec_l20Item.calls (k : Nat) (g : Nat) (s0_0 : List Int) (s0_1 : Int) (r1 : ByteArray) (r2 : Int) (w0 w : World) (hI : IsS78 w0 w g s0_0 s0_1) (hB : Below w0.heap.size w0 w) (h : spec_l20Item.f k s0_0 s0_1 = some (r1, r2)) :
  Calls Tryz.prog 48 #[.pointer (some ⟨g, 0, none⟩)] w fun e w' => e = .returned (.string r1) ∧ IsS78 w0 w' g s0_0 r2 ∧ Below w0.heap.size w0 w' ∧ KeepBut w w' g none := by
 have HI0 := am hI
 have HK := am (KeepBut.refl w g none)
 have HL := am hB.size
 clear hI
 have HW0 := am hB.size
 have HB := am hB
 clear hB
 have H : ((spec_l20Rd_of.f k s0_0 s0_1 (([(⟨#[97]⟩ : ByteArray), (⟨#[98]⟩ : ByteArray), (⟨#[99]⟩ : ByteArray), (⟨#[100]⟩ : ByteArray), (⟨#[97, 110, 110]⟩ : ByteArray), (⟨#[98, 111, 98]⟩ : ByteArray), (⟨#[99, 121, 100]⟩ : ByteArray), (⟨#[120, 49]⟩ : ByteArray), (⟨#[120, 50]⟩ : ByteArray), (⟨#[120, 51]⟩ : ByteArray), (⟨#[122, 122]⟩ : ByteArray), (⟨#[108, 111, 110, 103, 110, 97, 109, 101]⟩ : ByteArray)] : List ByteArray))).bind fun bt502 => (some (bt502.1, bt502.2))) = some (r1, r2) := h
 clear h
 obtain ⟨y499, Ny499⟩ := yA (([(⟨#[97]⟩ : ByteArray), (⟨#[98]⟩ : ByteArray), (⟨#[99]⟩ : ByteArray), (⟨#[100]⟩ : ByteArray), (⟨#[97, 110, 110]⟩ : ByteArray), (⟨#[98, 111, 98]⟩ : ByteArray), (⟨#[99, 121, 100]⟩ : ByteArray), (⟨#[120, 49]⟩ : ByteArray), (⟨#[120, 50]⟩ : ByteArray), (⟨#[120, 51]⟩ : ByteArray), (⟨#[122, 122]⟩ : ByteArray), (⟨#[108, 111, 110, 103, 110, 97, 109, 101]⟩ : ByteArray)] : List ByteArray) : List ByteArray)
 rw [← Ny499.out] at H
 replace H := Option.bind_eq_some_iff.mp H
 obtain ⟨⟨t502, t503⟩, A20, H⟩ := H
 have A2 := am A20
 clear A20
 simp only [Option.some.injEq, Prod.mk.injEq] at H
 obtain ⟨rfl, rfl⟩ := H
 go_enter Tryz.func48, Tryz.ntmps48
 go_wp2_with (first | ((with_reducible refine gate_dst (N := 4) rfl ?_); refine R_lit Kd.string _ 9 ?hg (N := 4) ?hd (xs := ([(⟨#[97]⟩ : ByteArray), (⟨#[98]⟩ : ByteArray), (⟨#[99]⟩ : ByteArray), (⟨#[100]⟩ : ByteArray), (⟨#[97, 110, 110]⟩ : ByteArray), (⟨#[98, 111, 98]⟩ : ByteArray), (⟨#[99, 121, 100]⟩ : ByteArray), (⟨#[120, 49]⟩ : ByteArray), (⟨#[120, 50]⟩ : ByteArray), (⟨#[120, 51]⟩ : ByteArray), (⟨#[122, 122]⟩ : ByteArray), (⟨#[108, 111, 110, 103, 110, 97, 109, 101]⟩ : ByteArray)] : List ByteArray)) (inner := [.string (⟨#[97]⟩ : ByteArray), .string (⟨#[98]⟩ : ByteArray), .string (⟨#[99]⟩ : ByteArray), .string (⟨#[100]⟩ : ByteArray), .string (⟨#[97, 110, 110]⟩ : ByteArray), .string (⟨#[98, 111, 98]⟩ : ByteArray), .string (⟨#[99, 121, 100]⟩ : ByteArray), .string (⟨#[120, 49]⟩ : ByteArray), .string (⟨#[120, 50]⟩ : ByteArray), .string (⟨#[120, 51]⟩ : ByteArray), .string (⟨#[122, 122]⟩ : ByteArray), .string (⟨#[108, 111, 110, 103, 110, 97, 109, 101]⟩ : ByteArray)]) (ok := fun _ => True) (okp := fun _ => True) ?hr ?hp (fun _ hk => hk) trivial (Below.refl _ _) (Nat.le_refl _) (by simp) ?_; (case hd => rfl); (case hg => rfl); (case hr => first | (go_simp; done) | (go_simp; rfl)); (case hp => exact xP); intro v500 w3 ho4 hb hg_ hnew_; clear hg_ hnew_; (first | rw [← Ny499.out] at ho4 | (simp only [Int.reduceToNat] at ho4; rw [← Ny499.out] at ho4)); have HO501 := am (R_lower ho4 (xZ HK)); replace HK := kK HK hb; replace HB := kHi HB hb; replace HI0 := iK HI0 hb; clear hb ho4; obtain ⟨Ao5, co5, rfl⟩ := R_slice HO501.out) | ((with_reducible refine gg ?_); refine gL 5 Tryz.func46 #[.pointer (some ⟨g, 0, none⟩), .slice Ao5 y499.length co5] ?_; (with_reducible refine (spec_l20Rd_of.calls k g s0_0 s0_1 _ _ y499 t502 t503 w0 _ ?side1 ?side2 ?side3 ?side4 ?side5 A2.out).mono ?_); (case side1 => exact iX HI0); (case side2 => exact xBi HB); (case side3 => exact cr (R_reads' HO501.out).2.2); (case side4 => exact sl HO501); (case side5 => exact far_slice (IsS78.own_ne HI0.out HO501.out (by decide))); rintro e w6 ⟨rfl, hi, hb, hk⟩; refine ⟨_, rfl, ?_⟩; replace HO501 := iR HI0 HO501 hk; replace HK := kT HK hk; replace HB := am (hb); replace HI0 := am (hi); (try clear hb)))
 go_ret
 exact ⟨xE, iX HI0, xBi HB, xK HK⟩
def spec_l20Items.l0 : Nat → List ByteArray → Int → List Int → Int → Option (List ByteArray × Int)
 | 0, _, _, _, _ => none
 | k + 1, x5, x6, x1000, x1001 => if x6 > 0 then ((spec_l20Item.f k x1000 x1001).bind fun bt509 => (if x5.length < 8796093022208 then (spec_l20Items.l0 k (x5 ++ [bt509.1]) (wrap64 (x6 - 1)) x1000 bt509.2) else (none))) else (some (x5, x1001))
def spec_l20Items.f (k : Nat) (s0_0 : List Int) (s0_1 : Int) (a1 : Int) : Option (List ByteArray × Int) := (spec_l20Rd_pick.f k s0_0 s0_1 (wrap64 (a1 + 1))).bind fun bt507 => (spec_l20Items.l0 k (([] : List ByteArray)) bt507.1 s0_0 bt507.2)
theorem spec_l20Items.calls (k : Nat) (g : Nat) (s0_0 : List Int) (s0_1 : Int) (a1 : Int) (r1 : List ByteArray) (r2 : Int) (w0 w : World) (hI : IsS78 w0 w g s0_0 s0_1) (hB : Below w0.heap.size w0 w) (h : spec_l20Items.f k s0_0 s0_1 a1 = some (r1, r2)) :
  Calls Tryz.prog 70 #[.pointer (some ⟨g, 0, none⟩), .int .i64 a1] w fun e w' => ∃ v0_ : Value, e = .returned (v0_) ∧ Kd.R Kd.string 9 w' w.heap.size (fun _ => True) v0_ r1 ∧ IsS78 w0 w' g s0_0 r2 ∧ Below w0.heap.size w0 w' ∧ KeepBut w w' g none := by
 have HI0 := am hI
 have HK := am (KeepBut.refl w g none)
 have HL := am hB.size
 clear hI
 have HW0 := am hB.size
 have HB := am hB
 clear hB
 have H : ((spec_l20Rd_pick.f k s0_0 s0_1 (wrap64 (a1 + 1))).bind fun bt507 => (spec_l20Items.l0 k (([] : List ByteArray)) bt507.1 s0_0 bt507.2)) = some (r1, r2) := h
 clear h
 obtain ⟨y504, Ny504⟩ := yA (([] : List ByteArray) : List ByteArray)
 rw [← Ny504.out] at H
 replace H := Option.bind_eq_some_iff.mp H
 obtain ⟨⟨t507, t508⟩, A30, H⟩ := H
 have A3 := am A30
 clear A30
 have H' := am H
 clear H
 go_enter Tryz.func70, Tryz.ntmps70
 go_wp2_with (first | ((with_reducible refine gate_dst (N := 7) rfl ?_); refine R_lit Kd.string _ 9 ?hg (N := 7) ?hd (xs := ([] : List ByteArray)) (inner := []) (ok := fun _ => True) (okp := fun _ => True) ?hr ?hp (fun _ hk => hk) trivial (Below.refl _ _) (Nat.le_refl _) (by simp) ?_; (case hd => rfl); (case hg => rfl); (case hr => first | (go_simp; done) | (go_simp; rfl)); (case hp => exact xP); intro v505 w4 ho5 hb hg_ hnew_; clear hg_ hnew_; (first | rw [← Ny504.out] at ho5 | (simp only [Int.reduceToNat] at ho5; rw [← Ny504.out] at ho5)); have HO506 := am (R_lower ho5 (xZ HK)); replace HK := kK HK hb; replace HB := kHi HB hb; replace HI0 := iK HI0 hb; clear hb ho5) | ((with_reducible refine gg ?_); refine gL 11 Tryz.func15 #[.pointer (some ⟨g, 0, none⟩), .int .i64 (wrap64 (a1 + 1))] ?_; (with_reducible refine (spec_l20Rd_pick.calls k g s0_0 s0_1 (wrap64 (a1 + 1)) t507 t508 w0 _ ?side1 ?side2 A3.out).mono ?_); (case side1 => exact iX HI0); (case side2 => exact xBi HB); rintro e w6 ⟨rfl, hi, hb, hk⟩; refine ⟨_, rfl, ?_⟩; replace HO506 := iR HI0 HO506 hk; replace HK := kT HK hk; replace HB := am (hb); replace HI0 := am (hi); (try clear hb)))
 go_loopg [5, 6] k (fun kq v5 v6 w' => ∃ (x5_1 : List ByteArray) (x6_1 : Int) (x1001_1 : Int), v6 = .int .i64 x6_1 ∧ Aside0 (spec_l20Items.l0 kq x5_1 x6_1 s0_0 x1001_1 = some (r1, r2)) ∧ Aside0 (kq ≤ k) ∧ Aside0 (Kd.R Kd.string 9 w' w.heap.size (fun _ => True) v5 x5_1) ∧ Aside0 (IsS78 w0 w' g s0_0 x1001_1) ∧ Aside0 (KeepBut w w' g none) ∧ Aside0 (Below w0.heap.size w0 w'))
 case atStart => exact ⟨(y504), (t507), (t508), xR, H', ⟨Nat.le_refl _⟩, ⟨ra HO506⟩, ⟨iX HI0⟩, ⟨xK HK⟩, ⟨xBi HB⟩⟩
 case round =>
  clear H'
  obtain ⟨x5_1, x6_1, x1001_1, rfl, HA, HK1, HO_5, HI0, HK, HB⟩ := hrel
  cases gk with
  | zero => exact absurd HA.out (by simp [spec_l20Items.l0])
  | succ k1 =>
   have H := HA.out
   clear HA
   simp only [spec_l20Items.l0] at H
   by_cases c7 : x6_1 > 0
   rotate_left
   ·rw [if_neg c7] at H
    have c7b0 := df c7
    clear c7
    simp only [Option.some.injEq, Prod.mk.injEq] at H
    obtain ⟨rfl, rfl⟩ := H
    go_wp2
    go_ret
    exact ⟨_, xE, ra HO_5, iX HI0, xBi HB, xK HK⟩
   rw [if_pos c7] at H
   have c7b0 := dt c7
   clear c7
   replace H := Option.bind_eq_some_iff.mp H
   obtain ⟨⟨t509, t510⟩, A80, H⟩ := H
   have A8 := am A80
   clear A80
   replace ⟨LMc9, H⟩ := ipa H
   obtain ⟨y511, Ny511⟩ := yA (x5_1 ++ [t509] : List ByteArray)
   rw [← Ny511.out] at H
   have H' := am H
   clear H
   go_wp2_with (first | ((with_reducible refine gg ?_); refine gL 18 Tryz.func48 #[.pointer (some ⟨g, 0, none⟩)] ?_; (with_reducible refine (spec_l20Item.calls k1 g s0_0 x1001_1 t509 t510 w0 _ ?side1 ?side2 A8.out).mono ?_); (case side1 => exact iX HI0); (case side2 => exact xBi HB); rintro e w10 ⟨rfl, hi, hb, hk⟩; refine ⟨_, rfl, ?_⟩; replace HO_5 := iR HI0 HO_5 hk; replace HK := kT HK hk; replace HB := am (hb); replace HI0 := am (hi); (try clear hb)) | ((with_reducible refine gate_builtin (b := .append) (xs := #[.tmp 16, .tmp 19]) rfl ?_); at_builtin; refine R_append Kd.string w.heap.size rfl (.tmp 16) (.tmp 19) 53 9 (.string ⟨#[]⟩) 16 rfl Tryz.underlying53 info9 rfl (by decide) (by omega) u5 x5_1 t509 [.string t509] (fun _ => True) (fun _ => False) rfl rfl ?aP (fun _ hk => hk.elim) ?aF ?aO (Below.refl _ _) ?aS ?aL ?_; (case aP => exact rfl); (case aF => exact (fun _ _ => trivial)); (case aO => exact (ra HO_5)); (case aS => exact (xZ HK)); (case aL => have := LMc9.out; omega); intro v512 w11 ho hb hg hat; rw [← Ny511.out] at ho; have n0_ := am (IsS78.grown (iX HI0) hg (IsS78.own_ne HI0.out HO_5.out (by decide))); have n1_ := am (below_weaken (xBi HB) HL.out hb); have n2_ := am (KeepBut.trans (xK HK) (KeepBut.of_grown hg g) (R_base2 HO_5.out)); have n3_ := am (ho); clear HI0; clear HB; clear HK; clear HO_5; have HI0 := n0_; have HB := n1_; have HK := n2_; have HO513 := n3_; clear n0_ n1_ n2_ n3_; clear ho hb hg hat))
   go_roundg k1
   case measure => have := HK1.out; omega
   case rel => exact ⟨(y511), (wrap64 (x6_1 - 1)), (t510), xR, H', ⟨xL HK1⟩, ⟨ra HO513⟩, ⟨iX HI0⟩, ⟨xK HK⟩, ⟨xBi HB⟩⟩
mutual
def spec_l20Chain.j0 : Nat → List S82 → Int → Int → List Int → Int → Option ((List S82) × Int)
 | 0, _, _, _, _, _ => none
 | k + 1, x1, x2, x7, x1000, x1001 => spec_l20Chain.l0 k x1 x7 x2 x1000 x1001
def spec_l20Chain.l0 : Nat → List S82 → Int → Int → List Int → Int → Option ((List S82) × Int)
 | 0, _, _, _, _, _ => none
 | k + 1, x1, x7, x8, x1000, x1001 => if x8 > 0 then ((spec_l20Rd_one.f k x1000 x1001 (([1, 5, 5, 9, 30] : List Int))).bind fun bt518 => ((spec_l20Items.f k x1000 bt518.2 4).bind fun bt520 => ((spec_l4Mine.f k x1 (wrap64 (x7 + bt518.1)) bt520.1).bind fun bt524 => (if bt524.2 = true then (spec_l20Chain.l0 k bt524.1 (wrap64 (x7 + bt518.1)) (wrap64 (x8 - 1)) x1000 bt520.2) else (spec_l20Chain.l0 k x1 (wrap64 (x7 + bt518.1)) (wrap64 (x8 - 1)) x1000 bt520.2))))) else (some (x1, x1001))
end
def spec_l20Chain.f (k : Nat) (s0_0 : List Int) (s0_1 : Int) (l1 : List S82) (a2 : Int) : Option ((List S82) × Int) := if (l1.length : Int) > 0 then (if 0 ≤ (wrap64 ((l1.length : Int) - 1)) then (if (wrap64 ((l1.length : Int) - 1)) < (l1.length : Int) then (spec_l20Chain.j0 k l1 a2 ((rd_T82 l1 (wrap64 ((l1.length : Int) - 1))).f0.f2) s0_0 s0_1) else (none)) else (none)) else (spec_l20Chain.j0 k l1 a2 0 s0_0 s0_1)
theorem spec_l20Chain.calls (k : Nat) (g : Nat) (s0_0 : List Int) (s0_1 : Int) (P1_ : Nat → Prop) (A1 : Option Addr) (c1 : Nat) (l1 : List S82) (a2 : Int) (r1 : List S82) (r2 : Int) (w0 w : World) (hI : IsS78 w0 w g s0_0 s0_1) (hB : Below w0.heap.size w0 w) (hs1 : Kd.V k82 82 w w.heap.size (fun k_ => P1_ k_ ∧ k_ ≠ g) (.slice A1 l1.length c1) l1) (h : spec_l20Chain.f k s0_0 s0_1 l1 a2 = some (r1, r2)) :
  Calls Tryz.prog 41 #[.pointer (some ⟨g, 0, none⟩), .slice A1 l1.length c1, .int .i64 a2] w fun e w' => ∃ v0_ : Value, e = .returned (v0_) ∧ Kd.V k82 82 w' w.heap.size (fun k_ => (P1_ k_ ∨ w.heap.size ≤ k_)) v0_ r1 ∧ IsS78 w0 w' g s0_0 r2 ∧ Below w0.heap.size w0 w' ∧ KeepBut w w' g none := by
 have HO1 := am (show Kd.V k82 82 w w.heap.size (fun k_ => (P1_ k_ ∨ w.heap.size ≤ k_) ∧ k_ ≠ g) (.slice A1 l1.length c1) l1 from V_mono hs1 (fun k_ hk => ⟨.inl hk.1, hk.2⟩))
 have HI0 := am hI
 have HK := am (KeepBut.refl w g none)
 have HL := am hB.size
 clear hI
 have HW0 := am hB.size
 have HB := am hB
 clear hB
 have H : (if (l1.length : Int) > 0 then (if 0 ≤ (wrap64 ((l1.length : Int) - 1)) then (if (wrap64 ((l1.length : Int) - 1)) < (l1.length : Int) then (spec_l20Chain.j0 k l1 a2 ((rd_T82 l1 (wrap64 ((l1.length : Int) - 1))).f0.f2) s0_0 s0_1) else (none)) else (none)) else (spec_l20Chain.j0 k l1 a2 0 s0_0 s0_1)) = some (r1, r2) := h
 clear h
 have HC4 := am H
 clear H
 go_enter Tryz.func41, Tryz.ntmps41
 go_upto_if 13 with (fail)
 go_cut [7] (fun v7 wc => ∃ (kq : Nat) (x7_3 : Int), v7 = .int .i64 x7_3 ∧ Aside0 (spec_l20Chain.j0 kq l1 a2 x7_3 s0_0 s0_1 = some (r1, r2)) ∧ Aside0 (kq ≤ k) ∧ Aside0 (Kd.V k82 82 wc w.heap.size (fun k_ => (P1_ k_ ∨ w.heap.size ≤ k_) ∧ k_ ≠ g) (.slice A1 l1.length c1) l1) ∧ Aside0 (IsS78 w0 wc g s0_0 s0_1) ∧ Aside0 (KeepBut w wc g none) ∧ Aside0 (Below w0.heap.size w0 wc))
 case first =>
  have H := HC4.out
  clear HC4
  by_cases c5 : (l1.length : Int) > 0
  rotate_left
  ·rw [if_neg c5] at H
   have c5b0 := df c5
   have c5b1 : decide (0 < l1.length) = false := decide_eq_false (by omega)
   clear c5
   (first | rw [c5b0] | rw [c5b1] | (simp only [i64_w, i32_w]; rw [c5b0]) | skip)
   have H' := am H
   clear H
   go_wp2
   go_meet
   case rel => exact ⟨_, (0), xR, H', ⟨xO⟩, ⟨va HO1⟩, ⟨iX HI0⟩, ⟨xK HK⟩, ⟨xBi HB⟩⟩
  rw [if_pos c5] at H
  have c5b0 := dt c5
  have c5b1 : decide (0 < l1.length) = true := dt (by omega)
  clear c5
  (first | rw [c5b0] | rw [c5b1] | (simp only [i64_w, i32_w]; rw [c5b0]) | skip)
  obtain ⟨ji6, hji6⟩ := je (wrap64 ((l1.length : Int) - 1))
  first | rw [hji6] at H | simp only [hji6] at H
  have hji6w : (IntKind.i64.wrap ((l1.length : Int) - 1)) = ji6 := (i64_w _).trans hji6
  replace ⟨c7b0, H⟩ := ipd H
  replace ⟨c8b0, H⟩ := ipd H
  have H' := am H
  clear H
  have p514 : 0 ≤ ((ji6) : Int) := oX
  have q514 : (ji6) < (l1.length : Int) := oX
  obtain ⟨ad514, A514_5, c514_5, e514, hx514_0, hx514_1, hx514_2, hx514_3, hx514_4, hx514_5, hl514_5, hi514_5⟩ := at_T82 (V_reads' HO1.out).2.2 (ji6) p514 q514
  cases e514
  obtain ⟨ce514, hce514, hMe514, hcc514⟩ := V_get HO1.out z82 (ji6) p514 (by first | exact q514 | exact oX | (have e_ := (V_reads' HO1.out).1; omega))
  obtain ⟨ua514_5, uc514_5, rfl, ul514_5, ge514_5⟩ := k82_openF hMe514
  have hv514_5 := hcc514 5 _ rfl
  rw [add_field _ _ 5 (by omega)] at hv514_5
  replace hv514_5 := Option.some.inj (hv514_5.symm.trans hx514_5)
  injection hv514_5 with hva_ hvn_ hvc_
  rw [hva_] at ge514_5
  rw [hvc_] at ul514_5
  have HL514_5 := am (show Kd.V Kd.string 9 _ w.heap.size _ _ ((rd_T82 l1 (ji6)).f1) from V_mk ul514_5 ge514_5)
  clear hva_ hvn_ hvc_ ge514_5 ul514_5
  clear hcc514 hce514
  have HR514_5 := am hi514_5
  have HC514_5 := am hl514_5
  clear hi514_5 hl514_5
  replace ⟨p514, q514⟩ := eT p514 q514
  go_wp2
  go_meet
  case rel => exact ⟨_, ((rd_T82 l1 (ji6)).f0.f2), (by first | rfl | (simp; done) | (simp only [← hji6] <;> (first | rfl | simp)) | (simp [*]; done)), H', ⟨xO⟩, ⟨va HO1⟩, ⟨iX HI0⟩, ⟨xK HK⟩, ⟨xBi HB⟩⟩
 case rest =>
  clear HC4
  obtain ⟨kq, x7_3, rfl, HA, HJ3, HO_1, HI0, HK, HB⟩ := hcut
  cases kq with
  | zero => exact absurd HA.out (by simp [spec_l20Chain.j0])
  | succ kj3 =>
   have H := HA.out
   clear HA
   simp only [spec_l20Chain.j0] at H
   have H' := am H
   clear H
   go_wp2
   go_loopg [1, 7, 8] kj3 (fun kq v1 v7 v8 w' => ∃ (x1_2 : List S82) (x7_2 : Int) (x8_2 : Int) (x1001_2 : Int), v7 = .int .i64 x7_2 ∧ v8 = .int .i64 x8_2 ∧ Aside0 (spec_l20Chain.l0 kq x1_2 x7_2 x8_2 s0_0 x1001_2 = some (r1, r2)) ∧ Aside0 (kq ≤ kj3) ∧ Aside0 (Kd.V k82 82 w' w.heap.size (fun k_ => (P1_ k_ ∨ w.heap.size ≤ k_) ∧ k_ ≠ g) v1 x1_2) ∧ Aside0 (IsS78 w0 w' g s0_0 x1001_2) ∧ Aside0 (KeepBut w w' g none) ∧ Aside0 (Below w0.heap.size w0 w'))
   case atStart => exact ⟨(l1), (x7_3), (a2), (s0_1), xR, xR, H', ⟨Nat.le_refl _⟩, ⟨va HO_1⟩, ⟨iX HI0⟩, ⟨xK HK⟩, ⟨xBi HB⟩⟩
   case round =>
    clear H'
    obtain ⟨x1_2, x7_2, x8_2, x1001_2, rfl, rfl, HA, HK2, HO_1, HI0, HK, HB⟩ := hrel
    cases gk with
    | zero => exact absurd HA.out (by simp [spec_l20Chain.l0])
    | succ k2 =>
     have H := HA.out
     clear HA
     simp only [spec_l20Chain.l0] at H
     by_cases c9 : x8_2 > 0
     rotate_left
     ·rw [if_neg c9] at H
      have c9b0 := df c9
      clear c9
      simp only [Option.some.injEq, Prod.mk.injEq] at H
      obtain ⟨rfl, rfl⟩ := H
      go_wp2
      go_ret
      exact ⟨_, xE, vM HO_1 (fun _ hk => hk.1), iX HI0, xBi HB, xK HK⟩
     rw [if_pos c9] at H
     have c9b0 := dt c9
     clear c9
     obtain ⟨y515, Ny515⟩ := yA (([1, 5, 5, 9, 30] : List Int) : List Int)
     rw [← Ny515.out] at H
     replace H := Option.bind_eq_some_iff.mp H
     obtain ⟨⟨t518, t519⟩, A100, H⟩ := H
     have A10 := am A100
     clear A100
     replace H := Option.bind_eq_some_iff.mp H
     obtain ⟨⟨t520, t523⟩, A110, H⟩ := H
     have A11 := am A110
     clear A110
     replace H := Option.bind_eq_some_iff.mp H
     obtain ⟨⟨t524, t527⟩, A120, H⟩ := H
     have A12 := am A120
     clear A120
     go_upto_if 40 with (first | ((with_reducible refine gate_dst (N := 29) rfl ?_); refine R_lit (Kd.int .i64) _ 3 ?hg (N := 29) ?hd (xs := ([1, 5, 5, 9, 30] : List Int)) (inner := [.int .i64 1, .int .i64 5, .int .i64 5, .int .i64 9, .int .i64 30]) (ok := fun _ => True) (okp := fun _ => True) ?hr ?hp (fun _ hk => hk) trivial (Below.refl _ _) (Nat.le_refl _) (by simp) ?_; (case hd => rfl); (case hg => rfl); (case hr => first | (go_simp; done) | (go_simp; rfl)); (case hp => exact xP); intro v516 w14 ho15 hb hg_ hnew_; clear hg_ hnew_; (first | rw [← Ny515.out] at ho15 | (simp only [Int.reduceToNat] at ho15; rw [← Ny515.out] at ho15)); replace HO_1 := am (V_elder' (va HO_1) (R_base ho15) hb); have HO517 := am (R_lower (R_newM (M := fun k_ => (w.heap.size ≤ k_)) ho15 (xZ HK) (fun k_ h_ => h_)) (xZ HK)); replace HK := kK HK hb; replace HB := kHi HB hb; replace HI0 := iK HI0 hb; clear hb ho15; obtain ⟨Ao16, co16, rfl⟩ := R_slice HO517.out) | ((with_reducible refine gg ?_); first | (refine gL 30 Tryz.func16 #[.pointer (some ⟨g, 0, none⟩), .slice Ao16 y515.length co16] ?_; (with_reducible refine (spec_l20Rd_one.calls k2 g s0_0 x1001_2 _ _ y515 t518 t519 w0 _ ?side1 ?side2 ?side3 ?side4 ?side5 A10.out).mono ?_); (case side1 => exact iX HI0); (case side2 => exact xBi HB); (case side3 => exact cr (R_reads' HO517.out).2.2); (case side4 => exact sl HO517); (case side5 => exact far_slice (IsS78.own_ne HI0.out HO517.out (by decide))); rintro e w17 ⟨rfl, hi, hb, hk⟩; refine ⟨_, rfl, ?_⟩; replace HO_1 := am (V_mono (V_keep (V_mono (ok := fun k_ => ((((P1_ k_ ∨ w.heap.size ≤ k_)) ∧ k_ ≠ g) ∧ some k_ ≠ (.slice Ao16 y515.length co16 : Value).ownBlock)) (va HO_1) (fun k_ hk_ => (⟨hk_, hk_.1.2⟩ : _ ∧ k_ ≠ g))) hk (fun _ h => h.2)) (fun _ h => h.1)); replace HO517 := iR HI0 HO517 hk; replace HK := kT HK hk; replace HB := am (hb); replace HI0 := am (hi); (try clear hb)) | (refine gL 36 Tryz.func70 #[.pointer (some ⟨g, 0, none⟩), .int .i64 4] ?_; (with_reducible refine (spec_l20Items.calls k2 g s0_0 t519 4 t520 t523 w0 _ ?side1 ?side2 A11.out).mono ?_); (case side1 => exact iX HI0); (case side2 => exact xBi HB); rintro e w18 ⟨v521, rfl, ho0, hi, hb, hk⟩; refine ⟨_, rfl, ?_⟩; replace HO_1 := am (V_mono (V_told (V_oldK (V_mono (ok := fun k_ => ((((P1_ k_ ∨ w.heap.size ≤ k_)) ∧ k_ ≠ g) ∧ some k_ ≠ (.slice Ao16 y515.length co16 : Value).ownBlock)) (va HO_1) (fun k_ hk_ => (⟨hk_, hk_.1.2⟩ : _ ∧ k_ ≠ g))) hk) (R_base ho0)) (fun _ h_ => h_.1)); replace HO517 := iR HI0 HO517 hk; have HO522 := am (R_lower (R_newM (M := fun k_ => (w.heap.size ≤ k_)) ho0 (xZ HK) (fun k_ h_ => h_)) (xZ HK)); replace HK := kT HK hk; replace HB := am (hb); replace HI0 := am (hi); (try clear hb); (try clear ho0); obtain ⟨Ao19, co19, rfl⟩ := V_slice HO_1.out; obtain ⟨Ao20, co20, rfl⟩ := R_slice HO522.out) | (refine gL 37 Tryz.func69 #[.slice Ao19 x1_2.length co19, .int .i64 (wrap64 (x7_2 + t518)), .slice Ao20 t520.length co20] ?_; (with_reducible refine (spec_l4Mine.calls k2 (fun k_ => ((((P1_ k_ ∨ w.heap.size ≤ k_) ∧ k_ ≠ g) ∧ some k_ ≠ (.slice Ao16 y515.length co16 : Value).ownBlock) ∧ some k_ ≠ (.slice Ao20 t520.length co20 : Value).ownBlock)) _ _ x1_2 (wrap64 (x7_2 + t518)) _ _ t520 t524 t527 _ ?side1 ?side2 ?side3 A12.out).mono ?_); (case side1 => exact HO_1.out); (case side2 => exact cr (R_reads' HO522.out).2.2); (case side3 => exact sl HO522); rintro e w21 ⟨v525, rfl, ho0, hb⟩; refine ⟨_, rfl, ?_⟩; replace HO_1 := am (V_below (va HO_1) hb); have HO526 := am (V_lower (V_mono (ok' := fun k_ => (P1_ k_ ∨ w.heap.size ≤ k_) ∧ some k_ ≠ (.slice Ao16 y515.length co16 : Value).ownBlock ∧ some k_ ≠ (.slice Ao20 t520.length co20 : Value).ownBlock ∧ k_ ≠ g) ho0 (fun k_ hk_ => ⟨Or.elim hk_ (fun hs_ => hs_.1.1.1) (fun hn_ => (.inr (Nat.le_trans (xZ HK) hn_))), Or.elim hk_ (fun hs_ => hs_.1.2) (fun hn_ => (Kd.fresh' (R_lt (ra HO517)) k_ hn_)), Or.elim hk_ (fun hs_ => hs_.2) (fun hn_ => (Kd.fresh' (R_lt (ra HO522)) k_ hn_)), Or.elim hk_ (fun hs_ => hs_.1.1.2) (fun hn_ => (IsS78.fresh (iX HI0) k_ hn_))⟩)) (xZ HK)); replace HO517 := rk HO517 hb; replace HO522 := rk HO522 hb; replace HK := kK HK hb; replace HB := kHi HB hb; replace HI0 := iK HI0 hb; (try clear hb); (try clear ho0))))
     by_cases c13 : t527 = true
     ·subst c13
      try simp only [Bool.not_true, Bool.not_false]
      rw [if_pos rfl] at H
      have H' := am H
      clear H
      go_wp2
      go_roundg k2
      case measure => have := HJ3.out; have := HK2.out; omega
      case rel => exact ⟨(t524), (wrap64 (x7_2 + t518)), (wrap64 (x8_2 - 1)), (t523), xR, xR, H', ⟨by have := HJ3.out; have := HK2.out; omega⟩, ⟨vM HO526 (fun _ hk => ⟨hk.1, hk.2.2.2⟩)⟩, ⟨iX HI0⟩, ⟨xK HK⟩, ⟨xBi HB⟩⟩
     replace c13 := bF c13
     subst c13
     try simp only [Bool.not_true, Bool.not_false]
     rw [if_neg nF] at H
     have H' := am H
     clear H
     go_wp2
     go_roundg k2
     case measure => have := HJ3.out; have := HK2.out; omega
     case rel => exact ⟨(x1_2), (wrap64 (x7_2 + t518)), (wrap64 (x8_2 - 1)), (t523), xR, xR, H', ⟨by have := HJ3.out; have := HK2.out; omega⟩, ⟨vM HO_1 (fun _ hk => ⟨hk.1.1.1, hk.1.1.2⟩)⟩, ⟨iX HI0⟩, ⟨xK HK⟩, ⟨xBi HB⟩⟩
def spec_l5Text.f (k : Nat) (a0_0 : ByteArray) (a0_1 : Int) (a0_2 : Int) : Option (ByteArray) := if a0_0.size + 1 ≤ 9223372036854775807 then ((spec_l1Dec.f k a0_1).bind fun t529 => (if (a0_0 ++ (⟨#[32]⟩ : ByteArray)).size + t529.size ≤ 9223372036854775807 then (if ((a0_0 ++ (⟨#[32]⟩ : ByteArray)) ++ t529).size + 1 ≤ 9223372036854775807 then ((spec_l1Dec.f k a0_2).bind fun t530 => (if (((a0_0 ++ (⟨#[32]⟩ : ByteArray)) ++ t529) ++ (⟨#[32]⟩ : ByteArray)).size + t530.size ≤ 9223372036854775807 then (some ((((a0_0 ++ (⟨#[32]⟩ : ByteArray)) ++ t529) ++ (⟨#[32]⟩ : ByteArray)) ++ t530)) else (none))) else (none)) else (none))) else (none)
def spec_l5Text.T1 : Bool × List (List Nat × List Nat) := (true, [([], []), ([0], [0]), ([1], [1]), ([], []), ([3], [3]), ([4], [4]), ([2, 5], [2, 5]), ([6], [6]), ([], []), ([8], [8]), ([9, 5], [9]), ([7, 10], [7, 10]), ([11, 10, 0, 1, 2, 3, 4, 5, 6, 7, 8, 9, 10, 11], [11])])
def spec_l5Text.B1 : List Nat := [0, 1, 3, 0, 8, 24, 63, 127, 0, 256, 824, 2047, 4095]
theorem spec_l5Text.tab1 : rtab .any (opsOf Tryz.f71 1) = spec_l5Text.T1 := by kernel_rfl
theorem spec_l5Text.bits1 : waitsOk spec_l5Text.T1.2 spec_l5Text.B1 = true := by kernel_rfl
theorem spec_l5Text.calls (k : Nat) (a0_0 : ByteArray) (a0_1 : Int) (a0_2 : Int) (r : ByteArray) (w : World) (h : spec_l5Text.f k a0_0 a0_1 a0_2 = some r) :
  Calls Tryz.prog 71 #[.agg #[.string a0_0, .int .i64 a0_1, .int .i64 a0_2]] w fun e w' => e = .returned (.string r) ∧ Below w.heap.size w w' := by
 have hu93 := Tryz.underlying93
 have HB := am (Below.refl w.heap.size w)
 have H : (if a0_0.size + 1 ≤ 9223372036854775807 then ((spec_l1Dec.f k a0_1).bind fun t529 => (if (a0_0 ++ (⟨#[32]⟩ : ByteArray)).size + t529.size ≤ 9223372036854775807 then (if ((a0_0 ++ (⟨#[32]⟩ : ByteArray)) ++ t529).size + 1 ≤ 9223372036854775807 then ((spec_l1Dec.f k a0_2).bind fun t530 => (if (((a0_0 ++ (⟨#[32]⟩ : ByteArray)) ++ t529) ++ (⟨#[32]⟩ : ByteArray)).size + t530.size ≤ 9223372036854775807 then (some ((((a0_0 ++ (⟨#[32]⟩ : ByteArray)) ++ t529) ++ (⟨#[32]⟩ : ByteArray)) ++ t530)) else (none))) else (none)) else (none))) else (none)) = some r := h
 clear h
 replace ⟨c2, H⟩ := ip H
 have c2b0 := eq_true c2
 have c2b1 := dt c2
 have c2b2 := nf c2
 replace ⟨t529, A3, H⟩ := oa H
 replace ⟨c4, H⟩ := ip H
 have c4b0 := eq_true c4
 have c4b1 := dt c4
 have c4b2 := nf c4
 try (have c4b3 := c4b2; simp only [ByteArray.size_append, show (⟨#[32]⟩ : ByteArray).size = 1 from rfl] at c4b3)
 replace ⟨c5, H⟩ := ip H
 have c5b0 := eq_true c5
 have c5b1 := dt c5
 have c5b2 := nf c5
 try (have c5b3 := c5b2; simp only [ByteArray.size_append, show (⟨#[32]⟩ : ByteArray).size = 1 from rfl] at c5b3)
 replace ⟨t530, A6, H⟩ := oa H
 replace ⟨c7, H⟩ := ip H
 have c7b0 := eq_true c7
 have c7b1 := dt c7
 have c7b2 := nf c7
 try (have c7b3 := c7b2; simp only [ByteArray.size_append, show (⟨#[32]⟩ : ByteArray).size = 1 from rfl] at c7b3)
 obtain rfl := oI H
 go_enter Tryz.func71, Tryz.ntmps71
 try go_wp2_with ((with_reducible refine gg ?_); refine bE 1 #[.string a0_0, .int .i64 a0_1, .int .i64 a0_2] 93 ?_; intro gb528 hg w8 hbox hb; have BK528 := am (hbox); have GW528 := zB hg HB; have GE528 := zB hg HB; replace HB := kH HB hb; clear hb hbox hg)
 replace BK528 := am (blk_drew BK528.out)
 replace HB := am (below_drew1 HB.out)
 refine start_ (n := 13) (S := cs3 gb528 (.string a0_0) (.int .i64 a0_1) (.int .i64 a0_2)) (ds := []) (bm 13 0) (by kernel_rfl) rfl rfl (bz3 BK528) (fun hHeld => ?_); refine with_tabW spec_l5Text.tab1 spec_l5Text.bits1 (fun HT_ HW_ => ?_)
 generalize w8.drew = w9 at BK528 HB hHeld ⊢
 refine pA 0 3 (bm 13 1) HT_ ?_
 refine pA 3 6 (bm 13 9) HT_ ?_
 refine pA 8 11 (bm 13 265) HT_ ?_
 refine tA 1 4 (bm 13 267) HT_ HW_ hHeld ?_
 refine pA 2 5 (bm 13 271) HT_ ?_
 refine tA 4 7 (bm 13 287) HT_ HW_ hHeld ?_
 refine tA 9 12 (bm 13 799) HT_ HW_ hHeld ?_
 refine oA 5 (some 8) (bm 13 831) HT_ fun K hK => ?_
 refine gA Tryz.func59 #[.int .i64 a0_1] ?_
 with_reducible refine (spec_l1Dec.calls k a0_1 t529 _ A3.out).mono ?_
 rintro e w10 ⟨rfl, hb⟩
 refine ⟨_, rfl, ?_⟩
 replace BK528 := kP _ BK528 hb
 replace HB := kH HB hb
 (try clear hb)
 (try clear hb2)
 (try clear hk)
 (try clear hi)
 refine hK.out _ _ (bz3 BK528) (fun hHeld => ?_)
 clear hK K
 refine nA (some 8) ?_
 refine pA 6 9 (bm 13 895) HT_ ?_
 refine pA 7 10 (bm 13 1023) HT_ ?_
 refine oA 10 (some 13) (bm 13 2047) HT_ fun K hK => ?_
 refine gA Tryz.func59 #[.int .i64 a0_2] ?_
 with_reducible refine (spec_l1Dec.calls k a0_2 t530 _ A6.out).mono ?_
 rintro e w11 ⟨rfl, hb⟩
 refine ⟨_, rfl, ?_⟩
 replace BK528 := kP _ BK528 hb
 replace HB := kH HB hb
 (try clear hb)
 (try clear hb2)
 (try clear hk)
 (try clear hi)
 refine hK.out _ _ (bz3 BK528) (fun hHeld => ?_)
 clear hK K
 refine nA (some 13) ?_
 refine pA 11 14 (bm 13 4095) HT_ ?_
 refine pA 12 2 (bm 13 8191) HT_ ?_
 refine done_ (done_of HT_.out (by kernel_rfl)) ?_
 try go_wp2
 go_ret
 exact ⟨xE, xB HB⟩
def spec_l5Root.l0 : Nat → List S93 → ByteArray → Int → Option (ByteArray)
 | 0, _, _, _ => none
 | k + 1, x0, x3, x4 => if x4 < (x0.length : Int) then (if x3.size + 1 ≤ 9223372036854775807 then (if 0 ≤ x4 then ((spec_l5Text.f k ((rd_T93 x0 x4).f0) ((rd_T93 x0 x4).f1) ((rd_T93 x0 x4).f2)).bind fun t532 => (if (x3 ++ (⟨#[32]⟩ : ByteArray)).size + t532.size ≤ 9223372036854775807 then (spec_l5Root.l0 k x0 ((x3 ++ (⟨#[32]⟩ : ByteArray)) ++ t532) (wrap64 (x4 + 1))) else (none))) else (none)) else (none)) else ((spec_l1Sum.f k x3).bind fun t533 => (some t533))
def spec_l5Root.f (k : Nat) (l0 : List S93) : Option (ByteArray) := spec_l5Root.l0 k l0 (⟨#[114, 97, 110, 103, 101]⟩ : ByteArray) 0
theorem spec_l5Root.calls (k : Nat) (A0 : Option Addr) (c0 : Nat) (l0 : List S93) (r : ByteArray) (w : World) (hr0 : Kd.C k93 w A0 l0.length l0) (hc0 : l0.length ≤ c0) (h : spec_l5Root.f k l0 = some r) :
  Calls Tryz.prog 42 #[.slice A0 l0.length c0] w fun e w' => e = .returned (.string r) ∧ Below w.heap.size w w' := by
 have hu93 := Tryz.underlying93
 have HR0 := am hr0
 have HC0 := am hc0
 clear hr0 hc0
 have HB := am (Below.refl w.heap.size w)
 have H : (spec_l5Root.l0 k l0 (⟨#[114, 97, 110, 103, 101]⟩ : ByteArray) 0) = some r := h
 clear h
 have H' := am H
 clear H
 go_enter Tryz.func42, Tryz.ntmps42
 go_wp2
 go_loopg [3, 4] k (fun kq v3 v4 w' => ∃ (x3_1 : ByteArray) (x4_1 : Int), v3 = .string x3_1 ∧ v4 = .int .i64 x4_1 ∧ Aside0 (spec_l5Root.l0 kq l0 x3_1 x4_1 = some r) ∧ Aside0 (kq ≤ k) ∧ Aside0 (Below w.heap.size w w'))
 case atStart => exact ⟨((⟨#[114, 97, 110, 103, 101]⟩ : ByteArray)), (0), xR, xR, H', ⟨Nat.le_refl _⟩, ⟨bl HB⟩⟩
 case round =>
  clear H'
  obtain ⟨x3_1, x4_1, rfl, rfl, HA, HK1, HB⟩ := hrel
  cases gk with
  | zero => exact absurd HA.out (by simp [spec_l5Root.l0])
  | succ k1 =>
   have H := HA.out
   clear HA
   simp only [spec_l5Root.l0] at H
   by_cases c2 : x4_1 < (l0.length : Int)
   rotate_left
   ·rw [if_neg c2] at H
    have c2b0 := df c2
    clear c2
    replace ⟨t533, A8, H⟩ := oa H
    obtain rfl := oI H
    go_wp2_with ((with_reducible refine gg ?_); refine gL 20 Tryz.func47 #[.string x3_1] ?_; (with_reducible refine (spec_l1Sum.calls k1 x3_1 t533 _ A8.out).mono ?_); rintro e w9 ⟨rfl, hb⟩; refine ⟨_, rfl, ?_⟩; replace HB := kH HB hb; (try clear hb))
    go_ret
    exact ⟨xE, bl HB⟩
   rw [if_pos c2] at H
   have c2b0 := dt c2
   clear c2
   replace ⟨c3, H⟩ := ip H
   have c3b0 := eq_true c3
   have c3b1 := dt c3
   have c3b2 := nf c3
   replace ⟨c4b0, H⟩ := ipd H
   replace ⟨t532, A5, H⟩ := oa H
   replace ⟨c6, H⟩ := ip H
   have c6b0 := eq_true c6
   have c6b1 := dt c6
   have c6b2 := nf c6
   try (have c6b3 := c6b2; simp only [ByteArray.size_append, show (⟨#[32]⟩ : ByteArray).size = 1 from rfl] at c6b3)
   have H' := am H
   clear H
   have p531 : 0 ≤ (x4_1 : Int) := oX
   have q531 : x4_1 < (l0.length : Int) := oX
   obtain ⟨ad531, e531, hx531_0, hx531_1, hx531_2⟩ := at_T93 (hC HB HR0.out) x4_1 p531 q531
   cases e531
   replace ⟨p531, q531⟩ := eT p531 q531
   go_wp2_with ((with_reducible refine gg ?_); refine gL 17 Tryz.func71 #[.agg #[.string ((rd_T93 l0 x4_1).f0), .int .i64 ((rd_T93 l0 x4_1).f1), .int .i64 ((rd_T93 l0 x4_1).f2)]] ?_; (with_reducible refine (spec_l5Text.calls k1 ((rd_T93 l0 x4_1).f0) ((rd_T93 l0 x4_1).f1) ((rd_T93 l0 x4_1).f2) t532 _ A5.out).mono ?_); rintro e w7 ⟨rfl, hb⟩; refine ⟨_, rfl, ?_⟩; replace HB := kH HB hb; (try clear hb))
   go_roundg k1
   case measure => have := HK1.out; omega
   case rel => exact ⟨((x3_1 ++ (⟨#[32]⟩ : ByteArray)) ++ t532), (wrap64 (x4_1 + 1)), xR, xR, H', ⟨xL HK1⟩, ⟨bl HB⟩⟩

end Go.Proofs.YtgjljbaadglpnaaGreatDoor.PFnPaidGet
