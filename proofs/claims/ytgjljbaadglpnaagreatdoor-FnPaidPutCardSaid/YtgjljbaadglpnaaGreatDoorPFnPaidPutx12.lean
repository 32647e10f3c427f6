/- Functions of the program and what each answers: the kit's print, shortened (wip/press2.py). -/
import Derived.Test.YtgjljbaadglpnaaGreatDoorPFnPaidPutx0
import Derived.Test.YtgjljbaadglpnaaGreatDoorPFnPaidPutx4
import Derived.Test.YtgjljbaadglpnaaGreatDoorPFnPaidPutx11
namespace Go.Proofs.YtgjljbaadglpnaaGreatDoor.PFnPaidPut
open Go.Proofs.YtgjljbaadglpnaaGreatDoor.Sq Go.RowKit Go.Proofs.YtgjljbaadglpnaaGreatDoorW.PrintWords Go.Proofs.YtgjljbaadglpnaaGreatDoorW.PrintLast Go.Proofs.YtgjljbaadglpnaaGreatDoorW.PrintMore
attribute [local go_sem] max2_int min2_int max_two min_two max_three min_three max_four min_four   -- for this text's walks alone
set_option linter.unusedVariables false
set_option linter.unusedSimpArgs false
set_option maxHeartbeats 64000000
set_option maxRecDepth 100000
mutual
def spec_l4Mine.j0 : Nat → List (S82) → Int → List ByteArray → List (S24) → ByteArray → ByteArray → Int → Int → Int → Option ((List (S82)) × Bool)
 | 0, _, _, _, _, _, _, _, _, _ => none
 | k + 1, x0, x1, x2, x8, x277000, x277001, x277002, x277003, x277004 => if (x0.length : Int) ≥ 20 then (spec_l4Mine.j1 k x0 x2 true x277000 x277001 x277002 x277003 x277004) else ((spec_l1In.f x1 0 99999).bind fun t279 => (if t279 = true then (if (x0.length : Int) > 0 then (if 0 ≤ (wrap64 ((x8.length : Int) - 1)) then (if (wrap64 ((x8.length : Int) - 1)) < (x8.length : Int) then (spec_l4Mine.j1 k x0 x2 (decide (x1 ≤ ((rd_T24 x8 (wrap64 ((x8.length : Int) - 1))).f2))) x277000 x277001 x277002 x277003 x277004) else (none)) else (none)) else (spec_l4Mine.j1 k x0 x2 false x277000 x277001 x277002 x277003 x277004)) else (spec_l4Mine.j1 k x0 x2 true x277000 x277001 x277002 x277003 x277004)))
def spec_l4Mine.j1 : Nat → List (S82) → List ByteArray → Bool → ByteArray → ByteArray → Int → Int → Int → Option ((List (S82)) × Bool)
 | 0, _, _, _, _, _, _, _, _ => none
 | k + 1, x0, x2, x55, x277000, x277001, x277002, x277003, x277004 => if x55 = true then (some (x0, false)) else ((spec_l3Mine.f k x277000 x277001 x277002 x277003 x277004).bind fun bt281 => (if bt281.2.2.2.2.2 = true then ((spec_l4Copy.f k x0).bind fun t288 => ((some (([] : List ByteArray) : List ByteArray)).bind fun y291 => (if y291.length + x2.length < 8796093022208 then (if t288.length < 1759218604441 then (some ((t288 ++ [(⟨(⟨bt281.1, bt281.2.1, bt281.2.2.1, bt281.2.2.2.1, bt281.2.2.2.2.1⟩ : S24), (y291 ++ x2)⟩ : S82)]), true)) else (none)) else (none)))) else (some (x0, false))))
end
def spec_l4Mine.f (k : Nat) (l0 : List (S82)) (a1 : Int) (l2 : List ByteArray) : Option ((List (S82)) × Bool) := (spec_l4Heads.f k l0).bind fun t270 => ((spec_l4Zero.f).bind fun t273 => ((spec_l3Root.f k l2).bind fun t274 => ((spec_l4Diff.f k t270).bind fun t275 => (if (l0.length : Int) > 0 then (if 0 ≤ (wrap64 ((t270.length : Int) - 1)) then (if (wrap64 ((t270.length : Int) - 1)) < (t270.length : Int) then ((spec_l3Sum.f k ((rd_T24 t270 (wrap64 ((t270.length : Int) - 1))).f0) ((rd_T24 t270 (wrap64 ((t270.length : Int) - 1))).f1) ((rd_T24 t270 (wrap64 ((t270.length : Int) - 1))).f2) ((rd_T24 t270 (wrap64 ((t270.length : Int) - 1))).f3) ((rd_T24 t270 (wrap64 ((t270.length : Int) - 1))).f4)).bind fun t278 => (spec_l4Mine.j0 k l0 a1 l2 t270 t278 t274 a1 t275 0)) else (none)) else (none)) else (spec_l4Mine.j0 k l0 a1 l2 t270 t273 t274 a1 t275 0)))))
theorem spec_l4Mine.mono_l : ∀ k, (∀ y0 y1 y2 y3 y4 y5 y6 y7 y8, LeO (spec_l4Mine.j0 k y0 y1 y2 y3 y4 y5 y6 y7 y8) (spec_l4Mine.j0 (k + 1) y0 y1 y2 y3 y4 y5 y6 y7 y8)) ∧ (∀ y0 y1 y2 y3 y4 y5 y6 y7, LeO (spec_l4Mine.j1 k y0 y1 y2 y3 y4 y5 y6 y7) (spec_l4Mine.j1 (k + 1) y0 y1 y2 y3 y4 y5 y6 y7))
 | 0 => ⟨fun _ _ _ _ _ _ _ _ _ r h => by simp [spec_l4Mine.j0] at h, fun _ _ _ _ _ _ _ _ r h => by simp [spec_l4Mine.j1] at h⟩
 | k + 1 => by
  obtain ⟨ih0, ih1⟩ := spec_l4Mine.mono_l k
  refine ⟨?_, ?_⟩
  ·intro y0 y1 y2 y3 y4 y5 y6 y7 y8
   unfold spec_l4Mine.j0
   exact mo8 ih0 ih1 spec_l3Mine.mono spec_l3Root.mono spec_l3Sum.mono spec_l4Copy.mono spec_l4Diff.mono spec_l4Heads.mono
  ·intro y0 y1 y2 y3 y4 y5 y6 y7
   unfold spec_l4Mine.j1
   exact mo8 ih0 ih1 spec_l3Mine.mono spec_l3Root.mono spec_l3Sum.mono spec_l4Copy.mono spec_l4Diff.mono spec_l4Heads.mono
theorem spec_l4Mine.mono : ∀ a0 a1 a2 k, LeO (spec_l4Mine.f k a0 a1 a2) (spec_l4Mine.f (k + 1) a0 a1 a2) := by
 intro a0 a1 a2 k
 obtain ⟨ih0, ih1⟩ := spec_l4Mine.mono_l k
 unfold spec_l4Mine.f
 exact mo8 ih0 ih1 spec_l3Mine.mono spec_l3Root.mono spec_l3Sum.mono spec_l4Copy.mono spec_l4Diff.mono spec_l4Heads.mono
def spec_l4Mine.T10 : Bool × List (List Nat × List Nat) := (true, [([], []), ([0], [0]), ([], []), ([], []), ([], []), ([3, 4, 1], [3, 4]), ([2, 5], [2, 5]), ([6], [6]), ([1, 7, 5], [1, 7]), ([8, 8, 0, 1, 2, 3, 4, 5, 6, 7, 8], [8]), ([9, 0, 1, 2, 3, 4, 5, 6, 7, 8, 9], [])])
def spec_l4Mine.B10 : List Nat := [0, 1, 0, 0, 0, 27, 63, 127, 255, 511, 1023]
theorem spec_l4Mine.tab10 : rtab .any (opsOf Tryz.f69 10) = spec_l4Mine.T10 := by kernel_rfl
theorem spec_l4Mine.bits10 : waitsOk spec_l4Mine.T10.2 spec_l4Mine.B10 = true := by kernel_rfl
theorem spec_l4Mine.calls (k : Nat) (P0_ : Nat → Prop) (A0 : Option Addr) (c0 : Nat) (l0 : List (S82)) (a1 : Int) (A2 : Option Addr) (c2 : Nat) (l2 : List ByteArray) (r1 : List (S82)) (r2 : Bool) (w : World) (hs0 : Kd.V k82 82 w w.heap.size (fun k_ => P0_ k_) (.slice A0 l0.length c0) l0) (hr2 : Kd.C Kd.string w A2 l2.length l2) (hc2 : l2.length ≤ c2) (h : spec_l4Mine.f k l0 a1 l2 = some (r1, r2)) :
  Calls Tryz.prog 69 #[.slice A0 l0.length c0, .int .i64 a1, .slice A2 l2.length c2] w fun e w' => ∃ v0_ : Value, e = .returned (.tuple #[v0_, .bool r2]) ∧ Kd.V k82 82 w' w.heap.size (fun k_ => (P0_ k_ ∨ w.heap.size ≤ k_)) v0_ r1 ∧ Below w.heap.size w w' := by
 have hu24 := Tryz.underlying24
 have hu82 := Tryz.underlying82
 have HO0 := Aside0.mk (show Kd.V k82 82 w w.heap.size (fun k_ => (P0_ k_ ∨ w.heap.size ≤ k_)) (.slice A0 l0.length c0) l0 from Kd.V_mono hs0 (fun k_ hk => .inl hk))
 have HR2 := Aside0.mk hr2
 have HC2 := Aside0.mk hc2
 clear hr2 hc2
 have HB := Aside0.mk (Below.refl w.heap.size w)
 have H : ((spec_l4Heads.f k l0).bind fun t270 => ((spec_l4Zero.f).bind fun t273 => ((spec_l3Root.f k l2).bind fun t274 => ((spec_l4Diff.f k t270).bind fun t275 => (if (l0.length : Int) > 0 then (if 0 ≤ (wrap64 ((t270.length : Int) - 1)) then (if (wrap64 ((t270.length : Int) - 1)) < (t270.length : Int) then ((spec_l3Sum.f k ((rd_T24 t270 (wrap64 ((t270.length : Int) - 1))).f0) ((rd_T24 t270 (wrap64 ((t270.length : Int) - 1))).f1) ((rd_T24 t270 (wrap64 ((t270.length : Int) - 1))).f2) ((rd_T24 t270 (wrap64 ((t270.length : Int) - 1))).f3) ((rd_T24 t270 (wrap64 ((t270.length : Int) - 1))).f4)).bind fun t278 => (spec_l4Mine.j0 k l0 a1 l2 t270 t278 t274 a1 t275 0)) else (none)) else (none)) else (spec_l4Mine.j0 k l0 a1 l2 t270 t273 t274 a1 t275 0)))))) = some (r1, r2) := h
 clear h
 replace H := oa H
 obtain ⟨t270, A4, H⟩ := H
 replace H := oa H
 obtain ⟨t273, A5, H⟩ := H
 replace H := oa H
 obtain ⟨t274, A6, H⟩ := H
 replace H := oa H
 obtain ⟨t275, A7, H⟩ := H
 have HC8 := Aside0.mk H
 clear H
 go_enter Tryz.func69, Tryz.ntmps69
 go_upto_if 23 with (first | ((with_reducible refine gg ?_); first | (refine gL 13 Tryz.func44 #[.slice A0 l0.length c0] ?_; (with_reducible refine (spec_l4Heads.calls k _ _ l0 t270 _ ?side1 ?side2 A4.out).mono ?_); (case side1 => exact cr (Kd.V_reads' HO0.out).2.2); (case side2 => exact (Kd.V_reads' HO0.out).2.1); rintro e w9 ⟨v271, rfl, ho0, hb⟩; refine ⟨_, rfl, ?_⟩; replace HO0 := am (Kd.V_elder' (va HO0) (Kd.R_base ho0) hb); have HO272 := am (Kd.R_lower (Kd.R_newM (M := fun k_ => (w.heap.size ≤ k_)) ho0 (below_size (bl HB)) (fun k_ h_ => h_)) (below_size (bl HB))); replace HB := kH HB hb; (try clear hb); (try clear ho0)) | (refine gL 14 Tryz.func84 #[] ?_; (with_reducible refine (spec_l4Zero.calls  t273 _ A5.out).mono ?_); rintro e w' ⟨rfl, ⟨nd, rfl⟩⟩; refine ⟨_, rfl, ?_⟩; (try (rw [drewN_self w9]; generalize hq_ : World.drewN w9 _ = w9; have n0_ := dV hq_ HO0; have n1_ := dM hq_ HO272 (fun _ hk => hk.1); have n2_ := dB hq_ HB; clear HO0 HO272 HB hq_; have HO0 := n0_; have HO272 := n1_; have HB := n2_; clear n0_ n1_ n2_))) | (refine gL 16 Tryz.func85 #[.slice A2 l2.length c2] ?_; (with_reducible refine (spec_l3Root.calls k _ _ l2 t274 _ ?side1 ?side2 A6.out).mono ?_); (case side1 => exact cb HR2 HB); (case side2 => exact HC2.out); rintro e w10 ⟨rfl, hb⟩; refine ⟨_, rfl, ?_⟩; replace HO0 := am (Kd.V_below (va HO0) hb); replace HO272 := rk HO272 hb; replace HB := kH HB hb; (try clear hb); obtain ⟨Ao11, co11, eo11⟩ := Kd.R_slice HO272.out; subst eo11) | (refine gL 19 Tryz.func86 #[.slice Ao11 t270.length co11] ?_; (with_reducible refine (spec_l4Diff.calls k _ _ t270 t275 _ ?side1 ?side2 A7.out).mono ?_); (case side1 => exact cr (Kd.R_reads' HO272.out).2.2); (case side2 => exact sl HO272); rintro e w' ⟨rfl, ⟨nd, rfl⟩⟩; refine ⟨_, rfl, ?_⟩; (try (rw [drewN_self w10]; generalize hq_ : World.drewN w10 _ = w10; have n0_ := dV hq_ HO0; have n1_ := dM hq_ HO272 (fun _ hk => hk.1); have n2_ := dB hq_ HB; clear HO0 HO272 HB hq_; have HO0 := n0_; have HO272 := n1_; have HB := n2_; clear n0_ n1_ n2_)))) | ((with_reducible refine gate_dst (N := 9) rfl ?_); (try (refine gate_guard (by rfl) ?_; dsimp only)); refine box_event ?hg (N := 9) ?hd (cs := #[.string (⟨#[]⟩ : ByteArray), .string (⟨#[]⟩ : ByteArray), .int .i64 0, .int .i64 0, .int .i64 0]) (t := 24) ?hr ?_; (case hd => rfl); (case hg => rfl); (case hr => first | (go_simp; done) | (go_simp; rfl)); intro gb276 hg w12 hbox hb; replace HO0 := am (Kd.V_below (Kd.V_elderB (va HO0) gb276 (Nat.le_of_eq hg.symm)) hb); replace HO272 := am (Kd.R_below (Kd.R_elderB (ra HO272) gb276 (Nat.le_of_eq hg.symm)) hb); have BK276 := am (hbox); have GW276 := zB hg HB; have GE276 := zB hg HB; replace HB := kH HB hb; clear hb hbox hg; have hz13 := bc5 BK276))
 (try simp only [Act.put, sa, s0, s1])
 go_cut [] (fun wc => ∃ (kq : Nat) (x277000_7 : ByteArray), Aside0 (spec_l4Mine.j0 kq l0 a1 l2 t270 x277000_7 t274 a1 t275 0 = some (r1, r2)) ∧ Aside0 (kq ≤ k) ∧ Aside0 (Kd.V k82 82 wc w.heap.size (fun k_ => (P0_ k_ ∨ w.heap.size ≤ k_) ∧ some k_ ≠ ((.slice Ao11 t270.length co11) : Value).ownBlock ∧ k_ ≠ gb276) (.slice A0 l0.length c0) l0) ∧ Aside0 (Kd.R k24 24 wc w.heap.size (fun k_ => (w.heap.size ≤ k_) ∧ k_ ≠ gb276) (.slice Ao11 t270.length co11) t270) ∧ Aside0 (wc.heap[gb276]? = some (.cells #[.string x277000_7, .string t274, .int .i64 a1, .int .i64 t275, .int .i64 0] 24 (0, 0))) ∧ Aside0 (Below w.heap.size w wc))
 case first =>
  have H := HC8.out
  clear HC8
  by_cases c14 : (l0.length : Int) > 0
  rotate_left
  ·rw [if_neg c14] at H
   have c14b0 := decide_eq_false c14
   have c14b1 : decide (0 < l0.length) = false := decide_eq_false (by omega)
   clear c14
   (first | rw [c14b0] | rw [c14b1] | (simp only [i64_w, i32_w]; rw [c14b0]) | skip)
   have H' := Aside0.mk H
   clear H
   go_wp2
   go_meet
   case rel => exact ⟨_, (t273), H', ⟨xO⟩, ⟨by (with_reducible repeat (first | apply Kd.V_alloc | apply Kd.V_drewN | apply Kd.V_drew)); exact Kd.V_mono (Kd.V_far (p := ⟨gb276, 4, none⟩) (Kd.V_far (p := ⟨gb276, 3, none⟩) (Kd.V_far (p := ⟨gb276, 2, none⟩) (Kd.V_far (p := ⟨gb276, 1, none⟩) (Kd.V_far (p := ⟨gb276, 0, none⟩) (Kd.V_mono HO0.out (fun k_ hk => (⟨hk, hk.2⟩ : _ ∧ k_ ≠ gb276))) (fun _ hk => hk.2) (.string t273)) (fun _ hk => hk.2) (.string t274)) (fun _ hk => hk.2) (.int .i64 a1)) (fun _ hk => hk.2) (.int .i64 t275)) (fun _ hk => hk.2) (.int .i64 0)) (fun _ hk => ⟨hk.1.1.1, ⟨hk.1.1.2, hk.1.2⟩⟩)⟩, ⟨by (with_reducible repeat (first | apply Kd.R_alloc | apply Kd.R_drewN | apply Kd.R_drew)); exact Kd.R_mono (Kd.R_far (p := ⟨gb276, 4, none⟩) (Kd.R_far (p := ⟨gb276, 3, none⟩) (Kd.R_far (p := ⟨gb276, 2, none⟩) (Kd.R_far (p := ⟨gb276, 1, none⟩) (Kd.R_far (p := ⟨gb276, 0, none⟩) (Kd.R_mono HO272.out (fun k_ hk => (⟨hk, hk.2⟩ : _ ∧ k_ ≠ gb276))) (fun _ hk => hk.2) (.string t273)) (fun _ hk => hk.2) (.string t274)) (fun _ hk => hk.2) (.int .i64 a1)) (fun _ hk => hk.2) (.int .i64 t275)) (fun _ hk => hk.2) (.int .i64 0)) (fun _ hk => ⟨hk.1.1, hk.1.2⟩)⟩, ⟨fb BK276⟩, ⟨xB HB⟩⟩
  rw [if_pos c14] at H
  have c14b0 := decide_eq_true c14
  have c14b1 : decide (0 < l0.length) = true := decide_eq_true (by omega)
  clear c14
  (first | rw [c14b0] | rw [c14b1] | (simp only [i64_w, i32_w]; rw [c14b0]) | skip)
  obtain ⟨ji15, hji15⟩ := je (wrap64 ((t270.length : Int) - 1))
  first | rw [hji15] at H | simp only [hji15] at H
  have hji15w : (IntKind.i64.wrap ((t270.length : Int) - 1)) = ji15 := (i64_w _).trans hji15
  replace H := ipd H
  obtain ⟨c16b0, H⟩ := H
  replace H := ipd H
  obtain ⟨c17b0, H⟩ := H
  replace H := oa H
  obtain ⟨t278, A18, H⟩ := H
  have H' := Aside0.mk H
  clear H
  have p277 : 0 ≤ ((ji15) : Int) := of_decide_eq_true xA
  have q277 : (ji15) < (t270.length : Int) := of_decide_eq_true xA
  obtain ⟨ad277, e277, hx277_0, hx277_1, hx277_2, hx277_3, hx277_4⟩ := at_T24 (Kd.R_reads' HO272.out).2.2 (ji15) p277 q277
  cases e277
  have hn277_0 : ad277.block ≠ gb276 := Kd.own_blk (Kd.R_away HO272.out (fun _ hk => hk.2))
  have hn277_1 : ad277.block ≠ gb276 := Kd.own_blk (Kd.R_away HO272.out (fun _ hk => hk.2))
  have hn277_2 : ad277.block ≠ gb276 := Kd.own_blk (Kd.R_away HO272.out (fun _ hk => hk.2))
  have hn277_3 : ad277.block ≠ gb276 := Kd.own_blk (Kd.R_away HO272.out (fun _ hk => hk.2))
  have hn277_4 : ad277.block ≠ gb276 := Kd.own_blk (Kd.R_away HO272.out (fun _ hk => hk.2))
  replace hx277_0 := (cell_far (p := ⟨gb276, 0, none⟩) (by first | (rw [add_block]; exact hn277_0) | (show (Addr.add _ _).block ≠ _; rw [add_block]; exact hn277_0) | exact hn277_0) (.string t273)).trans hx277_0
  replace hx277_1 := (cell_far (p := ⟨gb276, 0, none⟩) (by first | (rw [add_block]; exact hn277_0) | (show (Addr.add _ _).block ≠ _; rw [add_block]; exact hn277_0) | exact hn277_0) (.string t273)).trans hx277_1
  replace hx277_2 := (cell_far (p := ⟨gb276, 0, none⟩) (by first | (rw [add_block]; exact hn277_0) | (show (Addr.add _ _).block ≠ _; rw [add_block]; exact hn277_0) | exact hn277_0) (.string t273)).trans hx277_2
  replace hx277_3 := (cell_far (p := ⟨gb276, 0, none⟩) (by first | (rw [add_block]; exact hn277_0) | (show (Addr.add _ _).block ≠ _; rw [add_block]; exact hn277_0) | exact hn277_0) (.string t273)).trans hx277_3
  replace hx277_4 := (cell_far (p := ⟨gb276, 0, none⟩) (by first | (rw [add_block]; exact hn277_0) | (show (Addr.add _ _).block ≠ _; rw [add_block]; exact hn277_0) | exact hn277_0) (.string t273)).trans hx277_4
  replace hx277_0 := (cell_far (p := ⟨gb276, 1, none⟩) (by first | (rw [add_block]; exact hn277_1) | (show (Addr.add _ _).block ≠ _; rw [add_block]; exact hn277_1) | exact hn277_1) (.string t274)).trans hx277_0
  replace hx277_1 := (cell_far (p := ⟨gb276, 1, none⟩) (by first | (rw [add_block]; exact hn277_1) | (show (Addr.add _ _).block ≠ _; rw [add_block]; exact hn277_1) | exact hn277_1) (.string t274)).trans hx277_1
  replace hx277_2 := (cell_far (p := ⟨gb276, 1, none⟩) (by first | (rw [add_block]; exact hn277_1) | (show (Addr.add _ _).block ≠ _; rw [add_block]; exact hn277_1) | exact hn277_1) (.string t274)).trans hx277_2
  replace hx277_3 := (cell_far (p := ⟨gb276, 1, none⟩) (by first | (rw [add_block]; exact hn277_1) | (show (Addr.add _ _).block ≠ _; rw [add_block]; exact hn277_1) | exact hn277_1) (.string t274)).trans hx277_3
  replace hx277_4 := (cell_far (p := ⟨gb276, 1, none⟩) (by first | (rw [add_block]; exact hn277_1) | (show (Addr.add _ _).block ≠ _; rw [add_block]; exact hn277_1) | exact hn277_1) (.string t274)).trans hx277_4
  replace hx277_0 := (cell_far (p := ⟨gb276, 2, none⟩) (by first | (rw [add_block]; exact hn277_2) | (show (Addr.add _ _).block ≠ _; rw [add_block]; exact hn277_2) | exact hn277_2) (.int .i64 a1)).trans hx277_0
  replace hx277_1 := (cell_far (p := ⟨gb276, 2, none⟩) (by first | (rw [add_block]; exact hn277_2) | (show (Addr.add _ _).block ≠ _; rw [add_block]; exact hn277_2) | exact hn277_2) (.int .i64 a1)).trans hx277_1
  replace hx277_2 := (cell_far (p := ⟨gb276, 2, none⟩) (by first | (rw [add_block]; exact hn277_2) | (show (Addr.add _ _).block ≠ _; rw [add_block]; exact hn277_2) | exact hn277_2) (.int .i64 a1)).trans hx277_2
  replace hx277_3 := (cell_far (p := ⟨gb276, 2, none⟩) (by first | (rw [add_block]; exact hn277_2) | (show (Addr.add _ _).block ≠ _; rw [add_block]; exact hn277_2) | exact hn277_2) (.int .i64 a1)).trans hx277_3
  replace hx277_4 := (cell_far (p := ⟨gb276, 2, none⟩) (by first | (rw [add_block]; exact hn277_2) | (show (Addr.add _ _).block ≠ _; rw [add_block]; exact hn277_2) | exact hn277_2) (.int .i64 a1)).trans hx277_4
  replace hx277_0 := (cell_far (p := ⟨gb276, 3, none⟩) (by first | (rw [add_block]; exact hn277_3) | (show (Addr.add _ _).block ≠ _; rw [add_block]; exact hn277_3) | exact hn277_3) (.int .i64 t275)).trans hx277_0
  replace hx277_1 := (cell_far (p := ⟨gb276, 3, none⟩) (by first | (rw [add_block]; exact hn277_3) | (show (Addr.add _ _).block ≠ _; rw [add_block]; exact hn277_3) | exact hn277_3) (.int .i64 t275)).trans hx277_1
  replace hx277_2 := (cell_far (p := ⟨gb276, 3, none⟩) (by first | (rw [add_block]; exact hn277_3) | (show (Addr.add _ _).block ≠ _; rw [add_block]; exact hn277_3) | exact hn277_3) (.int .i64 t275)).trans hx277_2
  replace hx277_3 := (cell_far (p := ⟨gb276, 3, none⟩) (by first | (rw [add_block]; exact hn277_3) | (show (Addr.add _ _).block ≠ _; rw [add_block]; exact hn277_3) | exact hn277_3) (.int .i64 t275)).trans hx277_3
  replace hx277_4 := (cell_far (p := ⟨gb276, 3, none⟩) (by first | (rw [add_block]; exact hn277_3) | (show (Addr.add _ _).block ≠ _; rw [add_block]; exact hn277_3) | exact hn277_3) (.int .i64 t275)).trans hx277_4
  replace hx277_0 := (cell_far (p := ⟨gb276, 4, none⟩) (by first | (rw [add_block]; exact hn277_4) | (show (Addr.add _ _).block ≠ _; rw [add_block]; exact hn277_4) | exact hn277_4) (.int .i64 0)).trans hx277_0
  replace hx277_1 := (cell_far (p := ⟨gb276, 4, none⟩) (by first | (rw [add_block]; exact hn277_4) | (show (Addr.add _ _).block ≠ _; rw [add_block]; exact hn277_4) | exact hn277_4) (.int .i64 0)).trans hx277_1
  replace hx277_2 := (cell_far (p := ⟨gb276, 4, none⟩) (by first | (rw [add_block]; exact hn277_4) | (show (Addr.add _ _).block ≠ _; rw [add_block]; exact hn277_4) | exact hn277_4) (.int .i64 0)).trans hx277_2
  replace hx277_3 := (cell_far (p := ⟨gb276, 4, none⟩) (by first | (rw [add_block]; exact hn277_4) | (show (Addr.add _ _).block ≠ _; rw [add_block]; exact hn277_4) | exact hn277_4) (.int .i64 0)).trans hx277_3
  replace hx277_4 := (cell_far (p := ⟨gb276, 4, none⟩) (by first | (rw [add_block]; exact hn277_4) | (show (Addr.add _ _).block ≠ _; rw [add_block]; exact hn277_4) | exact hn277_4) (.int .i64 0)).trans hx277_4
  clear hn277_0
  clear hn277_1
  clear hn277_2
  clear hn277_3
  clear hn277_4
  replace p277 := eq_true p277
  replace q277 := eq_true q277
  generalize hW_ : World.setCell _ ⟨gb276, 4, none⟩ _ = wq_ at hx277_0 hx277_1 hx277_2 hx277_3 hx277_4 ⊢
  replace hW_ := hW_.symm
  have BQ_ := am hW_
  have hzq_ := am hW_
  replace hW_ := am hW_
  go_wp2_with ((with_reducible refine gate_callee (f := 87) rfl ?_); refine goesL_ (some 30) rfl rfl Tryz.func87 (by kernel_rfl) rfl #[.agg #[.string ((rd_T24 t270 (ji15)).f0), .string ((rd_T24 t270 (ji15)).f1), .int .i64 ((rd_T24 t270 (ji15)).f2), .int .i64 ((rd_T24 t270 (ji15)).f3), .int .i64 ((rd_T24 t270 (ji15)).f4)]] rfl (by (try simp only [List.map_toArray, List.map_cons, List.map_nil]); first | done | (simp only [hji15]; rfl) | rfl | (simp only [List.length_drop, List.length_take]; rfl)) ?_; (try (clear hzq_ BQ_; obtain ⟨hW_⟩ := hW_; subst hW_)); (with_reducible refine (spec_l3Sum.calls k ((rd_T24 t270 (ji15)).f0) ((rd_T24 t270 (ji15)).f1) ((rd_T24 t270 (ji15)).f2) ((rd_T24 t270 (ji15)).f3) ((rd_T24 t270 (ji15)).f4) t278 _ A18.out).mono ?_); rintro e w19 ⟨rfl, hb⟩; refine ⟨_, rfl, ?_⟩; replace HO0 := am (Kd.V_below (by (with_reducible repeat (first | apply Kd.V_alloc | apply Kd.V_drewN | apply Kd.V_drew)); exact (Kd.V_mono (Kd.V_far (p := ⟨gb276, 4, none⟩) (Kd.V_far (p := ⟨gb276, 3, none⟩) (Kd.V_far (p := ⟨gb276, 2, none⟩) (Kd.V_far (p := ⟨gb276, 1, none⟩) (Kd.V_far (p := ⟨gb276, 0, none⟩) (Kd.V_mono HO0.out (fun k_ hk => (⟨hk, hk.2⟩ : _ ∧ k_ ≠ gb276))) (fun _ hk => hk.2) (.string t273)) (fun _ hk => hk.2) (.string t274)) (fun _ hk => hk.2) (.int .i64 a1)) (fun _ hk => hk.2) (.int .i64 t275)) (fun _ hk => hk.2) (.int .i64 0)) (fun _ h_ => h_.1))) hb); replace HO272 := am (Kd.R_below (by (with_reducible repeat (first | apply Kd.R_alloc | apply Kd.R_drewN | apply Kd.R_drew)); exact (Kd.R_mono (Kd.R_far (p := ⟨gb276, 4, none⟩) (Kd.R_far (p := ⟨gb276, 3, none⟩) (Kd.R_far (p := ⟨gb276, 2, none⟩) (Kd.R_far (p := ⟨gb276, 1, none⟩) (Kd.R_far (p := ⟨gb276, 0, none⟩) (Kd.R_mono HO272.out (fun k_ hk => (⟨hk, hk.2⟩ : _ ∧ k_ ≠ gb276))) (fun _ hk => hk.2) (.string t273)) (fun _ hk => hk.2) (.string t274)) (fun _ hk => hk.2) (.int .i64 a1)) (fun _ hk => hk.2) (.int .i64 t275)) (fun _ hk => hk.2) (.int .i64 0)) (fun _ h_ => h_.1))) hb); replace BK276 := kP (.cells #[.string t273, .string t274, .int .i64 a1, .int .i64 t275, .int .i64 0] 24 (0, 0)) BK276 hb; replace HB := kH HB hb; (try clear hb); have hz20 := bc5 BK276)
  (try (clear hzq_ BQ_; obtain ⟨hW_⟩ := hW_; subst hW_))
  go_meet
  case rel => exact ⟨_, (t278), H', ⟨xO⟩, ⟨by (with_reducible repeat (first | apply Kd.V_alloc | apply Kd.V_drewN | apply Kd.V_drew)); exact Kd.V_mono (Kd.V_far (p := ⟨gb276, 0, none⟩) (Kd.V_mono HO0.out (fun k_ hk => (⟨hk, hk.2⟩ : _ ∧ k_ ≠ gb276))) (fun _ hk => hk.2) (.string t278)) (fun _ hk => ⟨hk.1.1.1, ⟨hk.1.1.2, hk.1.2⟩⟩)⟩, ⟨by (with_reducible repeat (first | apply Kd.R_alloc | apply Kd.R_drewN | apply Kd.R_drew)); exact Kd.R_mono (Kd.R_far (p := ⟨gb276, 0, none⟩) (Kd.R_mono HO272.out (fun k_ hk => (⟨hk, hk.2⟩ : _ ∧ k_ ≠ gb276))) (fun _ hk => hk.2) (.string t278)) (fun _ hk => ⟨hk.1.1, hk.1.2⟩)⟩, ⟨fb BK276⟩, ⟨xB HB⟩⟩
 case rest =>
  clear HC8
  try clear c1
  try clear c2
  try clear p2
  try clear q2
  try clear hx2
  try clear c4
  try clear c6
  try clear p6
  try clear c8
  try clear c14
  try clear c14b0
  try clear c14b1
  try clear c16
  try clear c16b0
  try clear c17
  try clear c17b0
  try clear hz13
  try clear hz20
  try clear hx277_0
  try clear hx277_1
  try clear hx277_2
  try clear hx277_3
  try clear hx277_4
  try clear p277
  try clear q277
  obtain ⟨kq, x277000_7, HA, HJ7, HO_0, HO_8, BK276, HB⟩ := hcut
  cases kq with
  | zero => exact absurd HA.out (by simp [spec_l4Mine.j0])
  | succ kj7 =>
   have H := HA.out
   clear HA
   simp only [spec_l4Mine.j0] at H
   have HC21 := Aside0.mk H
   clear H
   go_upto_region 5 with (fail)
   (try (clear hzq_ BQ_; obtain ⟨hW_⟩ := hW_; subst hW_))
   go_cut [55] (fun v55 wc => ∃ (kq : Nat) (x55_20 : Bool), v55 = .bool x55_20 ∧ Aside0 (spec_l4Mine.j1 kq l0 l2 x55_20 x277000_7 t274 a1 t275 0 = some (r1, r2)) ∧ Aside0 (kq ≤ kj7) ∧ Aside0 (Kd.V k82 82 wc w.heap.size (fun k_ => (P0_ k_ ∨ w.heap.size ≤ k_) ∧ k_ ≠ gb276) (.slice A0 l0.length c0) l0) ∧ Aside0 (wc.heap[gb276]? = some (.cells #[.string x277000_7, .string t274, .int .i64 a1, .int .i64 t275, .int .i64 0] 24 (0, 0))) ∧ Aside0 (Below w.heap.size w wc))
   case first =>
    have H := HC21.out
    clear HC21
    by_cases c22 : (l0.length : Int) ≥ 20
    ·rw [if_pos c22] at H
     have c22b0 := decide_eq_true c22
     have c22b1 : decide (20 ≤ l0.length) = true := decide_eq_true (by omega)
     clear c22
     (first | rw [c22b0] | rw [c22b1] | (simp only [i64_w, i32_w]; rw [c22b0]) | skip)
     have H' := Aside0.mk H
     clear H
     go_wp2
     (try (clear hzq_ BQ_; obtain ⟨hW_⟩ := hW_; subst hW_))
     go_meet
     case rel => exact ⟨_, (true), xR, H', ⟨by have := HJ7.out; first | omega | exact Nat.le_refl _⟩, ⟨by (with_reducible repeat (first | apply Kd.V_alloc | apply Kd.V_drewN | apply Kd.V_drew)); exact Kd.V_mono HO_0.out (fun _ hk => ⟨hk.1, hk.2.2⟩)⟩, ⟨kb BK276⟩, ⟨xB HB⟩⟩
    rw [if_neg c22] at H
    have c22b0 := decide_eq_false c22
    have c22b1 : decide (20 ≤ l0.length) = false := decide_eq_false (by omega)
    clear c22
    (first | rw [c22b0] | rw [c22b1] | (simp only [i64_w, i32_w]; rw [c22b0]) | skip)
    replace H := oa H
    obtain ⟨t279, A23, H⟩ := H
    by_cases c24 : t279 = true
    rotate_left
    ·replace c24 := Bool.eq_false_iff.mpr c24
     subst c24
     rw [if_neg (show ¬ (false = true) by decide)] at H
     have H' := Aside0.mk H
     clear H
     go_wp2_with (go_at_call 56; (try (clear hzq_ BQ_; obtain ⟨hW_⟩ := hW_; subst hW_)); (with_reducible refine (spec_l1In.calls a1 0 99999 false _ A23.out).mono ?_); rintro e w' ⟨rfl, ⟨nd, rfl⟩⟩)
     (try (clear hzq_ BQ_; obtain ⟨hW_⟩ := hW_; subst hW_))
     go_meet
     case rel => exact ⟨_, (true), xR, H', ⟨by have := HJ7.out; first | omega | exact Nat.le_refl _⟩, ⟨by (with_reducible repeat (first | apply Kd.V_alloc | apply Kd.V_drewN | apply Kd.V_drew)); exact Kd.V_mono HO_0.out (fun _ hk => ⟨hk.1, hk.2.2⟩)⟩, ⟨kb BK276⟩, ⟨xB HB⟩⟩
    subst c24
    rw [if_pos rfl] at H
    by_cases c25 : (l0.length : Int) > 0
    rotate_left
    ·rw [if_neg c25] at H
     have c25b0 := decide_eq_false c25
     have c25b1 : decide (0 < l0.length) = false := decide_eq_false (by omega)
     clear c25
     have H' := Aside0.mk H
     clear H
     go_wp2_with (go_at_call 56; (try (clear hzq_ BQ_; obtain ⟨hW_⟩ := hW_; subst hW_)); (with_reducible refine (spec_l1In.calls a1 0 99999 true _ A23.out).mono ?_); rintro e w' ⟨rfl, ⟨nd, rfl⟩⟩)
     (try (clear hzq_ BQ_; obtain ⟨hW_⟩ := hW_; subst hW_))
     go_meet
     case rel => exact ⟨_, (false), xR, H', ⟨by have := HJ7.out; first | omega | exact Nat.le_refl _⟩, ⟨by (with_reducible repeat (first | apply Kd.V_alloc | apply Kd.V_drewN | apply Kd.V_drew)); exact Kd.V_mono HO_0.out (fun _ hk => ⟨hk.1, hk.2.2⟩)⟩, ⟨kb BK276⟩, ⟨xB HB⟩⟩
    rw [if_pos c25] at H
    have c25b0 := decide_eq_true c25
    have c25b1 : decide (0 < l0.length) = true := decide_eq_true (by omega)
    clear c25
    obtain ⟨ji26, hji26⟩ := je (wrap64 ((t270.length : Int) - 1))
    first | rw [hji26] at H | simp only [hji26] at H
    (try rw [hji26] at A23)
    have hji26w : (IntKind.i64.wrap ((t270.length : Int) - 1)) = ji26 := (i64_w _).trans hji26
    replace H := ipd H
    obtain ⟨c27b0, H⟩ := H
    replace H := ipd H
    obtain ⟨c28b0, H⟩ := H
    have H' := Aside0.mk H
    clear H
    go_wp2_with (go_at_call 56; (try (clear hzq_ BQ_; obtain ⟨hW_⟩ := hW_; subst hW_)); (with_reducible refine (spec_l1In.calls a1 0 99999 true _ A23.out).mono ?_); rintro e w' ⟨rfl, ⟨nd, rfl⟩⟩; have p280 : 0 ≤ ((ji26) : Int) := of_decide_eq_true xA; have q280 : (ji26) < (t270.length : Int) := of_decide_eq_true xA; obtain ⟨ad280, e280, hx280_0, hx280_1, hx280_2, hx280_3, hx280_4⟩ := at_T24 (Kd.R_reads' HO_8.out).2.2 (ji26) p280 q280; cases e280; replace p280 := eq_true p280; replace q280 := eq_true q280)
    (try (clear hzq_ BQ_; obtain ⟨hW_⟩ := hW_; subst hW_))
    go_meet
    case rel => exact ⟨_, (decide (a1 ≤ ((rd_T24 t270 (ji26)).f2))), (by first | rfl | (simp; done) | (simp only [← hji26] <;> (first | rfl | simp)) | (simp [*]; done)), H', ⟨by have := HJ7.out; first | omega | exact Nat.le_refl _⟩, ⟨by (with_reducible repeat (first | apply Kd.V_alloc | apply Kd.V_drewN | apply Kd.V_drew)); exact Kd.V_mono HO_0.out (fun _ hk => ⟨hk.1, hk.2.2⟩)⟩, ⟨kb BK276⟩, ⟨xB HB⟩⟩
   case rest =>
    clear HC21
    try clear c1
    try clear c2
    try clear p2
    try clear q2
    try clear hx2
    try clear c4
    try clear c6
    try clear p6
    try clear c8
    try clear c14
    try clear c14b0
    try clear c14b1
    try clear c16
    try clear c16b0
    try clear c17
    try clear c17b0
    try clear c22
    try clear c22b0
    try clear c22b1
    try clear c24
    try clear c25
    try clear c25b0
    try clear c25b1
    try clear c27
    try clear c27b0
    try clear p27
    try clear q27
    try clear hx27
    try clear c28
    try clear c28b0
    try clear p28
    try clear q28
    try clear hx28
    try clear hz13
    try clear hz20
    try clear hx277_0
    try clear hx277_1
    try clear hx277_2
    try clear hx277_3
    try clear hx277_4
    try clear hx280_0
    try clear hx280_1
    try clear hx280_2
    try clear hx280_3
    try clear hx280_4
    try clear p2
    try clear p277
    try clear p280
    try clear p6
    try clear q2
    try clear q277
    try clear q280
    obtain ⟨kq, x55_20, rfl, HA, HJ20, HO_0, BK276, HB⟩ := hcut
    cases kq with
    | zero => exact absurd HA.out (by simp [spec_l4Mine.j1])
    | succ kj20 =>
     have H := HA.out
     clear HA
     simp only [spec_l4Mine.j1] at H
     by_cases c29 : x55_20 = true
     ·subst c29
      rw [if_pos rfl] at H
      simp only [Option.some.injEq, Prod.mk.injEq] at H
      obtain ⟨rfl, rfl⟩ := H
      go_wp2
      (try (clear hzq_ BQ_; obtain ⟨hW_⟩ := hW_; subst hW_))
      go_ret2
      exact ⟨_, xE, by (with_reducible repeat (first | apply Kd.V_alloc | apply Kd.V_drewN | apply Kd.V_drew)); exact Kd.V_mono HO_0.out (fun _ hk => hk.1), xB HB⟩
     replace c29 := Bool.eq_false_iff.mpr c29
     subst c29
     rw [if_neg (show ¬ (false = true) by decide)] at H
     replace H := Option.bind_eq_some_iff.mp H
     obtain ⟨⟨t281, t282, t283, t284, t285, t286⟩, A300, H⟩ := H
     have A30 := Aside0.mk A300
     clear A300
     (first | have hz35 := bc5 (kF _ BK276 hW_.out) | have hz35 := bc5 BK276)
     go_upto_if 63 with (first | ((with_reducible refine gg ?_); refine gL 59 Tryz.func88 #[.agg #[.string x277000_7, .string t274, .int .i64 a1, .int .i64 t275, .int .i64 0]] ?_; (try (clear hzq_ BQ_; obtain ⟨hW_⟩ := hW_; subst hW_)); (with_reducible refine (spec_l3Mine.calls kj20 x277000_7 t274 a1 t275 0 t281 t282 t283 t284 t285 t286 _ A30.out).mono ?_); rintro e w36 ⟨rfl, hb⟩; refine ⟨_, rfl, ?_⟩; replace HO_0 := am (Kd.V_below (va HO_0) hb); replace BK276 := kP _ BK276 hb; replace HB := kH HB hb; (try clear hb)) | ((with_reducible refine gate_dst (N := 10) rfl ?_); (try (refine gate_guard (by rfl) ?_; dsimp only)); refine box_event ?hg (N := 10) ?hd (cs := #[.string (⟨#[]⟩ : ByteArray), .string (⟨#[]⟩ : ByteArray), .int .i64 0, .int .i64 0, .int .i64 0]) (t := 24) ?hr ?_; (try (clear hzq_ BQ_; obtain ⟨hW_⟩ := hW_; subst hW_)); (case hd => rfl); (case hg => rfl); (case hr => first | (go_simp; done) | (go_simp; rfl)); intro gb287 hg w37 hbox hb; replace HO_0 := am (Kd.V_below (Kd.V_elderB (va HO_0) gb287 (Nat.le_of_eq hg.symm)) hb); have BK287 := am (hbox); have GW287 := zB hg HB; have GE287 := zB hg HB; replace HB := kH HB hb; have NB276_287 := nl hg (kb BK276); have NB287_276 := ng hg (kb BK276); replace BK276 := kP _ BK276 hb; clear hb hbox hg; have hnb38 := NB287_276.out; have hnc38 := NB276_287.out; have hz39 := bc5 BK287))
     by_cases c31 : t286 = true
     rotate_left
     ·replace c31 := Bool.eq_false_iff.mpr c31
      subst c31
      try simp only [Bool.not_true, Bool.not_false]
      rw [if_neg (show ¬ (false = true) by decide)] at H
      simp only [Option.some.injEq, Prod.mk.injEq] at H
      obtain ⟨rfl, rfl⟩ := H
      go_wp2
      (try (clear hzq_ BQ_; obtain ⟨hW_⟩ := hW_; subst hW_))
      go_ret2
      exact ⟨_, xE, by (with_reducible repeat (first | apply Kd.V_alloc | apply Kd.V_drewN | apply Kd.V_drew)); exact Kd.V_mono (Kd.V_far (p := ⟨gb287, 4, none⟩) (Kd.V_far (p := ⟨gb287, 3, none⟩) (Kd.V_far (p := ⟨gb287, 2, none⟩) (Kd.V_far (p := ⟨gb287, 1, none⟩) (Kd.V_far (p := ⟨gb287, 0, none⟩) (Kd.V_mono HO_0.out (fun k_ hk => (⟨hk, hk.2⟩ : _ ∧ k_ ≠ gb287))) (fun _ hk => hk.2) (.string t281)) (fun _ hk => hk.2) (.string t282)) (fun _ hk => hk.2) (.int .i64 t283)) (fun _ hk => hk.2) (.int .i64 t284)) (fun _ hk => hk.2) (.int .i64 t285)) (fun _ hk => hk.1.1.1), xB HB⟩
     subst c31
     try simp only [Bool.not_true, Bool.not_false]
     rw [if_pos rfl] at H
     replace H := oa H
     obtain ⟨t288, A32, H⟩ := H
     obtain ⟨y291, Ny291⟩ := yA (([] : List ByteArray) : List ByteArray)
     rw [← Ny291.out] at H
     replace H := ipa H
     obtain ⟨LMc33, H⟩ := H
     obtain ⟨y294, Ny294⟩ := yA (y291 ++ l2 : List ByteArray)
     rw [← Ny294.out] at H
     replace H := ipa H
     obtain ⟨LMc34, H⟩ := H
     obtain ⟨y297, Ny297⟩ := yA (t288 ++ [(⟨(⟨t281, t282, t283, t284, t285⟩ : S24), y294⟩ : S82)] : List (S82))
     rw [← Ny297.out] at H
     simp only [Option.some.injEq, Prod.mk.injEq] at H
     obtain ⟨rfl, rfl⟩ := H
     try go_wp2
     have n0_ : Aside0 (Kd.V k82 82 (((((w37.setCell ⟨gb287, 0, none⟩ (.string t281)).setCell ⟨gb287, 1, none⟩ (.string t282)).setCell ⟨gb287, 2, none⟩ (.int .i64 t283)).setCell ⟨gb287, 3, none⟩ (.int .i64 t284)).setCell ⟨gb287, 4, none⟩ (.int .i64 t285)) w.heap.size (fun k_ => (P0_ k_ ∨ w.heap.size ≤ k_) ∧ k_ ≠ gb276 ∧ k_ ≠ gb287) (.slice A0 l0.length c0) l0) := ⟨by (with_reducible repeat (first | apply Kd.V_alloc | apply Kd.V_drewN | apply Kd.V_drew)); exact Kd.V_mono (Kd.V_far (p := ⟨gb287, 4, none⟩) (Kd.V_far (p := ⟨gb287, 3, none⟩) (Kd.V_far (p := ⟨gb287, 2, none⟩) (Kd.V_far (p := ⟨gb287, 1, none⟩) (Kd.V_far (p := ⟨gb287, 0, none⟩) (Kd.V_mono HO_0.out (fun k_ hk => (⟨hk, hk.2⟩ : _ ∧ k_ ≠ gb287))) (fun _ hk => hk.2) (.string t281)) (fun _ hk => hk.2) (.string t282)) (fun _ hk => hk.2) (.int .i64 t283)) (fun _ hk => hk.2) (.int .i64 t284)) (fun _ hk => hk.2) (.int .i64 t285)) (fun _ hk => ⟨hk.1.1.1, ⟨hk.1.1.2, hk.1.2⟩⟩)⟩
     have n1_ : Aside0 ((((((w37.setCell ⟨gb287, 0, none⟩ (.string t281)).setCell ⟨gb287, 1, none⟩ (.string t282)).setCell ⟨gb287, 2, none⟩ (.int .i64 t283)).setCell ⟨gb287, 3, none⟩ (.int .i64 t284)).setCell ⟨gb287, 4, none⟩ (.int .i64 t285)).heap[gb276]? = some (.cells #[.string x277000_7, .string t274, .int .i64 a1, .int .i64 t275, .int .i64 0] 24 (0, 0))) := ⟨fb BK276⟩
     have n2_ : Aside0 ((((((w37.setCell ⟨gb287, 0, none⟩ (.string t281)).setCell ⟨gb287, 1, none⟩ (.string t282)).setCell ⟨gb287, 2, none⟩ (.int .i64 t283)).setCell ⟨gb287, 3, none⟩ (.int .i64 t284)).setCell ⟨gb287, 4, none⟩ (.int .i64 t285)).heap[gb287]? = some (.cells #[.string t281, .string t282, .int .i64 t283, .int .i64 t284, .int .i64 t285] 24 (0, 0))) := ⟨fb BK287⟩
     have n3_ : Aside0 (Below w.heap.size w (((((w37.setCell ⟨gb287, 0, none⟩ (.string t281)).setCell ⟨gb287, 1, none⟩ (.string t282)).setCell ⟨gb287, 2, none⟩ (.int .i64 t283)).setCell ⟨gb287, 3, none⟩ (.int .i64 t284)).setCell ⟨gb287, 4, none⟩ (.int .i64 t285))) := ⟨xB HB⟩
     (try clear HO_0)
     (try clear BK276)
     (try clear BK287)
     (try clear HB)
     generalize (((((w37.setCell ⟨gb287, 0, none⟩ (.string t281)).setCell ⟨gb287, 1, none⟩ (.string t282)).setCell ⟨gb287, 2, none⟩ (.int .i64 t283)).setCell ⟨gb287, 3, none⟩ (.int .i64 t284)).setCell ⟨gb287, 4, none⟩ (.int .i64 t285)) = w40 at n0_ n1_ n2_ n3_ ⊢
     have HO_0 := n0_
     have BK276 := n1_
     have BK287 := n2_
     have HB := n3_
     clear n0_ n1_ n2_ n3_
     replace HO_0 := am (Kd.V_drew HO_0.out)
     replace BK276 := am (blk_drew BK276.out)
     replace BK287 := am (blk_drew BK287.out)
     replace HB := am (below_drew1 HB.out)
     (try (clear hzq_ BQ_; obtain ⟨hW_⟩ := hW_; subst hW_))
     refine start_ (n := 11) (S := cs5 gb287 (.string t281) (.string t282) (.int .i64 t283) (.int .i64 t284) (.int .i64 t285)) (ds := []) (bm 11 0) (by kernel_rfl) rfl rfl (bz5 BK287) (fun hHeld => ?_); refine with_tabW spec_l4Mine.tab10 spec_l4Mine.bits10 (fun HT_ HW_ => ?_)
     generalize w40.drew = w41 at HO_0 BK276 BK287 HB hHeld ⊢
     refine pA 0 65 (bm 11 1) HT_ ?_
     refine pA 4 69 (bm 11 17) HT_ ?_
     refine tA 2 67 (bm 11 21) HT_ HW_ hHeld ?_
     refine join_ (σ := Value × Value) 6 (bm 11 31) (fun s_ => [(66, s_.1), (68, s_.2)]) (fun s_ w' => (w'.cell? ⟨gb287, 0, none⟩ = some (.string t281) ∧ w'.cell? ⟨gb287, 1, none⟩ = some (.string t282) ∧ w'.cell? ⟨gb287, 2, none⟩ = some (.int .i64 t283) ∧ w'.cell? ⟨gb287, 3, none⟩ = some (.int .i64 t284) ∧ w'.cell? ⟨gb287, 4, none⟩ = some (.int .i64 t285)) ∧ (Kd.S k82 82 w' w.heap.size (fun k_ => (w.heap.size ≤ k_) ∧ some k_ ≠ (s_.2 : Value).ownBlock) s_.1 t288) ∧ (Kd.R Kd.string 9 w' w.heap.size (fun k_ => (w.heap.size ≤ k_)) s_.2 y291) ∧ (Kd.V k82 82 w' w.heap.size (fun k_ => (P0_ k_ ∨ w.heap.size ≤ k_) ∧ some k_ ≠ (s_.1 : Value).ownBlock ∧ some k_ ≠ (s_.2 : Value).ownBlock ∧ k_ ≠ gb276 ∧ k_ ≠ gb287) (.slice A0 l0.length c0) l0) ∧ (w'.heap[gb276]? = some (.cells #[.string x277000_7, .string t274, .int .i64 a1, .int .i64 t275, .int .i64 0] 24 (0, 0))) ∧ (w'.heap[gb287]? = some (.cells #[.string t281, .string t282, .int .i64 t283, .int .i64 t284, .int .i64 t285] 24 (0, 0))) ∧ (Below w.heap.size w w')) ?_ ?_
     rotate_left
     ·intro hCont
      refine two_ (i := 1) (j := 3) (Ni := some 66) (Nj := some 68) (bm 11 23) (bm 11 29) rfl rfl rfl rfl (two_of HT_.out (by kernel_rfl)) (by decide) (by decide) (fun K hK => ?_) (fun K hK => ?_)
      ·skip
       refine gA Tryz.func89 #[.slice A0 l0.length c0] ?_
       with_reducible refine (spec_l4Copy.calls kj20 _ _ l0 t288 _ ?side1 ?side2 A32.out).mono ?_
       (case side1 => exact cr (Kd.V_reads' HO_0.out).2.2)
       (case side2 => exact (Kd.V_reads' HO_0.out).2.1)
       rintro e w42 ⟨v289, rfl, ho0, hb⟩
       refine ⟨_, rfl, ?_⟩
       replace HO_0 := am (Kd.V_elder' (va HO_0) (Kd.S_base ho0) hb)
       have HO290 := am (Kd.S_lower (Kd.S_newM (M := fun k_ => (w.heap.size ≤ k_)) ho0 (below_size (xB HB)) (fun k_ h_ => h_)) (below_size (xB HB)))
       replace BK276 := kP _ BK276 hb
       replace BK287 := kP _ BK287 hb
       replace HB := kH HB hb
       (try clear hb)
       (try clear hb2)
       (try clear hk)
       (try clear hi)
       (try clear ho0)
       refine hK.out _ _ (bz5 BK287) (fun hHeld => ?_)
       clear hK K
       refine nA (some 66) ?_
       refine oA 3 (some 68) (bm 11 31) HT_ fun K hK => ?_
       refine Kd.R_lit_step Kd.string _ 9 ?hg (N := 68) ?hd (xs := ([] : List ByteArray)) (inner := []) (ok := fun _ => True) (okp := fun _ => True) ?hr ?hp (fun _ hk => hk) trivial (Below.refl _ _) (Nat.le_refl _) (by simp) ?_; (case hd => rfl); (case hg => rfl); (case hr => first | (go_simp; done) | (go_simp; rfl)); (case hp => exact (Reps.none _ _))
       intro v292 w43 ho44 hb hg_ hnew_
       clear hg_ hnew_
       (first | rw [← Ny291.out] at ho44 | (simp only [Int.reduceToNat] at ho44; rw [← Ny291.out] at ho44))
       replace HO_0 := am (Kd.V_elder' (va HO_0) (Kd.R_base ho44) hb)
       replace HO290 := am (Kd.S_elder' (sx HO290) (Kd.R_base ho44) hb)
       have HO293 := am (Kd.R_lower (Kd.R_newM (M := fun k_ => (w.heap.size ≤ k_)) ho44 (below_size (xB HB)) (fun k_ h_ => h_)) (below_size (xB HB)))
       replace BK276 := kP _ BK276 hb
       replace BK287 := kP _ BK287 hb
       replace HB := kH HB hb
       clear hb ho44
       refine hK.out _ _ (bz5 BK287) (fun hHeld => ?_)
       clear hK K
       refine nA (some 68) ?_
       exact norm_ (by simp only [putAll, Act.put, sa, s0, s1]) (hCont (v289, v292) _ ⟨hHeld, (by (with_reducible repeat (first | apply Kd.S_alloc | apply Kd.S_drewN | apply Kd.S_drew)); exact Kd.S_mono HO290.out (fun _ hk => ⟨hk.1.1, hk.2⟩)), (rM HO293 (fun _ hk => hk.1)), (by (with_reducible repeat (first | apply Kd.V_alloc | apply Kd.V_drewN | apply Kd.V_drew)); exact Kd.V_mono HO_0.out (fun _ hk => ⟨hk.1.1.1, ⟨hk.1.2, ⟨hk.2, ⟨hk.1.1.2.1, hk.1.1.2.2⟩⟩⟩⟩)), (kb BK276), (kb BK287), (xB HB)⟩)
      ·skip
       refine Kd.R_lit_step Kd.string _ 9 ?hg (N := 68) ?hd (xs := ([] : List ByteArray)) (inner := []) (ok := fun _ => True) (okp := fun _ => True) ?hr ?hp (fun _ hk => hk) trivial (Below.refl _ _) (Nat.le_refl _) (by simp) ?_; (case hd => rfl); (case hg => rfl); (case hr => first | (go_simp; done) | (go_simp; rfl)); (case hp => exact (Reps.none _ _))
       intro v292 w42 ho43 hb hg_ hnew_
       clear hg_ hnew_
       (first | rw [← Ny291.out] at ho43 | (simp only [Int.reduceToNat] at ho43; rw [← Ny291.out] at ho43))
       replace HO_0 := am (Kd.V_elder' (va HO_0) (Kd.R_base ho43) hb)
       have HO293 := am (Kd.R_lower (Kd.R_newM (M := fun k_ => (w.heap.size ≤ k_)) ho43 (below_size (xB HB)) (fun k_ h_ => h_)) (below_size (xB HB)))
       replace BK276 := kP _ BK276 hb
       replace BK287 := kP _ BK287 hb
       replace HB := kH HB hb
       clear hb ho43
       refine hK.out _ _ (bz5 BK287) (fun hHeld => ?_)
       clear hK K
       refine nA (some 68) ?_
       refine oA 1 (some 66) (bm 11 31) HT_ fun K hK => ?_
       refine gA Tryz.func89 #[.slice A0 l0.length c0] ?_
       with_reducible refine (spec_l4Copy.calls kj20 _ _ l0 t288 _ ?side1 ?side2 A32.out).mono ?_
       (case side1 => exact cr (Kd.V_reads' HO_0.out).2.2)
       (case side2 => exact (Kd.V_reads' HO_0.out).2.1)
       rintro e w44 ⟨v289, rfl, ho0, hb⟩
       refine ⟨_, rfl, ?_⟩
       replace HO_0 := am (Kd.V_elder' (va HO_0) (Kd.S_base ho0) hb)
       have HO290 := am (Kd.S_lower (Kd.S_new' (Kd.S_newM (M := fun k_ => (w.heap.size ≤ k_)) ho0 (below_size (xB HB)) (fun k_ h_ => h_)) (Kd.R_lt (ra HO293))) (below_size (xB HB)))
       replace HO293 := rk HO293 hb
       replace BK276 := kP _ BK276 hb
       replace BK287 := kP _ BK287 hb
       replace HB := kH HB hb
       (try clear hb)
       (try clear hb2)
       (try clear hk)
       (try clear hi)
       (try clear ho0)
       refine hK.out _ _ (bz5 BK287) (fun hHeld => ?_)
       clear hK K
       refine nA (some 66) ?_
       exact norm_ (by simp only [putAll, Act.put, sa, s0, s1]) (hCont (v289, v292) _ ⟨hHeld, (by (with_reducible repeat (first | apply Kd.S_alloc | apply Kd.S_drewN | apply Kd.S_drew)); exact Kd.S_mono HO290.out (fun _ hk => ⟨hk.1.1, hk.2⟩)), (rM HO293 (fun _ hk => hk.1)), (by (with_reducible repeat (first | apply Kd.V_alloc | apply Kd.V_drewN | apply Kd.V_drew)); exact Kd.V_mono HO_0.out (fun _ hk => ⟨hk.1.1.1, ⟨hk.2, ⟨hk.1.2, ⟨hk.1.1.2.1, hk.1.1.2.2⟩⟩⟩⟩)), (kb BK276), (kb BK287), (xB HB)⟩)
     rintro ⟨v289, v292⟩ w45 ⟨hS_, h0_, h1_, h2_, h3_, h4_, h5_⟩
     try dsimp only at h0_ h1_ h2_ h3_ h4_ h5_
     have n0_ := am h0_
     have n1_ := am h1_
     have n2_ := am h2_
     have n3_ := am h3_
     have n4_ := am h4_
     have n5_ := am h5_
     clear HO_0
     clear BK276
     clear BK287
     clear HB
     clear h0_ h1_ h2_ h3_ h4_ h5_
     have HO290 := n0_
     have HO293 := n1_
     have HO_0 := n2_
     have BK276 := n3_
     have BK287 := n4_
     have HB := n5_
     clear n0_ n1_ n2_ n3_ n4_ n5_
     have hHeld : w45.cell? ⟨gb287, 0, none⟩ = some (.string t281) ∧ w45.cell? ⟨gb287, 1, none⟩ = some (.string t282) ∧ w45.cell? ⟨gb287, 2, none⟩ = some (.int .i64 t283) ∧ w45.cell? ⟨gb287, 3, none⟩ = some (.int .i64 t284) ∧ w45.cell? ⟨gb287, 4, none⟩ = some (.int .i64 t285) := hS_
     refine norm_ (a' := ?_) ?_ ?_
     rotate_left
     ·simp only [putAll, Act.put, sa, s0, s1]
      rfl
     refine oA 5 (some 70) (bm 11 63) HT_ fun K hK => ?_
     refine Kd.R_append_rows_step Kd.string (w0 := w) w.heap.size (by rfl) (.tmp 68) (.tmp 69) 53 9 (.string ⟨#[]⟩) 16 rfl Tryz.underlying53 info9 rfl (by decide) (by omega) v292 y291 l2 _ _ _ (fun k_ => (w.heap.size ≤ k_)) (fun _ => False) rfl rfl ?aO ?aR (fun _ _ h => h) (fun _ h => h.elim) ?aF ?aB ?aS ?aL ?_
     (case aR => exact cb HR2 HB)
     (case aB => exact (xB HB))
     (case aF => exact (fun k_ hk => (Nat.le_trans (below_size (xB HB)) hk)))
     (case aO => exact (ra HO293))
     (case aS => exact (below_size (xB HB)))
     (case aL => have := LMc33.out; omega)
     intro v295 w46 ho hb hg hat
     rw [← Ny294.out] at ho
     have n0_ := Aside0.mk (Kd.V_afterv (ok := (fun k_ => (P0_ k_ ∨ w.heap.size ≤ k_) ∧ some k_ ≠ (v289 : Value).ownBlock ∧ k_ ≠ gb276 ∧ k_ ≠ gb287)) (by (with_reducible repeat (first | apply Kd.V_alloc | apply Kd.V_drewN | apply Kd.V_drew)); exact Kd.V_mono HO_0.out (fun _ hk => ⟨⟨hk.1, ⟨hk.2.1, ⟨hk.2.2.2.1, hk.2.2.2.2⟩⟩⟩, hk.2.2.1⟩)) hg hat)
     have n1_ := Aside0.mk (blk_grown (g := gb276) (o := .cells #[.string x277000_7, .string t274, .int .i64 a1, .int .i64 t275, .int .i64 0] 24 (0, 0)) (kb BK276) hg (Kd.R_ne HO293.out BK276.out (by decide)))
     have n2_ := Aside0.mk (blk_grown (g := gb287) (o := .cells #[.string t281, .string t282, .int .i64 t283, .int .i64 t284, .int .i64 t285] 24 (0, 0)) (kb BK287) hg (Kd.R_ne HO293.out BK287.out (by decide)))
     have n3_ := Aside0.mk (Kd.S_after (ok := (fun k_ => (w.heap.size ≤ k_))) (sx HO290) hg hat)
     have n4_ := Aside0.mk (hb)
     have n5_ := Aside0.mk (ho)
     clear HO_0
     clear BK276
     clear BK287
     clear HO290
     clear HB
     clear HO293
     have HO_0 := n0_
     have BK276 := n1_
     have BK287 := n2_
     have HO290 := n3_
     have HB := n4_
     have HO296 := n5_
     clear n0_ n1_ n2_ n3_ n4_ n5_
     clear ho hb hg hat
     obtain ⟨Ao47, co47, eo47⟩ := Kd.R_slice HO296.out
     (first | subst eo47 | (injection eo47 with f1_ f2_ f3_; have f4_ := f1_.symm; have f5_ := f3_.symm; clear f1_ f2_ f3_; subst f4_; subst f5_))
     refine hK.out _ _ (bz5 BK287) (fun hHeld => ?_)
     clear hK K
     refine nA (some 70) ?_
     refine pA 6 71 (bm 11 127) HT_ ?_
     refine oA 7 (some 72) (bm 11 255) HT_ fun K hK => ?_
     refine value_ (w1 := ?_) (v := ?_) (by rfl) rfl ?_ ?_
     rotate_left 2
     ·go_simp
      constructor
      ·rfl
      ·rfl
     refine hK.out _ _ ⟨(blk_cell (blk_alloc BK287.out _) 0).trans rfl, (blk_cell (blk_alloc BK287.out _) 1).trans rfl, (blk_cell (blk_alloc BK287.out _) 2).trans rfl, (blk_cell (blk_alloc BK287.out _) 3).trans rfl, (blk_cell (blk_alloc BK287.out _) 4).trans rfl⟩ (fun hHeld => ?_)
     clear hK K
     refine nA (some 72) ?_
     refine oA 8 (some 73) (bm 11 511) HT_ fun K hK => ?_
     refine Kd.S_append_step k82 (w0 := w) w.heap.size (by rfl) (.tmp 66) (.tmp 72) 79 82 (.agg #[(.string ⟨#[]⟩), (.string ⟨#[]⟩), (.int .i64 0), (.int .i64 0), (.int .i64 0), (.slice none 0 0)]) 80 rfl Tryz.underlying79 info82 rfl (by decide) (by omega) v289 t288 (⟨(⟨t281, t282, t283, t284, t285⟩ : S24), y294⟩ : S82) [.string t281, .string t282, .int .i64 t283, .int .i64 t284, .int .i64 t285, .slice Ao47 y294.length co47] (fun k_ => (w.heap.size ≤ k_)) (fun k_ => some k_ = (.slice Ao47 y294.length co47 : Value).ownBlock) rfl rfl ?aP (fun k_ hk_ => ((Kd.R_mono (ok' := fun k_ => ((fun k_ => (w.heap.size ≤ k_))) k_ ∧ some k_ ≠ (v289 : Value).ownBlock) (Kd.R_apart' (HO296.out) (Kd.S_typed HO290.out) (by decide)) (fun k_ hk => ⟨hk.1, hk.2⟩))).1 k_ hk_.symm) ?aF ?aO ?aB ?aS ?aL ?_
     (case aP => exact k82_mkM _ _ _ (⟨(⟨t281, t282, t283, t284, t285⟩ : S24), y294⟩ : S82) (Kd.R_mono (Kd.R_tight rfl (Kd.R_mono (ok' := fun k_ => ((fun k_ => (w.heap.size ≤ k_))) k_ ∧ some k_ ≠ (v289 : Value).ownBlock) (Kd.R_apart' (HO296.out) (Kd.S_typed HO290.out) (by decide)) (fun k_ hk => ⟨hk.1, hk.2⟩))) (fun _ h_ => h_)))
     (case aB => exact (xB HB))
     (case aF => exact (fun k_ hk => (Nat.le_trans (below_size (xB HB)) hk)))
     (case aO => exact (by (with_reducible repeat (first | apply Kd.S_alloc | apply Kd.S_drewN | apply Kd.S_drew)); exact Kd.S_mono HO290.out (fun k_ hk => ⟨hk.1, fun e_ => hk.2 e_⟩)))
     (case aS => exact (below_size (xB HB)))
     (case aL => have := LMc34.out; omega)
     intro v298 w48 ho hb hg hat
     rw [← Ny297.out] at ho
     have n0_ := Aside0.mk (Kd.V_afterv (ok := (fun k_ => (P0_ k_ ∨ w.heap.size ≤ k_) ∧ some k_ ≠ (.slice Ao47 y294.length co47 : Value).ownBlock ∧ k_ ≠ gb276 ∧ k_ ≠ gb287)) (by (with_reducible repeat (first | apply Kd.V_alloc | apply Kd.V_drewN | apply Kd.V_drew)); exact Kd.V_mono HO_0.out (fun _ hk => ⟨⟨hk.1.1, ⟨hk.2, ⟨hk.1.2.2.1, hk.1.2.2.2⟩⟩⟩, hk.1.2.1⟩)) hg hat)
     have n1_ := Aside0.mk (blk_grown (g := gb276) (o := .cells #[.string x277000_7, .string t274, .int .i64 a1, .int .i64 t275, .int .i64 0] 24 (0, 0)) (kb BK276) hg (Kd.S_ne HO290.out BK276.out (by decide)))
     have n2_ := Aside0.mk (blk_grown (g := gb287) (o := .cells #[.string t281, .string t282, .int .i64 t283, .int .i64 t284, .int .i64 t285] 24 (0, 0)) (kb BK287) hg (Kd.S_ne HO290.out BK287.out (by decide)))
     have n3_ := Aside0.mk (hb)
     have n4_ := Aside0.mk (ho)
     clear HO_0
     clear BK276
     clear BK287
     clear HB
     clear HO290
     clear HO296
     have HO_0 := n0_
     have BK276 := n1_
     have BK287 := n2_
     have HB := n3_
     have HO299 := n4_
     clear n0_ n1_ n2_ n3_ n4_
     clear ho hb hg hat
     refine hK.out _ _ (bz5 BK287) (fun hHeld => ?_)
     clear hK K
     refine nA (some 73) ?_
     refine pA 9 6 (bm 11 1023) HT_ ?_
     refine pA 10 7 (bm 11 2047) HT_ ?_
     refine done_ (done_of HT_.out (by kernel_rfl)) ?_
     try go_wp2
     (try (clear hzq_ BQ_; obtain ⟨hW_⟩ := hW_; subst hW_))
     go_ret2
     exact ⟨_, xE, Kd.V_mono (Kd.S_V (sx HO299)) (fun k_ hk => by first | exact ⟨(.inr (hk.1)), hk.2⟩ | exact (.inr (hk))), xB HB⟩

end Go.Proofs.YtgjljbaadglpnaaGreatDoor.PFnPaidPut
