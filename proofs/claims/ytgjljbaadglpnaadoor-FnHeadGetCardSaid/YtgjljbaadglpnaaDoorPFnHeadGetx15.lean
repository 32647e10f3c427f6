/- Functions of the program and what each answers: the kit's print, shortened (wip/press2.py). -/
import Derived.Test.YtgjljbaadglpnaaDoorPFnHeadGetx0
import Derived.Test.YtgjljbaadglpnaaDoorPFnHeadGetx3
import Derived.Test.YtgjljbaadglpnaaDoorPFnHeadGetx11
import Derived.Test.YtgjljbaadglpnaaDoorPFnHeadGetx12
import Derived.Test.YtgjljbaadglpnaaDoorPFnHeadGetx13
import Derived.Test.YtgjljbaadglpnaaDoorPFnHeadGetx14
namespace Go.Proofs.YtgjljbaadglpnaaDoor.PFnHeadGet
open Go.Proofs.YtgjljbaadglpnaaDoor.Sq Go.RowKit Go.Proofs.YtgjljbaadglpnaaDoorW.PrintWords Go.Proofs.YtgjljbaadglpnaaDoorW.PrintLast Go.Proofs.YtgjljbaadglpnaaDoorW.PrintMore
attribute [local go_sem] max2_int min2_int max_two min_two max_three min_three max_four min_four   -- for this text's walks alone
set_option linter.unusedVariables false
set_option linter.unusedSimpArgs false
set_option maxHeartbeats 64000000
set_option maxRecDepth 100000
mutual
def spec_l4Mine.j0 : Nat → List (S142) → Int → List ByteArray → List (S23) → ByteArray → ByteArray → Int → Int → Int → Option ((List (S142)) × Bool)
 | 0, _, _, _, _, _, _, _, _, _ => none
 | k + 1, x0, x1, x2, x8, x362000, x362001, x362002, x362003, x362004 => if (x0.length : Int) ≥ 20 then (spec_l4Mine.j1 k x0 x2 true x362000 x362001 x362002 x362003 x362004) else ((spec_l1In.f x1 0 99999).bind fun t364 => (if t364 = true then (if (x0.length : Int) > 0 then (if 0 ≤ (wrap64 ((x8.length : Int) - 1)) then (if (wrap64 ((x8.length : Int) - 1)) < (x8.length : Int) then (spec_l4Mine.j1 k x0 x2 (decide (x1 ≤ ((rd_T23 x8 (wrap64 ((x8.length : Int) - 1))).f2))) x362000 x362001 x362002 x362003 x362004) else (none)) else (none)) else (spec_l4Mine.j1 k x0 x2 false x362000 x362001 x362002 x362003 x362004)) else (spec_l4Mine.j1 k x0 x2 true x362000 x362001 x362002 x362003 x362004)))
def spec_l4Mine.j1 : Nat → List (S142) → List ByteArray → Bool → ByteArray → ByteArray → Int → Int → Int → Option ((List (S142)) × Bool)
 | 0, _, _, _, _, _, _, _, _ => none
 | k + 1, x0, x2, x55, x362000, x362001, x362002, x362003, x362004 => if x55 = true then (some (x0, false)) else ((spec_l3Mine.f k x362000 x362001 x362002 x362003 x362004).bind fun bt366 => (if bt366.2.2.2.2.2 = true then ((spec_l4Copy.f k x0).bind fun t373 => ((some (([] : List ByteArray) : List ByteArray)).bind fun y376 => (if y376.length + x2.length < 8796093022208 then (if t373.length < 1759218604441 then (some ((t373 ++ [(⟨(⟨bt366.1, bt366.2.1, bt366.2.2.1, bt366.2.2.2.1, bt366.2.2.2.2.1⟩ : S23), (y376 ++ x2)⟩ : S142)]), true)) else (none)) else (none)))) else (some (x0, false))))
end
def spec_l4Mine.f (k : Nat) (l0 : List (S142)) (a1 : Int) (l2 : List ByteArray) : Option ((List (S142)) × Bool) := (spec_l4Heads.f k l0).bind fun t355 => ((spec_l4Zero.f).bind fun t358 => ((spec_l3Root.f k l2).bind fun t359 => ((spec_l4Diff.f k t355).bind fun t360 => (if (l0.length : Int) > 0 then (if 0 ≤ (wrap64 ((t355.length : Int) - 1)) then (if (wrap64 ((t355.length : Int) - 1)) < (t355.length : Int) then ((spec_l3Sum.f k ((rd_T23 t355 (wrap64 ((t355.length : Int) - 1))).f0) ((rd_T23 t355 (wrap64 ((t355.length : Int) - 1))).f1) ((rd_T23 t355 (wrap64 ((t355.length : Int) - 1))).f2) ((rd_T23 t355 (wrap64 ((t355.length : Int) - 1))).f3) ((rd_T23 t355 (wrap64 ((t355.length : Int) - 1))).f4)).bind fun t363 => (spec_l4Mine.j0 k l0 a1 l2 t355 t363 t359 a1 t360 0)) else (none)) else (none)) else (spec_l4Mine.j0 k l0 a1 l2 t355 t358 t359 a1 t360 0)))))
theorem spec_l4Mine.mono_l : ∀ k, (∀ y0 y1 y2 y3 y4 y5 y6 y7 y8, LeO (spec_l4Mine.j0 k y0 y1 y2 y3 y4 y5 y6 y7 y8) (spec_l4Mine.j0 (k + 1) y0 y1 y2 y3 y4 y5 y6 y7 y8)) ∧ (∀ y0 y1 y2 y3 y4 y5 y6 y7, LeO (spec_l4Mine.j1 k y0 y1 y2 y3 y4 y5 y6 y7) (spec_l4Mine.j1 (k + 1) y0 y1 y2 y3 y4 y5 y6 y7))
 | 0 => ⟨fun _ _ _ _ _ _ _ _ _ r h => by simp [spec_l4Mine.j0] at h, fun _ _ _ _ _ _ _ _ r h => by simp [spec_l4Mine.j1] at h⟩
 | k + 1 => by
  obtain ⟨ih0, ih1⟩ := spec_l4Mine.mono_l k
  refine ⟨?_, ?_⟩
  ·intro y0 y1 y2 y3 y4 y5 y6 y7 y8
   unfold spec_l4Mine.j0
   exact mo8 ih0 ih1 spec_l3Mine.mono spec_l3Root.mono spec_l3Sum.mono spec_l4Copy.mono spec_l4Diff.mono spec_l4Heads.mono
  ·intro y0 y1 y2 y3 y4 y5 y6 y7
   unfold spec_l4Mine.j1
   exact mo8 ih0 ih1 spec_l3Mine.mono spec_l3Root.mono spec_l3Sum.mono spec_l4Copy.mono spec_l4Diff.mono spec_l4Heads.mono
theorem spec_l4Mine.mono : ∀ a0 a1 a2 k, LeO (spec_l4Mine.f k a0 a1 a2) (spec_l4Mine.f (k + 1) a0 a1 a2) := by
 intro a0 a1 a2 k
 obtain ⟨ih0, ih1⟩ := spec_l4Mine.mono_l k
 unfold spec_l4Mine.f
 exact mo8 ih0 ih1 spec_l3Mine.mono spec_l3Root.mono spec_l3Sum.mono spec_l4Copy.mono spec_l4Diff.mono spec_l4Heads.mono
def spec_l4Mine.T10 : Bool × List (List Nat × List Nat) := (true, [([], []), ([0], [0]), ([], []), ([], []), ([], []), ([3, 4, 1], [3, 4]), ([2, 5], [2, 5]), ([6], [6]), ([1, 7, 5], [1, 7]), ([8, 8, 0, 1, 2, 3, 4, 5, 6, 7, 8], [8]), ([9, 0, 1, 2, 3, 4, 5, 6, 7, 8, 9], [])])
def spec_l4Mine.B10 : List Nat := [0, 1, 0, 0, 0, 27, 63, 127, 255, 511, 1023]
theorem spec_l4Mine.tab10 : rtab .any (opsOf Tryd.f131 10) = spec_l4Mine.T10 := by kernel_rfl
theorem spec_l4Mine.bits10 : waitsOk spec_l4Mine.T10.2 spec_l4Mine.B10 = true := by kernel_rfl
theorem spec_l4Mine.calls (k : Nat) (P0_ : Nat → Prop) (A0 : Option Addr) (c0 : Nat) (l0 : List (S142)) (a1 : Int) (A2 : Option Addr) (c2 : Nat) (l2 : List ByteArray) (r1 : List (S142)) (r2 : Bool) (w : World) (hs0 : Kd.V k142 142 w w.heap.size (fun k_ => P0_ k_) (.slice A0 l0.length c0) l0) (hr2 : Kd.C Kd.string w A2 l2.length l2) (hc2 : l2.length ≤ c2) (h : spec_l4Mine.f k l0 a1 l2 = some (r1, r2)) :
  Calls Tryd.prog 131 #[.slice A0 l0.length c0, .int .i64 a1, .slice A2 l2.length c2] w fun e w' => ∃ v0_ : Value, e = .returned (.tuple #[v0_, .bool r2]) ∧ (r2 = true → Kd.S k142 142 w' w.heap.size (fun k_ => (w.heap.size ≤ k_)) v0_ r1) ∧ Below w.heap.size w w' := by
 have hu23 := Tryd.underlying23
 have hu142 := Tryd.underlying142
 have HO0 := Aside0.mk (show Kd.V k142 142 w w.heap.size (fun k_ => (P0_ k_ ∨ w.heap.size ≤ k_)) (.slice A0 l0.length c0) l0 from Kd.V_mono hs0 (fun k_ hk => .inl hk))
 have HR2 := Aside0.mk hr2
 have HC2 := Aside0.mk hc2
 clear hr2 hc2
 have HB := Aside0.mk (Below.refl w.heap.size w)
 have H : ((spec_l4Heads.f k l0).bind fun t355 => ((spec_l4Zero.f).bind fun t358 => ((spec_l3Root.f k l2).bind fun t359 => ((spec_l4Diff.f k t355).bind fun t360 => (if (l0.length : Int) > 0 then (if 0 ≤ (wrap64 ((t355.length : Int) - 1)) then (if (wrap64 ((t355.length : Int) - 1)) < (t355.length : Int) then ((spec_l3Sum.f k ((rd_T23 t355 (wrap64 ((t355.length : Int) - 1))).f0) ((rd_T23 t355 (wrap64 ((t355.length : Int) - 1))).f1) ((rd_T23 t355 (wrap64 ((t355.length : Int) - 1))).f2) ((rd_T23 t355 (wrap64 ((t355.length : Int) - 1))).f3) ((rd_T23 t355 (wrap64 ((t355.length : Int) - 1))).f4)).bind fun t363 => (spec_l4Mine.j0 k l0 a1 l2 t355 t363 t359 a1 t360 0)) else (none)) else (none)) else (spec_l4Mine.j0 k l0 a1 l2 t355 t358 t359 a1 t360 0)))))) = some (r1, r2) := h
 clear h
 replace H := oa H
 obtain ⟨t355, A4, H⟩ := H
 replace H := oa H
 obtain ⟨t358, A5, H⟩ := H
 replace H := oa H
 obtain ⟨t359, A6, H⟩ := H
 replace H := oa H
 obtain ⟨t360, A7, H⟩ := H
 have HC8 := Aside0.mk H
 clear H
 go_enter Tryd.func131, Tryd.ntmps131
 go_upto_if 23 with (first | ((with_reducible refine gg ?_); first | (refine gL 13 Tryd.func98 #[.slice A0 l0.length c0] ?_; (with_reducible refine (spec_l4Heads.calls k _ _ l0 t355 _ ?side1 ?side2 A4.out).mono ?_); (case side1 => exact cr (Kd.V_reads' HO0.out).2.2); (case side2 => exact (Kd.V_reads' HO0.out).2.1); rintro e w9 ⟨v356, rfl, ho0, hb⟩; refine ⟨_, rfl, ?_⟩; replace HO0 := am (Kd.V_elder' (va HO0) (Kd.R_base ho0) hb); have HO357 := am (Kd.R_lower (Kd.R_newM (M := fun k_ => (w.heap.size ≤ k_)) ho0 (below_size (bl HB)) (fun k_ h_ => h_)) (below_size (bl HB))); replace HB := kH HB hb; (try clear hb); (try clear ho0)) | (refine gL 14 Tryd.func133 #[] ?_; (with_reducible refine (spec_l4Zero.calls  t358 _ A5.out).mono ?_); rintro e w' ⟨rfl, ⟨nd, rfl⟩⟩; refine ⟨_, rfl, ?_⟩; (try (rw [drewN_self w9]; generalize hq_ : World.drewN w9 _ = w9; have n0_ := dV hq_ HO0; have n1_ := dM hq_ HO357 (fun _ hk => hk.1); have n2_ := dB hq_ HB; clear HO0 HO357 HB hq_; have HO0 := n0_; have HO357 := n1_; have HB := n2_; clear n0_ n1_ n2_))) | (refine gL 16 Tryd.func134 #[.slice A2 l2.length c2] ?_; (with_reducible refine (spec_l3Root.calls k _ _ l2 t359 _ ?side1 ?side2 A6.out).mono ?_); (case side1 => exact cb HR2 HB); (case side2 => exact HC2.out); rintro e w10 ⟨rfl, hb⟩; refine ⟨_, rfl, ?_⟩; replace HO0 := am (Kd.V_below (va HO0) hb); replace HO357 := rk HO357 hb; replace HB := kH HB hb; (try clear hb); obtain ⟨Ao11, co11, eo11⟩ := Kd.R_slice HO357.out; subst eo11) | (refine gL 19 Tryd.func135 #[.slice Ao11 t355.length co11] ?_; (with_reducible refine (spec_l4Diff.calls k _ _ t355 t360 _ ?side1 ?side2 A7.out).mono ?_); (case side1 => exact cr (Kd.R_reads' HO357.out).2.2); (case side2 => exact sl HO357); rintro e w' ⟨rfl, ⟨nd, rfl⟩⟩; refine ⟨_, rfl, ?_⟩; (try (rw [drewN_self w10]; generalize hq_ : World.drewN w10 _ = w10; have n0_ := dV hq_ HO0; have n1_ := dM hq_ HO357 (fun _ hk => hk.1); have n2_ := dB hq_ HB; clear HO0 HO357 HB hq_; have HO0 := n0_; have HO357 := n1_; have HB := n2_; clear n0_ n1_ n2_)))) | ((with_reducible refine gate_dst (N := 9) rfl ?_); (try (refine gate_guard (by rfl) ?_; dsimp only)); refine box_event ?hg (N := 9) ?hd (cs := #[.string (⟨#[]⟩ : ByteArray), .string (⟨#[]⟩ : ByteArray), .int .i64 0, .int .i64 0, .int .i64 0]) (t := 23) ?hr ?_; (case hd => rfl); (case hg => rfl); (case hr => first | (go_simp; done) | (go_simp; rfl)); intro gb361 hg w12 hbox hb; replace HO0 := am (Kd.V_below (Kd.V_elderB (va HO0) gb361 (Nat.le_of_eq hg.symm)) hb); replace HO357 := am (Kd.R_below (Kd.R_elderB (ra HO357) gb361 (Nat.le_of_eq hg.symm)) hb); have BK361 := am (hbox); have GW361 := zB hg HB; have GE361 := zB hg HB; replace HB := kH HB hb; clear hb hbox hg; have hz13 := bc5 BK361))
 (try simp only [Act.put, sa, s0, s1])
 go_cut [] (fun wc => ∃ (kq : Nat) (x362000_7 : ByteArray), Aside0 (spec_l4Mine.j0 kq l0 a1 l2 t355 x362000_7 t359 a1 t360 0 = some (r1, r2)) ∧ Aside0 (kq ≤ k) ∧ Aside0 (Kd.V k142 142 wc w.heap.size (fun k_ => (P0_ k_ ∨ w.heap.size ≤ k_) ∧ some k_ ≠ ((.slice Ao11 t355.length co11) : Value).ownBlock ∧ k_ ≠ gb361) (.slice A0 l0.length c0) l0) ∧ Aside0 (Kd.R k23 23 wc w.heap.size (fun k_ => (w.heap.size ≤ k_) ∧ k_ ≠ gb361) (.slice Ao11 t355.length co11) t355) ∧ Aside0 (wc.heap[gb361]? = some (.cells #[.string x362000_7, .string t359, .int .i64 a1, .int .i64 t360, .int .i64 0] 23 (0, 0))) ∧ Aside0 (Below w.heap.size w wc))
 case first =>
  have H := HC8.out
  clear HC8
  by_cases c14 : (l0.length : Int) > 0
  rotate_left
  ·rw [if_neg c14] at H
   have c14b0 := decide_eq_false c14
   have c14b1 : decide (0 < l0.length) = false := decide_eq_false (by omega)
   clear c14
   (first | rw [c14b0] | rw [c14b1] | (simp only [i64_w, i32_w]; rw [c14b0]) | skip)
   have H' := Aside0.mk H
   clear H
   go_wp2
   go_meet
   case rel => exact ⟨_, (t358), H', ⟨xO⟩, ⟨by (with_reducible repeat (first | apply Kd.V_alloc | apply Kd.V_drewN | apply Kd.V_drew)); exact Kd.V_mono (Kd.V_far (p := ⟨gb361, 4, none⟩) (Kd.V_far (p := ⟨gb361, 3, none⟩) (Kd.V_far (p := ⟨gb361, 2, none⟩) (Kd.V_far (p := ⟨gb361, 1, none⟩) (Kd.V_far (p := ⟨gb361, 0, none⟩) (Kd.V_mono HO0.out (fun k_ hk => (⟨hk, hk.2⟩ : _ ∧ k_ ≠ gb361))) (fun _ hk => hk.2) (.string t358)) (fun _ hk => hk.2) (.string t359)) (fun _ hk => hk.2) (.int .i64 a1)) (fun _ hk => hk.2) (.int .i64 t360)) (fun _ hk => hk.2) (.int .i64 0)) (fun _ hk => ⟨hk.1.1.1, ⟨hk.1.1.2, hk.1.2⟩⟩)⟩, ⟨by (with_reducible repeat (first | apply Kd.R_alloc | apply Kd.R_drewN | apply Kd.R_drew)); exact Kd.R_mono (Kd.R_far (p := ⟨gb361, 4, none⟩) (Kd.R_far (p := ⟨gb361, 3, none⟩) (Kd.R_far (p := ⟨gb361, 2, none⟩) (Kd.R_far (p := ⟨gb361, 1, none⟩) (Kd.R_far (p := ⟨gb361, 0, none⟩) (Kd.R_mono HO357.out (fun k_ hk => (⟨hk, hk.2⟩ : _ ∧ k_ ≠ gb361))) (fun _ hk => hk.2) (.string t358)) (fun _ hk => hk.2) (.string t359)) (fun _ hk => hk.2) (.int .i64 a1)) (fun _ hk => hk.2) (.int .i64 t360)) (fun _ hk => hk.2) (.int .i64 0)) (fun _ hk => ⟨hk.1.1, hk.1.2⟩)⟩, ⟨fb BK361⟩, ⟨xB HB⟩⟩
  rw [if_pos c14] at H
  have c14b0 := decide_eq_true c14
  have c14b1 : decide (0 < l0.length) = true := decide_eq_true (by omega)
  clear c14
  (first | rw [c14b0] | rw [c14b1] | (simp only [i64_w, i32_w]; rw [c14b0]) | skip)
  obtain ⟨ji15, hji15⟩ := je (wrap64 ((t355.length : Int) - 1))
  first | rw [hji15] at H | simp only [hji15] at H
  have hji15w : (IntKind.i64.wrap ((t355.length : Int) - 1)) = ji15 := (i64_w _).trans hji15
  replace H := ipd H
  obtain ⟨c16b0, H⟩ := H
  replace H := ipd H
  obtain ⟨c17b0, H⟩ := H
  replace H := oa H
  obtain ⟨t363, A18, H⟩ := H
  have H' := Aside0.mk H
  clear H
  have p362 : 0 ≤ ((ji15) : Int) := of_decide_eq_true xA
  have q362 : (ji15) < (t355.length : Int) := of_decide_eq_true xA
  obtain ⟨ad362, e362, hx362_0, hx362_1, hx362_2, hx362_3, hx362_4⟩ := at_T23 (Kd.R_reads' HO357.out).2.2 (ji15) p362 q362
  cases e362
  have hn362_0 : ad362.block ≠ gb361 := Kd.own_blk (Kd.R_away HO357.out (fun _ hk => hk.2))
  have hn362_1 : ad362.block ≠ gb361 := Kd.own_blk (Kd.R_away HO357.out (fun _ hk => hk.2))
  have hn362_2 : ad362.block ≠ gb361 := Kd.own_blk (Kd.R_away HO357.out (fun _ hk => hk.2))
  have hn362_3 : ad362.block ≠ gb361 := Kd.own_blk (Kd.R_away HO357.out (fun _ hk => hk.2))
  have hn362_4 : ad362.block ≠ gb361 := Kd.own_blk (Kd.R_away HO357.out (fun _ hk => hk.2))
  replace hx362_0 := (cell_far (p := ⟨gb361, 0, none⟩) (by first | (rw [add_block]; exact hn362_0) | (show (Addr.add _ _).block ≠ _; rw [add_block]; exact hn362_0) | exact hn362_0) (.string t358)).trans hx362_0
  replace hx362_1 := (cell_far (p := ⟨gb361, 0, none⟩) (by first | (rw [add_block]; exact hn362_0) | (show (Addr.add _ _).block ≠ _; rw [add_block]; exact hn362_0) | exact hn362_0) (.string t358)).trans hx362_1
  replace hx362_2 := (cell_far (p := ⟨gb361, 0, none⟩) (by first | (rw [add_block]; exact hn362_0) | (show (Addr.add _ _).block ≠ _; rw [add_block]; exact hn362_0) | exact hn362_0) (.string t358)).trans hx362_2
  replace hx362_3 := (cell_far (p := ⟨gb361, 0, none⟩) (by first | (rw [add_block]; exact hn362_0) | (show (Addr.add _ _).block ≠ _; rw [add_block]; exact hn362_0) | exact hn362_0) (.string t358)).trans hx362_3
  replace hx362_4 := (cell_far (p := ⟨gb361, 0, none⟩) (by first | (rw [add_block]; exact hn362_0) | (show (Addr.add _ _).block ≠ _; rw [add_block]; exact hn362_0) | exact hn362_0) (.string t358)).trans hx362_4
  replace hx362_0 := (cell_far (p := ⟨gb361, 1, none⟩) (by first | (rw [add_block]; exact hn362_1) | (show (Addr.add _ _).block ≠ _; rw [add_block]; exact hn362_1) | exact hn362_1) (.string t359)).trans hx362_0
  replace hx362_1 := (cell_far (p := ⟨gb361, 1, none⟩) (by first | (rw [add_block]; exact hn362_1) | (show (Addr.add _ _).block ≠ _; rw [add_block]; exact hn362_1) | exact hn362_1) (.string t359)).trans hx362_1
  replace hx362_2 := (cell_far (p := ⟨gb361, 1, none⟩) (by first | (rw [add_block]; exact hn362_1) | (show (Addr.add _ _).block ≠ _; rw [add_block]; exact hn362_1) | exact hn362_1) (.string t359)).trans hx362_2
  replace hx362_3 := (cell_far (p := ⟨gb361, 1, none⟩) (by first | (rw [add_block]; exact hn362_1) | (show (Addr.add _ _).block ≠ _; rw [add_block]; exact hn362_1) | exact hn362_1) (.string t359)).trans hx362_3
  replace hx362_4 := (cell_far (p := ⟨gb361, 1, none⟩) (by first | (rw [add_block]; exact hn362_1) | (show (Addr.add _ _).block ≠ _; rw [add_block]; exact hn362_1) | exact hn362_1) (.string t359)).trans hx362_4
  replace hx362_0 := (cell_far (p := ⟨gb361, 2, none⟩) (by first | (rw [add_block]; exact hn362_2) | (show (Addr.add _ _).block ≠ _; rw [add_block]; exact hn362_2) | exact hn362_2) (.int .i64 a1)).trans hx362_0
  replace hx362_1 := (cell_far (p := ⟨gb361, 2, none⟩) (by first | (rw [add_block]; exact hn362_2) | (show (Addr.add _ _).block ≠ _; rw [add_block]; exact hn362_2) | exact hn362_2) (.int .i64 a1)).trans hx362_1
  replace hx362_2 := (cell_far (p := ⟨gb361, 2, none⟩) (by first | (rw [add_block]; exact hn362_2) | (show (Addr.add _ _).block ≠ _; rw [add_block]; exact hn362_2) | exact hn362_2) (.int .i64 a1)).trans hx362_2
  replace hx362_3 := (cell_far (p := ⟨gb361, 2, none⟩) (by first | (rw [add_block]; exact hn362_2) | (show (Addr.add _ _).block ≠ _; rw [add_block]; exact hn362_2) | exact hn362_2) (.int .i64 a1)).trans hx362_3
  replace hx362_4 := (cell_far (p := ⟨gb361, 2, none⟩) (by first | (rw [add_block]; exact hn362_2) | (show (Addr.add _ _).block ≠ _; rw [add_block]; exact hn362_2) | exact hn362_2) (.int .i64 a1)).trans hx362_4
  replace hx362_0 := (cell_far (p := ⟨gb361, 3, none⟩) (by first | (rw [add_block]; exact hn362_3) | (show (Addr.add _ _).block ≠ _; rw [add_block]; exact hn362_3) | exact hn362_3) (.int .i64 t360)).trans hx362_0
  replace hx362_1 := (cell_far (p := ⟨gb361, 3, none⟩) (by first | (rw [add_block]; exact hn362_3) | (show (Addr.add _ _).block ≠ _; rw [add_block]; exact hn362_3) | exact hn362_3) (.int .i64 t360)).trans hx362_1
  replace hx362_2 := (cell_far (p := ⟨gb361, 3, none⟩) (by first | (rw [add_block]; exact hn362_3) | (show (Addr.add _ _).block ≠ _; rw [add_block]; exact hn362_3) | exact hn362_3) (.int .i64 t360)).trans hx362_2
  replace hx362_3 := (cell_far (p := ⟨gb361, 3, none⟩) (by first | (rw [add_block]; exact hn362_3) | (show (Addr.add _ _).block ≠ _; rw [add_block]; exact hn362_3) | exact hn362_3) (.int .i64 t360)).trans hx362_3
  replace hx362_4 := (cell_far (p := ⟨gb361, 3, none⟩) (by first | (rw [add_block]; exact hn362_3) | (show (Addr.add _ _).block ≠ _; rw [add_block]; exact hn362_3) | exact hn362_3) (.int .i64 t360)).trans hx362_4
  replace hx362_0 := (cell_far (p := ⟨gb361, 4, none⟩) (by first | (rw [add_block]; exact hn362_4) | (show (Addr.add _ _).block ≠ _; rw [add_block]; exact hn362_4) | exact hn362_4) (.int .i64 0)).trans hx362_0
  replace hx362_1 := (cell_far (p := ⟨gb361, 4, none⟩) (by first | (rw [add_block]; exact hn362_4) | (show (Addr.add _ _).block ≠ _; rw [add_block]; exact hn362_4) | exact hn362_4) (.int .i64 0)).trans hx362_1
  replace hx362_2 := (cell_far (p := ⟨gb361, 4, none⟩) (by first | (rw [add_block]; exact hn362_4) | (show (Addr.add _ _).block ≠ _; rw [add_block]; exact hn362_4) | exact hn362_4) (.int .i64 0)).trans hx362_2
  replace hx362_3 := (cell_far (p := ⟨gb361, 4, none⟩) (by first | (rw [add_block]; exact hn362_4) | (show (Addr.add _ _).block ≠ _; rw [add_block]; exact hn362_4) | exact hn362_4) (.int .i64 0)).trans hx362_3
  replace hx362_4 := (cell_far (p := ⟨gb361, 4, none⟩) (by first | (rw [add_block]; exact hn362_4) | (show (Addr.add _ _).block ≠ _; rw [add_block]; exact hn362_4) | exact hn362_4) (.int .i64 0)).trans hx362_4
  clear hn362_0
  clear hn362_1
  clear hn362_2
  clear hn362_3
  clear hn362_4
  replace p362 := eq_true p362
  replace q362 := eq_true q362
  generalize hW_ : World.setCell _ ⟨gb361, 4, none⟩ _ = wq_ at hx362_0 hx362_1 hx362_2 hx362_3 hx362_4 ⊢
  replace hW_ := hW_.symm
  have BQ_ := am hW_
  have hzq_ := am hW_
  replace hW_ := am hW_
  go_wp2_with ((with_reducible refine gate_callee (f := 136) rfl ?_); refine goesL_ (some 30) rfl rfl Tryd.func136 (by kernel_rfl) rfl #[.agg #[.string ((rd_T23 t355 (ji15)).f0), .string ((rd_T23 t355 (ji15)).f1), .int .i64 ((rd_T23 t355 (ji15)).f2), .int .i64 ((rd_T23 t355 (ji15)).f3), .int .i64 ((rd_T23 t355 (ji15)).f4)]] rfl (by (try simp only [List.map_toArray, List.map_cons, List.map_nil]); first | done | (simp only [hji15]; rfl) | rfl | (simp only [List.length_drop, List.length_take]; rfl)) ?_; (try (clear hzq_ BQ_; obtain ⟨hW_⟩ := hW_; subst hW_)); (with_reducible refine (spec_l3Sum.calls k ((rd_T23 t355 (ji15)).f0) ((rd_T23 t355 (ji15)).f1) ((rd_T23 t355 (ji15)).f2) ((rd_T23 t355 (ji15)).f3) ((rd_T23 t355 (ji15)).f4) t363 _ A18.out).mono ?_); rintro e w19 ⟨rfl, hb⟩; refine ⟨_, rfl, ?_⟩; replace HO0 := am (Kd.V_below (by (with_reducible repeat (first | apply Kd.V_alloc | apply Kd.V_drewN | apply Kd.V_drew)); exact (Kd.V_mono (Kd.V_far (p := ⟨gb361, 4, none⟩) (Kd.V_far (p := ⟨gb361, 3, none⟩) (Kd.V_far (p := ⟨gb361, 2, none⟩) (Kd.V_far (p := ⟨gb361, 1, none⟩) (Kd.V_far (p := ⟨gb361, 0, none⟩) (Kd.V_mono HO0.out (fun k_ hk => (⟨hk, hk.2⟩ : _ ∧ k_ ≠ gb361))) (fun _ hk => hk.2) (.string t358)) (fun _ hk => hk.2) (.string t359)) (fun _ hk => hk.2) (.int .i64 a1)) (fun _ hk => hk.2) (.int .i64 t360)) (fun _ hk => hk.2) (.int .i64 0)) (fun _ h_ => h_.1))) hb); replace HO357 := am (Kd.R_below (by (with_reducible repeat (first | apply Kd.R_alloc | apply Kd.R_drewN | apply Kd.R_drew)); exact (Kd.R_mono (Kd.R_far (p := ⟨gb361, 4, none⟩) (Kd.R_far (p := ⟨gb361, 3, none⟩) (Kd.R_far (p := ⟨gb361, 2, none⟩) (Kd.R_far (p := ⟨gb361, 1, none⟩) (Kd.R_far (p := ⟨gb361, 0, none⟩) (Kd.R_mono HO357.out (fun k_ hk => (⟨hk, hk.2⟩ : _ ∧ k_ ≠ gb361))) (fun _ hk => hk.2) (.string t358)) (fun _ hk => hk.2) (.string t359)) (fun _ hk => hk.2) (.int .i64 a1)) (fun _ hk => hk.2) (.int .i64 t360)) (fun _ hk => hk.2) (.int .i64 0)) (fun _ h_ => h_.1))) hb); replace BK361 := kP (.cells #[.string t358, .string t359, .int .i64 a1, .int .i64 t360, .int .i64 0] 23 (0, 0)) BK361 hb; replace HB := kH HB hb; (try clear hb); have hz20 := bc5 BK361)
  (try (clear hzq_ BQ_; obtain ⟨hW_⟩ := hW_; subst hW_))
  go_meet
  case rel => exact ⟨_, (t363), H', ⟨xO⟩, ⟨by (with_reducible repeat (first | apply Kd.V_alloc | apply Kd.V_drewN | apply Kd.V_drew)); exact Kd.V_mono (Kd.V_far (p := ⟨gb361, 0, none⟩) (Kd.V_mono HO0.out (fun k_ hk => (⟨hk, hk.2⟩ : _ ∧ k_ ≠ gb361))) (fun _ hk => hk.2) (.string t363)) (fun _ hk => ⟨hk.1.1.1, ⟨hk.1.1.2, hk.1.2⟩⟩)⟩, ⟨by (with_reducible repeat (first | apply Kd.R_alloc | apply Kd.R_drewN | apply Kd.R_drew)); exact Kd.R_mono (Kd.R_far (p := ⟨gb361, 0, none⟩) (Kd.R_mono HO357.out (fun k_ hk => (⟨hk, hk.2⟩ : _ ∧ k_ ≠ gb361))) (fun _ hk => hk.2) (.string t363)) (fun _ hk => ⟨hk.1.1, hk.1.2⟩)⟩, ⟨fb BK361⟩, ⟨xB HB⟩⟩
 case rest =>
  clear HC8
  try clear c1
  try clear c2
  try clear p2
  try clear p3
  try clear q3
  try clear hx3
  try clear p6
  try clear c9
  try clear c13
  try clear c14
  try clear c14b0
  try clear c14b1
  try clear c16
  try clear c16b0
  try clear c17
  try clear c17b0
  try clear hz13
  try clear hz20
  try clear hx362_0
  try clear hx362_1
  try clear hx362_2
  try clear hx362_3
  try clear hx362_4
  try clear p362
  try clear q362
  obtain ⟨kq, x362000_7, HA, HJ7, HO_0, HO_8, BK361, HB⟩ := hcut
  cases kq with
  | zero => exact absurd HA.out (by simp [spec_l4Mine.j0])
  | succ kj7 =>
   have H := HA.out
   clear HA
   simp only [spec_l4Mine.j0] at H
   have HC21 := Aside0.mk H
   clear H
   go_upto_region 5 with (fail)
   (try (clear hzq_ BQ_; obtain ⟨hW_⟩ := hW_; subst hW_))
   go_cut [55] (fun v55 wc => ∃ (kq : Nat) (x55_20 : Bool), v55 = .bool x55_20 ∧ Aside0 (spec_l4Mine.j1 kq l0 l2 x55_20 x362000_7 t359 a1 t360 0 = some (r1, r2)) ∧ Aside0 (kq ≤ kj7) ∧ Aside0 (Kd.V k142 142 wc w.heap.size (fun k_ => (P0_ k_ ∨ w.heap.size ≤ k_) ∧ k_ ≠ gb361) (.slice A0 l0.length c0) l0) ∧ Aside0 (wc.heap[gb361]? = some (.cells #[.string x362000_7, .string t359, .int .i64 a1, .int .i64 t360, .int .i64 0] 23 (0, 0))) ∧ Aside0 (Below w.heap.size w wc))
   case first =>
    have H := HC21.out
    clear HC21
    by_cases c22 : (l0.length : Int) ≥ 20
    ·rw [if_pos c22] at H
     have c22b0 := decide_eq_true c22
     have c22b1 : decide (20 ≤ l0.length) = true := decide_eq_true (by omega)
     clear c22
     (first | rw [c22b0] | rw [c22b1] | (simp only [i64_w, i32_w]; rw [c22b0]) | skip)
     have H' := Aside0.mk H
     clear H
     go_wp2
     (try (clear hzq_ BQ_; obtain ⟨hW_⟩ := hW_; subst hW_))
     go_meet
     case rel => exact ⟨_, (true), xR, H', ⟨by have := HJ7.out; first | omega | exact Nat.le_refl _⟩, ⟨by (with_reducible repeat (first | apply Kd.V_alloc | apply Kd.V_drewN | apply Kd.V_drew)); exact Kd.V_mono HO_0.out (fun _ hk => ⟨hk.1, hk.2.2⟩)⟩, ⟨kb BK361⟩, ⟨xB HB⟩⟩
    rw [if_neg c22] at H
    have c22b0 := decide_eq_false c22
    have c22b1 : decide (20 ≤ l0.length) = false := decide_eq_false (by omega)
    clear c22
    (first | rw [c22b0] | rw [c22b1] | (simp only [i64_w, i32_w]; rw [c22b0]) | skip)
    replace H := oa H
    obtain ⟨t364, A23, H⟩ := H
    by_cases c24 : t364 = true
    rotate_left
    ·replace c24 := Bool.eq_false_iff.mpr c24
     subst c24
     rw [if_neg (show ¬ (false = true) by decide)] at H
     have H' := Aside0.mk H
     clear H
     go_wp2_with (go_at_call 60; (try (clear hzq_ BQ_; obtain ⟨hW_⟩ := hW_; subst hW_)); (with_reducible refine (spec_l1In.calls a1 0 99999 false _ A23.out).mono ?_); rintro e w' ⟨rfl, ⟨nd, rfl⟩⟩)
     (try (clear hzq_ BQ_; obtain ⟨hW_⟩ := hW_; subst hW_))
     go_meet
     case rel => exact ⟨_, (true), xR, H', ⟨by have := HJ7.out; first | omega | exact Nat.le_refl _⟩, ⟨by (with_reducible repeat (first | apply Kd.V_alloc | apply Kd.V_drewN | apply Kd.V_drew)); exact Kd.V_mono HO_0.out (fun _ hk => ⟨hk.1, hk.2.2⟩)⟩, ⟨kb BK361⟩, ⟨xB HB⟩⟩
    subst c24
    rw [if_pos rfl] at H
    by_cases c25 : (l0.length : Int) > 0
    rotate_left
    ·rw [if_neg c25] at H
     have c25b0 := decide_eq_false c25
     have c25b1 : decide (0 < l0.length) = false := decide_eq_false (by omega)
     clear c25
     have H' := Aside0.mk H
     clear H
     go_wp2_with (go_at_call 60; (try (clear hzq_ BQ_; obtain ⟨hW_⟩ := hW_; subst hW_)); (with_reducible refine (spec_l1In.calls a1 0 99999 true _ A23.out).mono ?_); rintro e w' ⟨rfl, ⟨nd, rfl⟩⟩)
     (try (clear hzq_ BQ_; obtain ⟨hW_⟩ := hW_; subst hW_))
     go_meet
     case rel => exact ⟨_, (false), xR, H', ⟨by have := HJ7.out; first | omega | exact Nat.le_refl _⟩, ⟨by (with_reducible repeat (first | apply Kd.V_alloc | apply Kd.V_drewN | apply Kd.V_drew)); exact Kd.V_mono HO_0.out (fun _ hk => ⟨hk.1, hk.2.2⟩)⟩, ⟨kb BK361⟩, ⟨xB HB⟩⟩
    rw [if_pos c25] at H
    have c25b0 := decide_eq_true c25
    have c25b1 : decide (0 < l0.length) = true := decide_eq_true (by omega)
    clear c25
    obtain ⟨ji26, hji26⟩ := je (wrap64 ((t355.length : Int) - 1))
    first | rw [hji26] at H | simp only [hji26] at H
    (try rw [hji26] at A23)
    have hji26w : (IntKind.i64.wrap ((t355.length : Int) - 1)) = ji26 := (i64_w _).trans hji26
    replace H := ipd H
    obtain ⟨c27b0, H⟩ := H
    replace H := ipd H
    obtain ⟨c28b0, H⟩ := H
    have H' := Aside0.mk H
    clear H
    go_wp2_with (go_at_call 60; (try (clear hzq_ BQ_; obtain ⟨hW_⟩ := hW_; subst hW_)); (with_reducible refine (spec_l1In.calls a1 0 99999 true _ A23.out).mono ?_); rintro e w' ⟨rfl, ⟨nd, rfl⟩⟩; have p365 : 0 ≤ ((ji26) : Int) := of_decide_eq_true xA; have q365 : (ji26) < (t355.length : Int) := of_decide_eq_true xA; obtain ⟨ad365, e365, hx365_0, hx365_1, hx365_2, hx365_3, hx365_4⟩ := at_T23 (Kd.R_reads' HO_8.out).2.2 (ji26) p365 q365; cases e365; replace p365 := eq_true p365; replace q365 := eq_true q365)
    (try (clear hzq_ BQ_; obtain ⟨hW_⟩ := hW_; subst hW_))
    go_meet
    case rel => exact ⟨_, (decide (a1 ≤ ((rd_T23 t355 (ji26)).f2))), (by first | rfl | (simp; done) | (simp only [← hji26] <;> (first | rfl | simp)) | (simp [*]; done)), H', ⟨by have := HJ7.out; first | omega | exact Nat.le_refl _⟩, ⟨by (with_reducible repeat (first | apply Kd.V_alloc | apply Kd.V_drewN | apply Kd.V_drew)); exact Kd.V_mono HO_0.out (fun _ hk => ⟨hk.1, hk.2.2⟩)⟩, ⟨kb BK361⟩, ⟨xB HB⟩⟩
   case rest =>
    clear HC21
    try clear c1
    try clear c2
    try clear p2
    try clear p3
    try clear q3
    try clear hx3
    try clear p6
    try clear c9
    try clear c13
    try clear c14
    try clear c14b0
    try clear c14b1
    try clear c16
    try clear c16b0
    try clear c17
    try clear c17b0
    try clear c22
    try clear c22b0
    try clear c22b1
    try clear c24
    try clear c25
    try clear c25b0
    try clear c25b1
    try clear c27
    try clear c27b0
    try clear c28
    try clear c28b0
    try clear hz13
    try clear hz20
    try clear hx362_0
    try clear hx362_1
    try clear hx362_2
    try clear hx362_3
    try clear hx362_4
    try clear hx365_0
    try clear hx365_1
    try clear hx365_2
    try clear hx365_3
    try clear hx365_4
    try clear p2
    try clear p3
    try clear p362
    try clear p365
    try clear p6
    try clear q3
    try clear q362
    try clear q365
    obtain ⟨kq, x55_20, rfl, HA, HJ20, HO_0, BK361, HB⟩ := hcut
    cases kq with
    | zero => exact absurd HA.out (by simp [spec_l4Mine.j1])
    | succ kj20 =>
     have H := HA.out
     clear HA
     simp only [spec_l4Mine.j1] at H
     by_cases c29 : x55_20 = true
     ·subst c29
      rw [if_pos rfl] at H
      simp only [Option.some.injEq, Prod.mk.injEq] at H
      obtain ⟨rfl, rfl⟩ := H
      go_wp2
      (try (clear hzq_ BQ_; obtain ⟨hW_⟩ := hW_; subst hW_))
      go_ret2
      exact ⟨_, xE, (by first | exact fun h_ => absurd h_ (by decide) | trivial), xB HB⟩
     replace c29 := Bool.eq_false_iff.mpr c29
     subst c29
     rw [if_neg (show ¬ (false = true) by decide)] at H
     replace H := Option.bind_eq_some_iff.mp H
     obtain ⟨⟨t366, t367, t368, t369, t370, t371⟩, A300, H⟩ := H
     have A30 := Aside0.mk A300
     clear A300
     (first | have hz35 := bc5 (kF _ BK361 hW_.out) | have hz35 := bc5 BK361)
     go_upto_if 63 with (first | ((with_reducible refine gg ?_); refine gL 59 Tryd.func137 #[.agg #[.string x362000_7, .string t359, .int .i64 a1, .int .i64 t360, .int .i64 0]] ?_; (try (clear hzq_ BQ_; obtain ⟨hW_⟩ := hW_; subst hW_)); (with_reducible refine (spec_l3Mine.calls kj20 x362000_7 t359 a1 t360 0 t366 t367 t368 t369 t370 t371 _ A30.out).mono ?_); rintro e w36 ⟨rfl, hb⟩; refine ⟨_, rfl, ?_⟩; replace HO_0 := am (Kd.V_below (va HO_0) hb); replace BK361 := kP _ BK361 hb; replace HB := kH HB hb; (try clear hb)) | ((with_reducible refine gate_dst (N := 10) rfl ?_); (try (refine gate_guard (by rfl) ?_; dsimp only)); refine box_event ?hg (N := 10) ?hd (cs := #[.string (⟨#[]⟩ : ByteArray), .string (⟨#[]⟩ : ByteArray), .int .i64 0, .int .i64 0, .int .i64 0]) (t := 23) ?hr ?_; (try (clear hzq_ BQ_; obtain ⟨hW_⟩ := hW_; subst hW_)); (case hd => rfl); (case hg => rfl); (case hr => first | (go_simp; done) | (go_simp; rfl)); intro gb372 hg w37 hbox hb; replace HO_0 := am (Kd.V_below (Kd.V_elderB (va HO_0) gb372 (Nat.le_of_eq hg.symm)) hb); have BK372 := am (hbox); have GW372 := zB hg HB; have GE372 := zB hg HB; replace HB := kH HB hb; have NB361_372 := nl hg (kb BK361); have NB372_361 := ng hg (kb BK361); replace BK361 := kP _ BK361 hb; clear hb hbox hg; have hnb38 := NB372_361.out; have hnc38 := NB361_372.out; have hz39 := bc5 BK372))
     by_cases c31 : t371 = true
     rotate_left
     ·replace c31 := Bool.eq_false_iff.mpr c31
      subst c31
      try simp only [Bool.not_true, Bool.not_false]
      rw [if_neg (show ¬ (false = true) by decide)] at H
      simp only [Option.some.injEq, Prod.mk.injEq] at H
      obtain ⟨rfl, rfl⟩ := H
      go_wp2
      (try (clear hzq_ BQ_; obtain ⟨hW_⟩ := hW_; subst hW_))
      go_ret2
      exact ⟨_, xE, (by first | exact fun h_ => absurd h_ (by decide) | trivial), xB HB⟩
     subst c31
     try simp only [Bool.not_true, Bool.not_false]
     rw [if_pos rfl] at H
     replace H := oa H
     obtain ⟨t373, A32, H⟩ := H
     obtain ⟨y376, Ny376⟩ := yA (([] : List ByteArray) : List ByteArray)
     rw [← Ny376.out] at H
     replace H := ipa H
     obtain ⟨LMc33, H⟩ := H
     obtain ⟨y379, Ny379⟩ := yA (y376 ++ l2 : List ByteArray)
     rw [← Ny379.out] at H
     replace H := ipa H
     obtain ⟨LMc34, H⟩ := H
     obtain ⟨y382, Ny382⟩ := yA (t373 ++ [(⟨(⟨t366, t367, t368, t369, t370⟩ : S23), y379⟩ : S142)] : List (S142))
     rw [← Ny382.out] at H
     simp only [Option.some.injEq, Prod.mk.injEq] at H
     obtain ⟨rfl, rfl⟩ := H
     try go_wp2
     have n0_ : Aside0 (Kd.V k142 142 (((((w37.setCell ⟨gb372, 0, none⟩ (.string t366)).setCell ⟨gb372, 1, none⟩ (.string t367)).setCell ⟨gb372, 2, none⟩ (.int .i64 t368)).setCell ⟨gb372, 3, none⟩ (.int .i64 t369)).setCell ⟨gb372, 4, none⟩ (.int .i64 t370)) w.heap.size (fun k_ => (P0_ k_ ∨ w.heap.size ≤ k_) ∧ k_ ≠ gb361 ∧ k_ ≠ gb372) (.slice A0 l0.length c0) l0) := ⟨by (with_reducible repeat (first | apply Kd.V_alloc | apply Kd.V_drewN | apply Kd.V_drew)); exact Kd.V_mono (Kd.V_far (p := ⟨gb372, 4, none⟩) (Kd.V_far (p := ⟨gb372, 3, none⟩) (Kd.V_far (p := ⟨gb372, 2, none⟩) (Kd.V_far (p := ⟨gb372, 1, none⟩) (Kd.V_far (p := ⟨gb372, 0, none⟩) (Kd.V_mono HO_0.out (fun k_ hk => (⟨hk, hk.2⟩ : _ ∧ k_ ≠ gb372))) (fun _ hk => hk.2) (.string t366)) (fun _ hk => hk.2) (.string t367)) (fun _ hk => hk.2) (.int .i64 t368)) (fun _ hk => hk.2) (.int .i64 t369)) (fun _ hk => hk.2) (.int .i64 t370)) (fun _ hk => ⟨hk.1.1.1, ⟨hk.1.1.2, hk.1.2⟩⟩)⟩
     have n1_ : Aside0 ((((((w37.setCell ⟨gb372, 0, none⟩ (.string t366)).setCell ⟨gb372, 1, none⟩ (.string t367)).setCell ⟨gb372, 2, none⟩ (.int .i64 t368)).setCell ⟨gb372, 3, none⟩ (.int .i64 t369)).setCell ⟨gb372, 4, none⟩ (.int .i64 t370)).heap[gb361]? = some (.cells #[.string x362000_7, .string t359, .int .i64 a1, .int .i64 t360, .int .i64 0] 23 (0, 0))) := ⟨fb BK361⟩
     have n2_ : Aside0 ((((((w37.setCell ⟨gb372, 0, none⟩ (.string t366)).setCell ⟨gb372, 1, none⟩ (.string t367)).setCell ⟨gb372, 2, none⟩ (.int .i64 t368)).setCell ⟨gb372, 3, none⟩ (.int .i64 t369)).setCell ⟨gb372, 4, none⟩ (.int .i64 t370)).heap[gb372]? = some (.cells #[.string t366, .string t367, .int .i64 t368, .int .i64 t369, .int .i64 t370] 23 (0, 0))) := ⟨fb BK372⟩
     have n3_ : Aside0 (Below w.heap.size w (((((w37.setCell ⟨gb372, 0, none⟩ (.string t366)).setCell ⟨gb372, 1, none⟩ (.string t367)).setCell ⟨gb372, 2, none⟩ (.int .i64 t368)).setCell ⟨gb372, 3, none⟩ (.int .i64 t369)).setCell ⟨gb372, 4, none⟩ (.int .i64 t370))) := ⟨xB HB⟩
     (try clear HO_0)
     (try clear BK361)
     (try clear BK372)
     (try clear HB)
     generalize (((((w37.setCell ⟨gb372, 0, none⟩ (.string t366)).setCell ⟨gb372, 1, none⟩ (.string t367)).setCell ⟨gb372, 2, none⟩ (.int .i64 t368)).setCell ⟨gb372, 3, none⟩ (.int .i64 t369)).setCell ⟨gb372, 4, none⟩ (.int .i64 t370)) = w40 at n0_ n1_ n2_ n3_ ⊢
     have HO_0 := n0_
     have BK361 := n1_
     have BK372 := n2_
     have HB := n3_
     clear n0_ n1_ n2_ n3_
     replace HO_0 := am (Kd.V_drew HO_0.out)
     replace BK361 := am (blk_drew BK361.out)
     replace BK372 := am (blk_drew BK372.out)
     replace HB := am (below_drew1 HB.out)
     (try (clear hzq_ BQ_; obtain ⟨hW_⟩ := hW_; subst hW_))
     refine start_ (n := 11) (S := cs5 gb372 (.string t366) (.string t367) (.int .i64 t368) (.int .i64 t369) (.int .i64 t370)) (ds := []) (bm 11 0) (by kernel_rfl) rfl rfl (bz5 BK372) (fun hHeld => ?_); refine with_tabW spec_l4Mine.tab10 spec_l4Mine.bits10 (fun HT_ HW_ => ?_)
     generalize w40.drew = w41 at HO_0 BK361 BK372 HB hHeld ⊢
     refine pA 0 65 (bm 11 1) HT_ ?_
     refine pA 4 69 (bm 11 17) HT_ ?_
     refine tA 2 67 (bm 11 21) HT_ HW_ hHeld ?_
     refine join_ (σ := Value × Value) 6 (bm 11 31) (fun s_ => [(66, s_.1), (68, s_.2)]) (fun s_ w' => (w'.cell? ⟨gb372, 0, none⟩ = some (.string t366) ∧ w'.cell? ⟨gb372, 1, none⟩ = some (.string t367) ∧ w'.cell? ⟨gb372, 2, none⟩ = some (.int .i64 t368) ∧ w'.cell? ⟨gb372, 3, none⟩ = some (.int .i64 t369) ∧ w'.cell? ⟨gb372, 4, none⟩ = some (.int .i64 t370)) ∧ (Kd.S k142 142 w' w.heap.size (fun k_ => (w.heap.size ≤ k_) ∧ some k_ ≠ (s_.2 : Value).ownBlock) s_.1 t373) ∧ (Kd.R Kd.string 9 w' w.heap.size (fun k_ => (w.heap.size ≤ k_)) s_.2 y376) ∧ (Kd.V k142 142 w' w.heap.size (fun k_ => (P0_ k_ ∨ w.heap.size ≤ k_) ∧ some k_ ≠ (s_.1 : Value).ownBlock ∧ some k_ ≠ (s_.2 : Value).ownBlock ∧ k_ ≠ gb361 ∧ k_ ≠ gb372) (.slice A0 l0.length c0) l0) ∧ (w'.heap[gb361]? = some (.cells #[.string x362000_7, .string t359, .int .i64 a1, .int .i64 t360, .int .i64 0] 23 (0, 0))) ∧ (w'.heap[gb372]? = some (.cells #[.string t366, .string t367, .int .i64 t368, .int .i64 t369, .int .i64 t370] 23 (0, 0))) ∧ (Below w.heap.size w w')) ?_ ?_
     rotate_left
     ·intro hCont
      refine two_ (i := 1) (j := 3) (Ni := some 66) (Nj := some 68) (bm 11 23) (bm 11 29) rfl rfl rfl rfl (two_of HT_.out (by kernel_rfl)) (by decide) (by decide) (fun K hK => ?_) (fun K hK => ?_)
      ·skip
       refine gA Tryd.func138 #[.slice A0 l0.length c0] ?_
       with_reducible refine (spec_l4Copy.calls kj20 _ _ l0 t373 _ ?side1 ?side2 A32.out).mono ?_
       (case side1 => exact cr (Kd.V_reads' HO_0.out).2.2)
       (case side2 => exact (Kd.V_reads' HO_0.out).2.1)
       rintro e w42 ⟨v374, rfl, ho0, hb⟩
       refine ⟨_, rfl, ?_⟩
       replace HO_0 := am (Kd.V_elder' (va HO_0) (Kd.S_base ho0) hb)
       have HO375 := am (Kd.S_lower (Kd.S_newM (M := fun k_ => (w.heap.size ≤ k_)) ho0 (below_size (xB HB)) (fun k_ h_ => h_)) (below_size (xB HB)))
       replace BK361 := kP _ BK361 hb
       replace BK372 := kP _ BK372 hb
       replace HB := kH HB hb
       (try clear hb)
       (try clear hb2)
       (try clear hk)
       (try clear hi)
       (try clear ho0)
       refine hK.out _ _ (bz5 BK372) (fun hHeld => ?_)
       clear hK K
       refine nA (some 66) ?_
       refine oA 3 (some 68) (bm 11 31) HT_ fun K hK => ?_
       refine Kd.R_lit_step Kd.string _ 9 ?hg (N := 68) ?hd (xs := ([] : List ByteArray)) (inner := []) (ok := fun _ => True) (okp := fun _ => True) ?hr ?hp (fun _ hk => hk) trivial (Below.refl _ _) (Nat.le_refl _) (by simp) ?_; (case hd => rfl); (case hg => rfl); (case hr => first | (go_simp; done) | (go_simp; rfl)); (case hp => exact (Reps.none _ _))
       intro v377 w43 ho44 hb hg_ hnew_
       clear hg_ hnew_
       (first | rw [← Ny376.out] at ho44 | (simp only [Int.reduceToNat] at ho44; rw [← Ny376.out] at ho44))
       replace HO_0 := am (Kd.V_elder' (va HO_0) (Kd.R_base ho44) hb)
       replace HO375 := am (Kd.S_elder' (sx HO375) (Kd.R_base ho44) hb)
       have HO378 := am (Kd.R_lower (Kd.R_newM (M := fun k_ => (w.heap.size ≤ k_)) ho44 (below_size (xB HB)) (fun k_ h_ => h_)) (below_size (xB HB)))
       replace BK361 := kP _ BK361 hb
       replace BK372 := kP _ BK372 hb
       replace HB := kH HB hb
       clear hb ho44
       refine hK.out _ _ (bz5 BK372) (fun hHeld => ?_)
       clear hK K
       refine nA (some 68) ?_
       exact norm_ (by simp only [putAll, Act.put, sa, s0, s1]) (hCont (v374, v377) _ ⟨hHeld, (by (with_reducible repeat (first | apply Kd.S_alloc | apply Kd.S_drewN | apply Kd.S_drew)); exact Kd.S_mono HO375.out (fun _ hk => ⟨hk.1.1, hk.2⟩)), (rM HO378 (fun _ hk => hk.1)), (by (with_reducible repeat (first | apply Kd.V_alloc | apply Kd.V_drewN | apply Kd.V_drew)); exact Kd.V_mono HO_0.out (fun _ hk => ⟨hk.1.1.1, ⟨hk.1.2, ⟨hk.2, ⟨hk.1.1.2.1, hk.1.1.2.2⟩⟩⟩⟩)), (kb BK361), (kb BK372), (xB HB)⟩)
      ·skip
       refine Kd.R_lit_step Kd.string _ 9 ?hg (N := 68) ?hd (xs := ([] : List ByteArray)) (inner := []) (ok := fun _ => True) (okp := fun _ => True) ?hr ?hp (fun _ hk => hk) trivial (Below.refl _ _) (Nat.le_refl _) (by simp) ?_; (case hd => rfl); (case hg => rfl); (case hr => first | (go_simp; done) | (go_simp; rfl)); (case hp => exact (Reps.none _ _))
       intro v377 w42 ho43 hb hg_ hnew_
       clear hg_ hnew_
       (first | rw [← Ny376.out] at ho43 | (simp only [Int.reduceToNat] at ho43; rw [← Ny376.out] at ho43))
       replace HO_0 := am (Kd.V_elder' (va HO_0) (Kd.R_base ho43) hb)
       have HO378 := am (Kd.R_lower (Kd.R_newM (M := fun k_ => (w.heap.size ≤ k_)) ho43 (below_size (xB HB)) (fun k_ h_ => h_)) (below_size (xB HB)))
       replace BK361 := kP _ BK361 hb
       replace BK372 := kP _ BK372 hb
       replace HB := kH HB hb
       clear hb ho43
       refine hK.out _ _ (bz5 BK372) (fun hHeld => ?_)
       clear hK K
       refine nA (some 68) ?_
       refine oA 1 (some 66) (bm 11 31) HT_ fun K hK => ?_
       refine gA Tryd.func138 #[.slice A0 l0.length c0] ?_
       with_reducible refine (spec_l4Copy.calls kj20 _ _ l0 t373 _ ?side1 ?side2 A32.out).mono ?_
       (case side1 => exact cr (Kd.V_reads' HO_0.out).2.2)
       (case side2 => exact (Kd.V_reads' HO_0.out).2.1)
       rintro e w44 ⟨v374, rfl, ho0, hb⟩
       refine ⟨_, rfl, ?_⟩
       replace HO_0 := am (Kd.V_elder' (va HO_0) (Kd.S_base ho0) hb)
       have HO375 := am (Kd.S_lower (Kd.S_new' (Kd.S_newM (M := fun k_ => (w.heap.size ≤ k_)) ho0 (below_size (xB HB)) (fun k_ h_ => h_)) (Kd.R_lt (ra HO378))) (below_size (xB HB)))
       replace HO378 := rk HO378 hb
       replace BK361 := kP _ BK361 hb
       replace BK372 := kP _ BK372 hb
       replace HB := kH HB hb
       (try clear hb)
       (try clear hb2)
       (try clear hk)
       (try clear hi)
       (try clear ho0)
       refine hK.out _ _ (bz5 BK372) (fun hHeld => ?_)
       clear hK K
       refine nA (some 66) ?_
       exact norm_ (by simp only [putAll, Act.put, sa, s0, s1]) (hCont (v374, v377) _ ⟨hHeld, (by (with_reducible repeat (first | apply Kd.S_alloc | apply Kd.S_drewN | apply Kd.S_drew)); exact Kd.S_mono HO375.out (fun _ hk => ⟨hk.1.1, hk.2⟩)), (rM HO378 (fun _ hk => hk.1)), (by (with_reducible repeat (first | apply Kd.V_alloc | apply Kd.V_drewN | apply Kd.V_drew)); exact Kd.V_mono HO_0.out (fun _ hk => ⟨hk.1.1.1, ⟨hk.2, ⟨hk.1.2, ⟨hk.1.1.2.1, hk.1.1.2.2⟩⟩⟩⟩)), (kb BK361), (kb BK372), (xB HB)⟩)
     rintro ⟨v374, v377⟩ w45 ⟨hS_, h0_, h1_, h2_, h3_, h4_, h5_⟩
     try dsimp only at h0_ h1_ h2_ h3_ h4_ h5_
     have n0_ := am h0_
     have n1_ := am h1_
     have n2_ := am h2_
     have n3_ := am h3_
     have n4_ := am h4_
     have n5_ := am h5_
     clear HO_0
     clear BK361
     clear BK372
     clear HB
     clear h0_ h1_ h2_ h3_ h4_ h5_
     have HO375 := n0_
     have HO378 := n1_
     have HO_0 := n2_
     have BK361 := n3_
     have BK372 := n4_
     have HB := n5_
     clear n0_ n1_ n2_ n3_ n4_ n5_
     have hHeld : w45.cell? ⟨gb372, 0, none⟩ = some (.string t366) ∧ w45.cell? ⟨gb372, 1, none⟩ = some (.string t367) ∧ w45.cell? ⟨gb372, 2, none⟩ = some (.int .i64 t368) ∧ w45.cell? ⟨gb372, 3, none⟩ = some (.int .i64 t369) ∧ w45.cell? ⟨gb372, 4, none⟩ = some (.int .i64 t370) := hS_
     refine norm_ (a' := ?_) ?_ ?_
     rotate_left
     ·simp only [putAll, Act.put, sa, s0, s1]
      rfl
     refine oA 5 (some 70) (bm 11 63) HT_ fun K hK => ?_
     refine Kd.R_append_rows_step Kd.string (w0 := w) w.heap.size (by rfl) (.tmp 68) (.tmp 69) 56 9 (.string ⟨#[]⟩) 16 rfl Tryd.underlying56 info9 rfl (by decide) (by omega) v377 y376 l2 _ _ _ (fun k_ => (w.heap.size ≤ k_)) (fun _ => False) rfl rfl ?aO ?aR (fun _ _ h => h) (fun _ h => h.elim) ?aF ?aB ?aS ?aL ?_
     (case aR => exact cb HR2 HB)
     (case aB => exact (xB HB))
     (case aF => exact (fun k_ hk => (Nat.le_trans (below_size (xB HB)) hk)))
     (case aO => exact (ra HO378))
     (case aS => exact (below_size (xB HB)))
     (case aL => have := LMc33.out; omega)
     intro v380 w46 ho hb hg hat
     rw [← Ny379.out] at ho
     have n0_ := Aside0.mk (Kd.V_afterv (ok := (fun k_ => (P0_ k_ ∨ w.heap.size ≤ k_) ∧ some k_ ≠ (v374 : Value).ownBlock ∧ k_ ≠ gb361 ∧ k_ ≠ gb372)) (by (with_reducible repeat (first | apply Kd.V_alloc | apply Kd.V_drewN | apply Kd.V_drew)); exact Kd.V_mono HO_0.out (fun _ hk => ⟨⟨hk.1, ⟨hk.2.1, ⟨hk.2.2.2.1, hk.2.2.2.2⟩⟩⟩, hk.2.2.1⟩)) hg hat)
     have n1_ := Aside0.mk (blk_grown (g := gb361) (o := .cells #[.string x362000_7, .string t359, .int .i64 a1, .int .i64 t360, .int .i64 0] 23 (0, 0)) (kb BK361) hg (Kd.R_ne HO378.out BK361.out (by decide)))
     have n2_ := Aside0.mk (blk_grown (g := gb372) (o := .cells #[.string t366, .string t367, .int .i64 t368, .int .i64 t369, .int .i64 t370] 23 (0, 0)) (kb BK372) hg (Kd.R_ne HO378.out BK372.out (by decide)))
     have n3_ := Aside0.mk (Kd.S_after (ok := (fun k_ => (w.heap.size ≤ k_))) (sx HO375) hg hat)
     have n4_ := Aside0.mk (hb)
     have n5_ := Aside0.mk (ho)
     clear HO_0
     clear BK361
     clear BK372
     clear HO375
     clear HB
     clear HO378
     have HO_0 := n0_
     have BK361 := n1_
     have BK372 := n2_
     have HO375 := n3_
     have HB := n4_
     have HO381 := n5_
     clear n0_ n1_ n2_ n3_ n4_ n5_
     clear ho hb hg hat
     obtain ⟨Ao47, co47, eo47⟩ := Kd.R_slice HO381.out
     (first | subst eo47 | (injection eo47 with f1_ f2_ f3_; have f4_ := f1_.symm; have f5_ := f3_.symm; clear f1_ f2_ f3_; subst f4_; subst f5_))
     refine hK.out _ _ (bz5 BK372) (fun hHeld => ?_)
     clear hK K
     refine nA (some 70) ?_
     refine pA 6 71 (bm 11 127) HT_ ?_
     refine oA 7 (some 72) (bm 11 255) HT_ fun K hK => ?_
     refine value_ (w1 := ?_) (v := ?_) (by rfl) rfl ?_ ?_
     rotate_left 2
     ·go_simp
      constructor
      ·rfl
      ·rfl
     refine hK.out _ _ ⟨(blk_cell (blk_alloc BK372.out _) 0).trans rfl, (blk_cell (blk_alloc BK372.out _) 1).trans rfl, (blk_cell (blk_alloc BK372.out _) 2).trans rfl, (blk_cell (blk_alloc BK372.out _) 3).trans rfl, (blk_cell (blk_alloc BK372.out _) 4).trans rfl⟩ (fun hHeld => ?_)
     clear hK K
     refine nA (some 72) ?_
     refine oA 8 (some 73) (bm 11 511) HT_ fun K hK => ?_
     refine Kd.S_append_step k142 (w0 := w) w.heap.size (by rfl) (.tmp 66) (.tmp 72) 128 142 (.agg #[(.string ⟨#[]⟩), (.string ⟨#[]⟩), (.int .i64 0), (.int .i64 0), (.int .i64 0), (.slice none 0 0)]) 80 rfl Tryd.underlying128 info142 rfl (by decide) (by omega) v374 t373 (⟨(⟨t366, t367, t368, t369, t370⟩ : S23), y379⟩ : S142) [.string t366, .string t367, .int .i64 t368, .int .i64 t369, .int .i64 t370, .slice Ao47 y379.length co47] (fun k_ => (w.heap.size ≤ k_)) (fun k_ => some k_ = (.slice Ao47 y379.length co47 : Value).ownBlock) rfl rfl ?aP (fun k_ hk_ => ((Kd.R_mono (ok' := fun k_ => ((fun k_ => (w.heap.size ≤ k_))) k_ ∧ some k_ ≠ (v374 : Value).ownBlock) (Kd.R_apart' (HO381.out) (Kd.S_typed HO375.out) (by decide)) (fun k_ hk => ⟨hk.1, hk.2⟩))).1 k_ hk_.symm) ?aF ?aO ?aB ?aS ?aL ?_
     (case aP => exact k142_mkM _ _ _ (⟨(⟨t366, t367, t368, t369, t370⟩ : S23), y379⟩ : S142) (Kd.R_mono (Kd.R_tight rfl (Kd.R_mono (ok' := fun k_ => ((fun k_ => (w.heap.size ≤ k_))) k_ ∧ some k_ ≠ (v374 : Value).ownBlock) (Kd.R_apart' (HO381.out) (Kd.S_typed HO375.out) (by decide)) (fun k_ hk => ⟨hk.1, hk.2⟩))) (fun _ h_ => h_)))
     (case aB => exact (xB HB))
     (case aF => exact (fun k_ hk => (Nat.le_trans (below_size (xB HB)) hk)))
     (case aO => exact (by (with_reducible repeat (first | apply Kd.S_alloc | apply Kd.S_drewN | apply Kd.S_drew)); exact Kd.S_mono HO375.out (fun k_ hk => ⟨hk.1, fun e_ => hk.2 e_⟩)))
     (case aS => exact (below_size (xB HB)))
     (case aL => have := LMc34.out; omega)
     intro v383 w48 ho hb hg hat
     rw [← Ny382.out] at ho
     have n0_ := Aside0.mk (Kd.V_afterv (ok := (fun k_ => (P0_ k_ ∨ w.heap.size ≤ k_) ∧ some k_ ≠ (.slice Ao47 y379.length co47 : Value).ownBlock ∧ k_ ≠ gb361 ∧ k_ ≠ gb372)) (by (with_reducible repeat (first | apply Kd.V_alloc | apply Kd.V_drewN | apply Kd.V_drew)); exact Kd.V_mono HO_0.out (fun _ hk => ⟨⟨hk.1.1, ⟨hk.2, ⟨hk.1.2.2.1, hk.1.2.2.2⟩⟩⟩, hk.1.2.1⟩)) hg hat)
     have n1_ := Aside0.mk (blk_grown (g := gb361) (o := .cells #[.string x362000_7, .string t359, .int .i64 a1, .int .i64 t360, .int .i64 0] 23 (0, 0)) (kb BK361) hg (Kd.S_ne HO375.out BK361.out (by decide)))
     have n2_ := Aside0.mk (blk_grown (g := gb372) (o := .cells #[.string t366, .string t367, .int .i64 t368, .int .i64 t369, .int .i64 t370] 23 (0, 0)) (kb BK372) hg (Kd.S_ne HO375.out BK372.out (by decide)))
     have n3_ := Aside0.mk (hb)
     have n4_ := Aside0.mk (ho)
     clear HO_0
     clear BK361
     clear BK372
     clear HB
     clear HO375
     clear HO381
     have HO_0 := n0_
     have BK361 := n1_
     have BK372 := n2_
     have HB := n3_
     have HO384 := n4_
     clear n0_ n1_ n2_ n3_ n4_
     clear ho hb hg hat
     refine hK.out _ _ (bz5 BK372) (fun hHeld => ?_)
     clear hK K
     refine nA (some 73) ?_
     refine pA 9 6 (bm 11 1023) HT_ ?_
     refine pA 10 7 (bm 11 2047) HT_ ?_
     refine done_ (done_of HT_.out (by kernel_rfl)) ?_
     try go_wp2
     (try (clear hzq_ BQ_; obtain ⟨hW_⟩ := hW_; subst hW_))
     go_ret2
     exact ⟨_, xE, (by first | exact fun _ => (sx HO384) | exact (sx HO384)), xB HB⟩
end Go.Proofs.YtgjljbaadglpnaaDoor.PFnHeadGet
