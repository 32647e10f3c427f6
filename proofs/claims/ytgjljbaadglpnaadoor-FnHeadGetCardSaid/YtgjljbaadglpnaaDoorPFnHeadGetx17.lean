/- Functions of the program and what each answers: the kit's print, shortened (wip/press2.py). -/
import Derived.Test.YtgjljbaadglpnaaDoorPFnHeadGetx0
import Derived.Test.YtgjljbaadglpnaaDoorPFnHeadGetx8
import Derived.Test.YtgjljbaadglpnaaDoorPFnHeadGetx11
import Derived.Test.YtgjljbaadglpnaaDoorPFnHeadGetx16
namespace Go.Proofs.YtgjljbaadglpnaaDoor.PFnHeadGet
open Go.Proofs.YtgjljbaadglpnaaDoor.Sq Go.RowKit Go.Proofs.YtgjljbaadglpnaaDoorW.PrintWords Go.Proofs.YtgjljbaadglpnaaDoorW.PrintLast Go.Proofs.YtgjljbaadglpnaaDoorW.PrintMore
attribute [local go_sem] max2_int min2_int max_two min_two max_three min_three max_four min_four   -- for this text's walks alone
set_option linter.unusedVariables false
set_option linter.unusedSimpArgs false
set_option maxHeartbeats 64000000
set_option maxRecDepth 100000
/-- The last element of a row whose elements lie apart, and the first m ones: its cells, its blocks (okp), and that none of theirs is one of them. -/
theorem s_last {α : Type} {d : Kd α} {e base c n : Nat} {W : World} {ok : Nat → Prop} {A : Option Addr} {xs : List α} (h : Kd.S d e W base ok (.slice A n c) xs) (z : α) (m : Nat) (hm : m < xs.length) (i : Int) (hi : i = (xs.length : Int) - 1) :
  ∃ (cs : List Value) (okp : Nat → Prop), d.M W base okp (xs.getD i.toNat z) cs ∧ (∀ k, okp k → ok k ∧ some k ≠ (Value.slice A n c).ownBlock) ∧ Kd.S d e W base (fun k => ok k ∧ ¬ okp k) (.slice A m c) (xs.take m) ∧
   cs.length = d.sz ∧ ∃ ad, A = some ad ∧ ∀ j u, cs[j]? = some u → W.cell? (ad.add (i.toNat * d.sz + j)) = some u := by
 obtain ⟨f, hR⟩ := h
 have hz : xs.zipIdx.length = xs.length := List.length_zipIdx
 obtain ⟨A', c', hv, _, _⟩ := Kd.R_reads hR
 injection hv with ha hn hc
 have hlen : n = xs.length := hn.trans hz
 have hi0 : i.toNat < xs.length := by omega
 obtain ⟨ad, hA⟩ : ∃ ad, A = some ad := by
  obtain ⟨_, _, hcc⟩ := (Kd.R_reads' hR).2.2
  obtain ⟨ad, had, _⟩ := hcc (by omega)
  exact ⟨ad, had⟩
 subst hA
 obtain ⟨cs, hcl, hM, hcell⟩ := Kd.R_getA hR (z, i.toNat) i (by omega) (by omega)
 have hget : xs.zipIdx.getD i.toNat (z, i.toNat) = (xs.getD i.toNat z, i.toNat) := by
  rw [List.getD_eq_getElem?_getD, List.getD_eq_getElem?_getD, List.getElem?_zipIdx, List.getElem?_eq_getElem hi0]
  simp
 rw [hget] at hM
 refine ⟨cs, fun k => (ok k ∧ some k ≠ (Value.slice (some ad) n c).ownBlock) ∧ f k = i.toNat, hM, fun k hk => hk.1, ?_, hcl, ad, rfl, hcell⟩
 have h2 := Kd.S_take (m := m) (⟨f, hR⟩ : Kd.S d e W base ok (.slice (some ad) n c) xs) (by omega)
 have h3 := Kd.R_take hR (m := m) (by omega)
 have he : (xs.take m).zipIdx = xs.zipIdx.take m := by
  apply List.ext_getElem?
  intro j
  simp only [List.getElem?_zipIdx, List.getElem?_take, Nat.zero_add]
  split <;> simp
 refine ⟨f, ?_⟩
 rw [he]
 obtain ⟨h0, inner, ho, hr⟩ := h3
 refine ⟨fun k hk => ⟨h0 k hk, fun hp => hp.1.2 (hk.symm.trans (by cases ad; rfl))⟩, inner, ho, hr.1, fun j p hj => ?_⟩
 have hjm : j < m := by
  have := (List.getElem?_eq_some_iff.1 hj).1
  rw [List.length_take] at this
  omega
 have hp2 : p.2 = j := by
  rw [List.getElem?_take_of_lt hjm, List.getElem?_zipIdx] at hj
  obtain ⟨x, _, rfl⟩ := Option.map_eq_some_iff.1 hj
  simp
 exact d.M_mono (fun k hk => ⟨⟨⟨hk.1.1, fun hq => by have := hq.2; have h7 : f k = p.2 := hk.2; omega⟩, hk.1.2⟩, hk.2⟩) (hr.2 j p hj)
theorem s_len {α : Type} {d : Kd α} {e base : Nat} {W : World} {ok : Nat → Prop} {v : Value} {xs : List α} (h : Kd.S d e W base ok v xs) : (xs.length : Int) ≤ 9223372036854775807 := by
 obtain ⟨inner, ho⟩ := Kd.S_own h
 rcases ho.2 with ⟨_, hz⟩ | ⟨g, cap, cur, _, _, _, hn, hc, _⟩
 ·omega
 ·simp only [maxLen] at hc
  omega
def spec_l20AnyBlocks.T5 : Bool × List (List Nat × List Nat) := (true, [([], []), ([], []), ([0, 1], [0, 1]), ([], []), ([], []), ([4], [4]), ([5], [5]), ([3, 6], [3, 6]), ([7], [7]), ([8], [8]), ([2, 9], [2, 9]), ([10, 10, 0, 1, 2, 3, 4, 5, 6, 7, 8, 9, 10], [10])])
theorem spec_l20AnyBlocks.tab5 : rtab .any (opsOf Tryd.f99 5) = spec_l20AnyBlocks.T5 := by kernel_rfl
def spec_l20AnyBlocks.j0 : Nat → List (S142) → Bool → List Int → Int → Option ((List (S142)) × Int)
 | 0, _, _, _, _ => none
 | k + 1, x3, x14, x1000, x1001 => if x14 = true then ((spec_l20Rd_pick.f k x1000 x1001 (x3.length : Int)).bind fun bt436 => ((spec_l20Rd_pick.f k x1000 bt436.2 5).bind fun bt438 => (if bt438.1 = 0 then ((spec_l20Rd_one.f k x1000 bt438.2 (([0, 401, 7] : List Int))).bind fun bt443 => (if 0 ≤ bt436.1 then (if bt436.1 < (x3.length : Int) then (some ((x3.set (bt436.1 : Int).toNat (⟨(⟨(rd_T142 x3 bt436.1).f0.f0, (rd_T142 x3 bt436.1).f0.f1, (rd_T142 x3 bt436.1).f0.f2, (rd_T142 x3 bt436.1).f0.f3, bt443.1⟩ : S23), (rd_T142 x3 bt436.1).f1⟩ : S142)), bt443.2)) else (none)) else (none))) else (if bt438.1 = 1 then (if 0 ≤ bt436.1 then (if bt436.1 < (x3.length : Int) then ((spec_l20AnyItem.f k x1000 bt438.2).bind fun bt447 => (if ((rd_T142 x3 bt436.1).f1).length < 8796093022208 then (some ((x3.set (bt436.1 : Int).toNat (⟨(⟨(rd_T142 x3 bt436.1).f0.f0, (rd_T142 x3 bt436.1).f0.f1, (rd_T142 x3 bt436.1).f0.f2, (rd_T142 x3 bt436.1).f0.f3, (rd_T142 x3 bt436.1).f0.f4⟩ : S23), (((rd_T142 x3 bt436.1).f1) ++ [bt447.1])⟩ : S142)), bt447.2)) else (none))) else (none)) else (none)) else (if bt438.1 = 2 then ((spec_l20Rd_one.f k x1000 bt438.2 (([0, 1, 2, 9] : List Int))).bind fun bt456 => (if 0 ≤ bt436.1 then (if bt436.1 < (x3.length : Int) then (some ((x3.set (bt436.1 : Int).toNat (⟨(⟨(rd_T142 x3 bt436.1).f0.f0, (rd_T142 x3 bt436.1).f0.f1, (rd_T142 x3 bt436.1).f0.f2, bt456.1, (rd_T142 x3 bt436.1).f0.f4⟩ : S23), (rd_T142 x3 bt436.1).f1⟩ : S142)), bt456.2)) else (none)) else (none))) else (if bt438.1 = 3 then ((spec_l20Rd_one.f k x1000 bt438.2 (([0, 99999, 100000] : List Int))).bind fun bt462 => (if 0 ≤ bt436.1 then (if bt436.1 < (x3.length : Int) then (some ((x3.set (bt436.1 : Int).toNat (⟨(⟨(rd_T142 x3 bt436.1).f0.f0, (rd_T142 x3 bt436.1).f0.f1, bt462.1, (rd_T142 x3 bt436.1).f0.f3, (rd_T142 x3 bt436.1).f0.f4⟩ : S23), (rd_T142 x3 bt436.1).f1⟩ : S142)), bt462.2)) else (none)) else (none))) else (if 0 ≤ bt436.1 then (if bt436.1 < (x3.length : Int) then (if (x3.take (bt436.1 : Int).toNat).length < 1759218604441 then (some (x3.take (bt436.1 : Int).toNat ++ [rd_T142 x3 ((x3.length : Int) - 1)], bt438.2)) else (none)) else (none)) else (none)))))))) else (some (x3, x1001))
def spec_l20AnyBlocks.f (k : Nat) (s0_0 : List Int) (s0_1 : Int) : Option ((List (S142)) × Int) := (spec_l20Blocks.f k s0_0 s0_1).bind fun bt430 => (if (bt430.1.length : Int) > 0 then ((spec_l20Rd_pick.f k s0_0 bt430.2 5).bind fun bt434 => (spec_l20AnyBlocks.j0 k bt430.1 (bt434.1 == 0) s0_0 bt434.2)) else (spec_l20AnyBlocks.j0 k bt430.1 false s0_0 bt430.2))
theorem spec_l20AnyBlocks.mono_l : ∀ k, (∀ y0 y1 y2 y3, LeO (spec_l20AnyBlocks.j0 k y0 y1 y2 y3) (spec_l20AnyBlocks.j0 (k + 1) y0 y1 y2 y3))
 | 0 => fun _ _ _ _ r h => by simp [spec_l20AnyBlocks.j0] at h
 | k + 1 => by
  have ih0 := spec_l20AnyBlocks.mono_l k
  ·intro y0 y1 y2 y3
   unfold spec_l20AnyBlocks.j0
   exact mo5 ih0 spec_l20AnyItem.mono spec_l20Blocks.mono spec_l20Rd_one.mono spec_l20Rd_pick.mono
theorem spec_l20AnyBlocks.mono : ∀ a0 a1 k, LeO (spec_l20AnyBlocks.f k a0 a1) (spec_l20AnyBlocks.f (k + 1) a0 a1) := by
 intro a0 a1 k
 have ih0 := spec_l20AnyBlocks.mono_l k
 unfold spec_l20AnyBlocks.f
 exact mo5 ih0 spec_l20AnyItem.mono spec_l20Blocks.mono spec_l20Rd_one.mono spec_l20Rd_pick.mono
def spec_l20AnyBlocks.T9 : Bool × List (List Nat × List Nat) := (true, [([], []), ([], []), ([], []), ([], []), ([2, 3], [2, 3]), ([4], [4]), ([5], [5]), ([], []), ([7], [7]), ([8], [8]), ([6, 9, 8], [6, 9]), ([0, 1, 0, 1, 2, 3, 4, 5, 6, 7, 8, 9, 10], [0, 1]), ([11, 0, 1, 2, 3, 4, 5, 6, 7, 8, 9, 10], [11]), ([12, 10, 10, 0, 1, 2, 3, 4, 5, 6, 7, 8, 9, 10], [10, 12])])
def spec_l20AnyBlocks.B9 : List Nat := [0, 0, 0, 0, 12, 28, 60, 0, 128, 384, 1020, 2047, 4095, 8191]
theorem spec_l20AnyBlocks.tab9 : rtab .any (opsOf Tryd.f99 9) = spec_l20AnyBlocks.T9 := by kernel_rfl
theorem spec_l20AnyBlocks.bits9 : waitsOk spec_l20AnyBlocks.T9.2 spec_l20AnyBlocks.B9 = true := by kernel_rfl
theorem spec_l20AnyBlocks.calls (k : Nat) (g : Nat) (s0_0 : List Int) (s0_1 : Int) (r1 : List (S142)) (r2 : Int) (w0 w : World) (hI : IsS111 w0 w g s0_0 s0_1) (hB : Below w0.heap.size w0 w) (h : spec_l20AnyBlocks.f k s0_0 s0_1 = some (r1, r2)) :
  Calls Tryd.prog 99 #[.pointer (some ⟨g, 0, none⟩)] w fun e w' => ∃ v0_ : Value, e = .returned (v0_) ∧ Kd.S k142 142 w' w.heap.size (fun _ => True) v0_ r1 ∧ IsS111 w0 w' g s0_0 r2 ∧ Below w0.heap.size w0 w' ∧ KeepBut w w' g none := by
 have hu142 := Tryd.underlying142
 have HI0 := Aside0.mk hI
 have HK := Aside0.mk (KeepBut.refl w g none)
 have HL := Aside0.mk hB.size
 clear hI
 have HW0 := Aside0.mk hB.size
 have HB := Aside0.mk hB
 clear hB
 have H : ((spec_l20Blocks.f k s0_0 s0_1).bind fun bt430 => (if (bt430.1.length : Int) > 0 then ((spec_l20Rd_pick.f k s0_0 bt430.2 5).bind fun bt434 => (spec_l20AnyBlocks.j0 k bt430.1 (bt434.1 == 0) s0_0 bt434.2)) else (spec_l20AnyBlocks.j0 k bt430.1 false s0_0 bt430.2))) = some (r1, r2) := h
 clear h
 replace H := Option.bind_eq_some_iff.mp H
 obtain ⟨⟨t430, t433⟩, A20, H⟩ := H
 have A2 := Aside0.mk A20
 clear A20
 have HC3 := Aside0.mk H
 clear H
 go_enter Tryd.func99, Tryd.ntmps99
 go_upto_region 2 with ((with_reducible refine gg ?_); refine gL 6 Tryd.func113 #[.pointer (some ⟨g, 0, none⟩)] ?_; (with_reducible refine (spec_l20Blocks.calls k g s0_0 s0_1 t430 t433 w0 _ ?side1 ?side2 A2.out).mono ?_); (case side1 => exact iX HI0); (case side2 => exact xBi HB); rintro e w4 ⟨v431, rfl, ho0, hi, hb, hk⟩; refine ⟨_, rfl, ?_⟩; have HO432 := am (Kd.S_lower (Kd.S_mono (ok' := fun k_ => True) ho0 (fun _ hk_ => trivial)) (xZ HK)); replace HK := kT HK hk; replace HB := am (hb); replace HI0 := am (hi); (try clear hb); (try clear ho0))
 (try simp only [Act.put, sa, s0, s1])
 go_cut [14] (fun v14 wc => ∃ (kq : Nat) (x14_2 : Bool) (x1001_2 : Int), v14 = .bool x14_2 ∧ Aside0 (spec_l20AnyBlocks.j0 kq t430 x14_2 s0_0 x1001_2 = some (r1, r2)) ∧ Aside0 (kq ≤ k) ∧ Aside0 (Kd.S k142 142 wc w.heap.size (fun _ => True) v431 t430) ∧ Aside0 (IsS111 w0 wc g s0_0 x1001_2) ∧ Aside0 (KeepBut w wc g none) ∧ Aside0 (Below w0.heap.size w0 wc))
 case first =>
  have H := HC3.out
  clear HC3
  by_cases c5 : (t430.length : Int) > 0
  rotate_left
  ·rw [if_neg c5] at H
   have c5b0 := decide_eq_false c5
   have c5b1 : decide (0 < t430.length) = false := decide_eq_false (by omega)
   clear c5
   (first | rw [c5b0] | rw [c5b1] | (simp only [i64_w, i32_w]; rw [c5b0]) | skip)
   have H' := Aside0.mk H
   clear H
   obtain ⟨Ao9, co9, eo9⟩ := Kd.S_slice HO432.out
   subst eo9
   go_wp2
   go_meet
   case rel => exact ⟨_, (false), (t433), xR, H', ⟨xO⟩, ⟨sx HO432⟩, ⟨iX HI0⟩, ⟨xK HK⟩, ⟨xBi HB⟩⟩
  rw [if_pos c5] at H
  have c5b0 := decide_eq_true c5
  have c5b1 : decide (0 < t430.length) = true := decide_eq_true (by omega)
  clear c5
  (first | rw [c5b0] | rw [c5b1] | (simp only [i64_w, i32_w]; rw [c5b0]) | skip)
  replace H := Option.bind_eq_some_iff.mp H
  obtain ⟨⟨t434, t435⟩, A60, H⟩ := H
  have A6 := Aside0.mk A60
  clear A60
  have H' := Aside0.mk H
  clear H
  obtain ⟨Ao7, co7, eo7⟩ := Kd.S_slice HO432.out
  subst eo7
  go_wp2_with (go_at_call 55; (with_reducible refine (spec_l20Rd_pick.calls k g s0_0 t433 5 t434 t435 w0 _ ?side1 ?side2 A6.out).mono ?_); (case side1 => exact iX HI0); (case side2 => exact xBi HB); rintro e w8 ⟨rfl, hi, hb, hk⟩; replace HO432 := am (Kd.S_mono (Kd.S_keep (IsS111.apartS (show IsS111 w0 _ g s0_0 t433 from iX HI0) (sx HO432) (by decide)) hk (fun _ h => h.2)) (fun _ h => h.1)); replace HK := kT HK hk; replace HB := am (hb); replace HI0 := am (hi); (try clear hb))
  go_meet
  case rel => exact ⟨_, ((t434 == 0)), (t435), xR, H', ⟨xO⟩, ⟨sx HO432⟩, ⟨iX HI0⟩, ⟨xK HK⟩, ⟨xBi HB⟩⟩
 case rest =>
  clear HC3
  try clear c1
  try clear p2
  try clear c5
  try clear c5b0
  try clear c5b1
  try clear c9
  obtain ⟨kq, x14_2, x1001_2, rfl, HA, HJ2, HO_3, HI0, HK, HB⟩ := hcut
  cases kq with
  | zero => exact absurd HA.out (by simp [spec_l20AnyBlocks.j0])
  | succ kj2 =>
   have H := HA.out
   clear HA
   simp only [spec_l20AnyBlocks.j0] at H
   by_cases c10 : x14_2 = true
   rotate_left
   ·replace c10 := Bool.eq_false_iff.mpr c10
    subst c10
    rw [if_neg (show ¬ (false = true) by decide)] at H
    simp only [Option.some.injEq, Prod.mk.injEq] at H
    obtain ⟨rfl, rfl⟩ := H
    go_wp2
    go_ret
    exact ⟨_, xE, sx HO_3, iX HI0, xBi HB, xK HK⟩
   subst c10
   rw [if_pos rfl] at H
   replace H := Option.bind_eq_some_iff.mp H
   obtain ⟨⟨t436, t437⟩, A110, H⟩ := H
   have A11 := Aside0.mk A110
   clear A110
   replace H := Option.bind_eq_some_iff.mp H
   obtain ⟨⟨t438, t439⟩, A120, H⟩ := H
   have A12 := Aside0.mk A120
   clear A120
   obtain ⟨Ao18, co18, eo18⟩ := Kd.S_slice HO_3.out
   subst eo18
   go_upto_if 32 with ((with_reducible refine gg ?_); first | (refine gL 18 Tryd.func55 #[.pointer (some ⟨g, 0, none⟩), .int .i64 (t430.length : Int)] ?_; (with_reducible refine (spec_l20Rd_pick.calls kj2 g s0_0 x1001_2 (t430.length : Int) t436 t437 w0 _ ?side1 ?side2 A11.out).mono ?_); (case side1 => exact iX HI0); (case side2 => exact xBi HB); rintro e w19 ⟨rfl, hi, hb, hk⟩; refine ⟨_, rfl, ?_⟩; replace HO_3 := am (Kd.S_mono (Kd.S_keep (IsS111.apartS (show IsS111 w0 _ g s0_0 x1001_2 from iX HI0) (sx HO_3) (by decide)) hk (fun _ h => h.2)) (fun _ h => h.1)); replace HK := kT HK hk; replace HB := am (hb); replace HI0 := am (hi); (try clear hb)) | (refine gL 20 Tryd.func55 #[.pointer (some ⟨g, 0, none⟩), .int .i64 5] ?_; (with_reducible refine (spec_l20Rd_pick.calls kj2 g s0_0 t437 5 t438 t439 w0 _ ?side1 ?side2 A12.out).mono ?_); (case side1 => exact iX HI0); (case side2 => exact xBi HB); rintro e w20 ⟨rfl, hi, hb, hk⟩; refine ⟨_, rfl, ?_⟩; replace HO_3 := am (Kd.S_mono (Kd.S_keep (IsS111.apartS (show IsS111 w0 _ g s0_0 t437 from iX HI0) (sx HO_3) (by decide)) hk (fun _ h => h.2)) (fun _ h => h.1)); replace HK := kT HK hk; replace HB := am (hb); replace HI0 := am (hi); (try clear hb)))
   by_cases c13 : t438 = 0
   ·rw [if_pos c13] at H
    have c13b0 := beq_iff_eq.mpr c13
    have c13b1 := bne_eq_false_iff_eq.mpr c13
    try simp only [c13b0, c13b1, Bool.not_true, Bool.not_false]
    clear c13
    obtain ⟨y440, Ny440⟩ := yA (([0, 401, 7] : List Int) : List Int)
    rw [← Ny440.out] at H
    replace H := Option.bind_eq_some_iff.mp H
    obtain ⟨⟨t443, t444⟩, A140, H⟩ := H
    have A14 := Aside0.mk A140
    clear A140
    replace H := ipd H
    obtain ⟨c15b0, H⟩ := H
    replace H := ipd H
    obtain ⟨c16b0, H⟩ := H
    obtain ⟨y445, Ny445⟩ := yA (t430.set (t436 : Int).toNat (⟨(⟨(rd_T142 t430 t436).f0.f0, (rd_T142 t430 t436).f0.f1, (rd_T142 t430 t436).f0.f2, (rd_T142 t430 t436).f0.f3, t443⟩ : S23), (rd_T142 t430 t436).f1⟩ : S142) : List (S142))
    first | rw [← Ny445.out] at H | (replace H := bh H; rw [← Ny445.out] at H)
    simp only [Option.some.injEq, Prod.mk.injEq] at H
    obtain ⟨rfl, rfl⟩ := H
    go_wp2_with (first | ((with_reducible refine gate_dst (N := 37) rfl ?_); refine Kd.R_lit (Kd.int .i64) _ 3 ?hg (N := 37) ?hd (xs := ([0, 401, 7] : List Int)) (inner := [.int .i64 0, .int .i64 401, .int .i64 7]) (ok := fun _ => True) (okp := fun _ => True) ?hr ?hp (fun _ hk => hk) trivial (Below.refl _ _) (Nat.le_refl _) (by simp) ?_; (case hd => rfl); (case hg => rfl); (case hr => first | (go_simp; done) | (go_simp; rfl)); (case hp => exact xP); intro v441 w21 ho22 hb hg_ hnew_; clear hg_ hnew_; (first | rw [← Ny440.out] at ho22 | (simp only [Int.reduceToNat] at ho22; rw [← Ny440.out] at ho22)); replace HO_3 := am (Kd.S_below (sx HO_3) hb); have HO442 := am (Kd.R_lower ho22 (xZ HK)); replace HK := kK HK hb; replace HB := kHi HB hb; replace HI0 := iK HI0 hb; clear hb ho22; obtain ⟨Ao23, co23, eo23⟩ := Kd.R_slice HO442.out; subst eo23) | ((with_reducible refine gg ?_); refine gL 38 Tryd.func84 #[.pointer (some ⟨g, 0, none⟩), .slice Ao23 y440.length co23] ?_; (with_reducible refine (spec_l20Rd_one.calls kj2 g s0_0 t439 _ _ y440 t443 t444 w0 _ ?side1 ?side2 ?side3 ?side4 ?side5 A14.out).mono ?_); (case side1 => exact iX HI0); (case side2 => exact xBi HB); (case side3 => exact cr (Kd.R_reads' HO442.out).2.2); (case side4 => exact sl HO442); (case side5 => exact far_slice (IsS111.own_ne HI0.out HO442.out (by decide))); rintro e w24 ⟨rfl, hi, hb, hk⟩; refine ⟨_, rfl, ?_⟩; replace HO_3 := am (Kd.S_mono (Kd.S_keep (IsS111.apartS (show IsS111 w0 _ g s0_0 t439 from iX HI0) (sx HO_3) (by decide)) hk (fun _ h => h.2)) (fun _ h => h.1)); replace HO442 := iR HI0 HO442 hk; replace HK := kT HK hk; replace HB := am (hb); replace HI0 := am (hi); (try clear hb); have p17 : 0 ≤ (t436 : Int) := of_decide_eq_true xA; have q17 : (t436 : Int) < ((t430.length : Int) : Int) := of_decide_eq_true xA; obtain ⟨go17, co17, eo17, gb17, gl17, cl17, HG17⟩ := Kd.S_form HO_3.out (by omega); (first | cases eo17 | (injection eo17 with ea_ en_ ec_; (first | subst ea_ | (injection ea_ with ea_; subst ea_)); subst ec_; clear en_)); have GB17 := Aside0.mk gb17; have GG17 := Aside0.mk HG17; clear gb17 gl17 HG17; obtain ⟨_, ce17, hcl17, hM17, hcc17, hfr17, _, _⟩ := Kd.S_elem HO_3.out z142 (t436 : Int) p17 q17; obtain ⟨ve17_5, rfl, ge17_5⟩ := k142_openM hM17; have hx17_0 : w24.cell? ⟨go17, (t436 : Int).toNat * 6, none⟩ = some (.string ((rd_T142 t430 t436).f0.f0)) := hcc17 0 _ rfl; have hx17_1 : w24.cell? ⟨go17, (t436 : Int).toNat * 6 + 1, none⟩ = some (.string ((rd_T142 t430 t436).f0.f1)) := hcc17 1 _ rfl; have hx17_2 : w24.cell? ⟨go17, (t436 : Int).toNat * 6 + 2, none⟩ = some (.int .i64 ((rd_T142 t430 t436).f0.f2)) := hcc17 2 _ rfl; have hx17_3 : w24.cell? ⟨go17, (t436 : Int).toNat * 6 + 3, none⟩ = some (.int .i64 ((rd_T142 t430 t436).f0.f3)) := hcc17 3 _ rfl; have hx17_4 : w24.cell? ⟨go17, (t436 : Int).toNat * 6 + 4, none⟩ = some (.int .i64 ((rd_T142 t430 t436).f0.f4)) := hcc17 4 _ rfl; have hx17_5 : w24.cell? ⟨go17, (t436 : Int).toNat * 6 + 5, none⟩ = some (ve17_5) := hcc17 5 _ rfl; have hf17_0 : w24.frozen? ⟨go17, (t436 : Int).toNat * 6, none⟩ = false := hfr17 0; have hf17_1 : w24.frozen? ⟨go17, (t436 : Int).toNat * 6 + 1, none⟩ = false := hfr17 1; have hf17_2 : w24.frozen? ⟨go17, (t436 : Int).toNat * 6 + 2, none⟩ = false := hfr17 2; have hf17_3 : w24.frozen? ⟨go17, (t436 : Int).toNat * 6 + 3, none⟩ = false := hfr17 3; have hf17_4 : w24.frozen? ⟨go17, (t436 : Int).toNat * 6 + 4, none⟩ = false := hfr17 4; have hf17_5 : w24.frozen? ⟨go17, (t436 : Int).toNat * 6 + 5, none⟩ = false := hfr17 5; clear hcl17 hcc17 hfr17 hM17; replace p17 := eq_true p17; replace q17 := eq_true q17; have HX25 := Aside0.mk (show Kd.S k142 142 w24 w.heap.size (fun k_ => ((fun _ => True)) k_ ∧ ¬ ((fun _ => False)) k_) (.slice (some ⟨go17, 0, none⟩) t430.length co18) t430 from (by (with_reducible repeat (first | apply Kd.S_alloc | apply Kd.S_drewN | apply Kd.S_drew)); exact Kd.S_mono HO_3.out (fun k_ hk => ⟨trivial, fun e_ => e_⟩))); obtain ⟨oki25, ce25, hcl25, hM25, hcc25, hfr25, hoki25, hH25⟩ := Kd.S_elem HX25.out z142 (t436 : Int) (of_decide_eq_true xA) (by have h_ : (t436 : Int) < ((t430.length : Int) : Int) := of_decide_eq_true xA; first | exact h_ | (have e_ := (Kd.S_reads' HO_3.out).1; omega) | simpa using h_); obtain ⟨ve25_5, rfl, ge25_5⟩ := k142_openM hM25; have HP25 := Kd.S_seg hH25 (of_decide_eq_true xA) (by have h_ : (t436 : Int) < ((t430.length : Int) : Int) := of_decide_eq_true xA; first | exact h_ | (have e_ := (Kd.S_reads' HO_3.out).1; omega) | simpa using h_) (seg := [.int .i64 t443]) (j := 4) (show 5 ≤ 6 from by decide) (x' := (⟨(⟨(rd_T142 t430 t436).f0.f0, (rd_T142 t430 t436).f0.f1, (rd_T142 t430 t436).f0.f2, (rd_T142 t430 t436).f0.f3, t443⟩ : S23), (rd_T142 t430 t436).f1⟩ : S142)) (k142_mkM _ _ _ (⟨(⟨(rd_T142 t430 t436).f0.f0, (rd_T142 t430 t436).f0.f1, (rd_T142 t430 t436).f0.f2, (rd_T142 t430 t436).f0.f3, t443⟩ : S23), (rd_T142 t430 t436).f1⟩ : S142) (Kd.R_mono ge25_5 (fun _ h_ => Or.inl h_))) (fun _ hk => hk) (fun k_ hk_ => hk_.elim); have hx25_4 := hcc25 4 _ rfl; (try simp only [show (k142).sz = 6 from rfl, Nat.mul_one, Nat.add_zero] at hx25_4); have hf25_4 := hfr25 4; (try simp only [show (k142).sz = 6 from rfl, Nat.mul_one, Nat.add_zero] at hf25_4); clear hcl25 hcc25 hfr25 hM25 hoki25 hH25) | ((with_reducible refine gate_store (t := 3) (p := 41) rfl ?_); refine store_event (t := 3) (p := 41) (v := ?vo_w26) (w1 := (w24.setCell ⟨go17, (t436 : Int).toNat * 6 + 4, none⟩ (.int .i64 t443))) ?hg ?ho ?hn ?hr ?_; (case ho => rfl); (case hg => rfl); (case hn => rfl); (case hr => first | (go_simp; done) | (go_simp; rfl)); intro w26 hw; have hg : w24.grownBy w26 (some go17) := (by rw [hw]; exact HP25.2); have hp_ : Kd.S k142 142 w26 w.heap.size (fun _ => True) (.slice (some ⟨go17, 0, none⟩) t430.length co18) y445 := (by rw [hw, Ny445.out]; exact HP25.1); clear HP25; replace HI0 := am (IsS111.grown (iX HI0) hg (IsS111.own_neS HI0.out HO_3.out (by decide))); replace HO442 := am (Kd.R_over' (v := (.slice (some ⟨go17, 0, none⟩) t430.length co18)) (ra HO442) (Kd.S_typed HO_3.out) (by decide) hg); replace HB := am ((by rw [hw]; exact below_set (HB.out) (Nat.le_trans HL.out GB17.out) : Below w0.heap.size w0 w26)); replace HK := am (KeepBut.trans (xK HK) (KeepBut.of_grown hg g) (Kd.S_base2 HO_3.out)); replace HO_3 := am (hp_); clear hg hw hp_))
    go_ret
    exact ⟨_, xE, sx HO_3, iX HI0, xBi HB, xK HK⟩
   rw [if_neg c13] at H
   have c13b0 := beq_eq_false_iff_ne.mpr c13
   have c13b1 := bne_iff_ne.mpr c13
   try simp only [c13b0, c13b1, Bool.not_true, Bool.not_false]
   by_cases c27 : t438 = 1
   ·rw [if_pos c27] at H
    have c27b0 := beq_iff_eq.mpr c27
    have c27b1 := bne_eq_false_iff_eq.mpr c27
    clear c27
    replace H := ipd H
    obtain ⟨c28b0, H⟩ := H
    replace H := ipd H
    obtain ⟨c29b0, H⟩ := H
    replace H := Option.bind_eq_some_iff.mp H
    obtain ⟨⟨t447, t448⟩, A300, H⟩ := H
    have A30 := Aside0.mk A300
    clear A300
    replace H := ipa H
    obtain ⟨LMc31, H⟩ := H
    obtain ⟨y449, Ny449⟩ := yA (((rd_T142 t430 t436).f1) ++ [t447] : List ByteArray)
    rw [← Ny449.out] at H
    obtain ⟨y452, Ny452⟩ := yA (t430.set (t436 : Int).toNat (⟨(⟨(rd_T142 t430 t436).f0.f0, (rd_T142 t430 t436).f0.f1, (rd_T142 t430 t436).f0.f2, (rd_T142 t430 t436).f0.f3, (rd_T142 t430 t436).f0.f4⟩ : S23), y449⟩ : S142) : List (S142))
    first | rw [← Ny452.out] at H | (replace H := bh H; rw [← Ny452.out] at H)
    simp only [Option.some.injEq, Prod.mk.injEq] at H
    obtain ⟨rfl, rfl⟩ := H
    try go_wp2
    replace HO_3 := am (Kd.S_drew HO_3.out)
    replace HI0 := am (IsS111.drew HI0.out)
    replace HK := am (keep_drew HK.out)
    replace HB := am (below_drew1 HB.out)
    have p446 : 0 ≤ (t436 : Int) := of_decide_eq_true xA
    have q446 : t436 < (t430.length : Int) := of_decide_eq_true xA
    obtain ⟨ad446, A446_5, c446_5, e446, hx446_0, hx446_1, hx446_2, hx446_3, hx446_4, hx446_5, hl446_5, hi446_5⟩ := at_T142 (Kd.S_reads' HO_3.out).2.2 t436 p446 q446
    cases e446
    obtain ⟨ce446, hce446, hMe446, hcc446⟩ := Kd.S_get HO_3.out z142 t436 p446 (by first | exact q446 | exact of_decide_eq_true xA | (have e_ := (Kd.S_reads' HO_3.out).1; omega))
    obtain ⟨ve446_5, rfl, ge446_5⟩ := k142_openM hMe446
    have hv446_5 := hcc446 5 _ rfl
    rw [add_field _ _ 5 (by omega)] at hv446_5
    replace hv446_5 := Option.some.inj (hv446_5.symm.trans hx446_5)
    rw [hv446_5] at ge446_5
    have HL446_5 := Aside0.mk (show Kd.R Kd.string 9 _ _ _ _ ((rd_T142 t430 t436).f1) from ge446_5)
    clear hv446_5 ge446_5
    have HX446_5 := Aside0.mk hx446_5
    clear hcc446 hce446
    have HR446_5 := Aside0.mk hi446_5
    have HC446_5 := Aside0.mk hl446_5
    clear hi446_5 hl446_5
    replace p446 := eq_true p446
    replace q446 := eq_true q446
    refine start_ (n := 14) (S := fun w' => w'.cell? (ad446.add ((t436).toNat * 6)) = some (.string ((rd_T142 t430 t436).f0.f0)) ∧ w'.cell? ⟨(ad446.add ((t436).toNat * 6)).block, (ad446.add ((t436).toNat * 6)).off + 1, none⟩ = some (.string ((rd_T142 t430 t436).f0.f1)) ∧ w'.cell? ⟨(ad446.add ((t436).toNat * 6)).block, (ad446.add ((t436).toNat * 6)).off + 2, none⟩ = some (.int .i64 ((rd_T142 t430 t436).f0.f2)) ∧ w'.cell? ⟨(ad446.add ((t436).toNat * 6)).block, (ad446.add ((t436).toNat * 6)).off + 3, none⟩ = some (.int .i64 ((rd_T142 t430 t436).f0.f3)) ∧ w'.cell? ⟨(ad446.add ((t436).toNat * 6)).block, (ad446.add ((t436).toNat * 6)).off + 4, none⟩ = some (.int .i64 ((rd_T142 t430 t436).f0.f4)) ∧ w'.cell? ⟨(ad446.add ((t436).toNat * 6)).block, (ad446.add ((t436).toNat * 6)).off + 5, none⟩ = some (.slice A446_5 ((rd_T142 t430 t436).f1).length c446_5)) (ds := [13]) (bm 14 0) (by kernel_rfl) rfl rfl ⟨hx446_0, hx446_1, hx446_2, hx446_3, hx446_4, hx446_5⟩ (fun hHeld => ?_); refine with_tabW spec_l20AnyBlocks.tab9 spec_l20AnyBlocks.bits9 (fun HT_ HW_ => ?_)
    generalize w20.drew = w36 at HO_3 HI0 HK HB HL446_5 HR446_5 HX446_5 hx446_0 hx446_1 hx446_2 hx446_3 hx446_4 hx446_5 hHeld ⊢
    refine pA 0 44 (bm 14 1) HT_ ?_
    refine pA 1 45 (bm 14 3) HT_ ?_
    refine pA 2 46 (bm 14 7) HT_ ?_
    refine pA 3 47 (bm 14 15) HT_ ?_
    refine pA 4 48 (bm 14 31) HT_ ?_
    refine pA 5 49 (bm 14 63) HT_ ?_
    refine pA 7 51 (bm 14 191) HT_ ?_
    refine tA 6 50 (bm 14 255) HT_ HW_ hHeld ?_
    refine oA 8 (some 52) (bm 14 511) HT_ fun K hK => ?_
    refine gA Tryd.func114 #[.pointer (some ⟨g, 0, none⟩)] ?_
    with_reducible refine (spec_l20AnyItem.calls kj2 g s0_0 t439 t447 t448 w0 _ ?side1 ?side2 A30.out).mono ?_
    (case side1 => exact iX HI0)
    (case side2 => exact xBi HB)
    rintro e w37 ⟨rfl, hi, hb, hk⟩
    have HS0_ := keep_cell hk (hHeld.1) (by first | (rw [add_block]; exact Kd.own_blk (IsS111.own_neS HI0.out HO_3.out (by decide))) | (show (Addr.add _ _).block ≠ _; rw [add_block]; exact Kd.own_blk (IsS111.own_neS HI0.out HO_3.out (by decide))) | exact Kd.own_blk (IsS111.own_neS HI0.out HO_3.out (by decide)))
    have HS1_ := keep_cell hk (hHeld.2.1) (by first | (rw [add_block]; exact Kd.own_blk (IsS111.own_neS HI0.out HO_3.out (by decide))) | (show (Addr.add _ _).block ≠ _; rw [add_block]; exact Kd.own_blk (IsS111.own_neS HI0.out HO_3.out (by decide))) | exact Kd.own_blk (IsS111.own_neS HI0.out HO_3.out (by decide)))
    have HS2_ := keep_cell hk (hHeld.2.2.1) (by first | (rw [add_block]; exact Kd.own_blk (IsS111.own_neS HI0.out HO_3.out (by decide))) | (show (Addr.add _ _).block ≠ _; rw [add_block]; exact Kd.own_blk (IsS111.own_neS HI0.out HO_3.out (by decide))) | exact Kd.own_blk (IsS111.own_neS HI0.out HO_3.out (by decide)))
    have HS3_ := keep_cell hk (hHeld.2.2.2.1) (by first | (rw [add_block]; exact Kd.own_blk (IsS111.own_neS HI0.out HO_3.out (by decide))) | (show (Addr.add _ _).block ≠ _; rw [add_block]; exact Kd.own_blk (IsS111.own_neS HI0.out HO_3.out (by decide))) | exact Kd.own_blk (IsS111.own_neS HI0.out HO_3.out (by decide)))
    have HS4_ := keep_cell hk (hHeld.2.2.2.2.1) (by first | (rw [add_block]; exact Kd.own_blk (IsS111.own_neS HI0.out HO_3.out (by decide))) | (show (Addr.add _ _).block ≠ _; rw [add_block]; exact Kd.own_blk (IsS111.own_neS HI0.out HO_3.out (by decide))) | exact Kd.own_blk (IsS111.own_neS HI0.out HO_3.out (by decide)))
    have HS5_ := keep_cell hk (hHeld.2.2.2.2.2) (by first | (rw [add_block]; exact Kd.own_blk (IsS111.own_neS HI0.out HO_3.out (by decide))) | (show (Addr.add _ _).block ≠ _; rw [add_block]; exact Kd.own_blk (IsS111.own_neS HI0.out HO_3.out (by decide))) | exact Kd.own_blk (IsS111.own_neS HI0.out HO_3.out (by decide)))
    refine ⟨_, rfl, ?_⟩
    replace HL446_5 := am (Kd.R_mono (Kd.R_keep (IsS111.apart (show IsS111 w0 _ g s0_0 t439 from iX HI0) (by (with_reducible repeat (first | apply Kd.R_alloc | apply Kd.R_drewN | apply Kd.R_drew)); exact HL446_5.out) (by decide)) hk (fun _ h => h.2)) (fun _ h => h.1))
    replace HX446_5 := am (keep_cell hk HX446_5.out (by first | (rw [add_block]; exact Kd.own_blk (IsS111.own_neS HI0.out HO_3.out (by decide))) | (show (Addr.add _ _).block ≠ _; rw [add_block]; exact Kd.own_blk (IsS111.own_neS HI0.out HO_3.out (by decide))) | exact Kd.own_blk (IsS111.own_neS HI0.out HO_3.out (by decide)) | (dsimp only; exact Kd.own_blk (IsS111.own_neS HI0.out HO_3.out (by decide)))))
    replace HO_3 := am (Kd.S_mono (Kd.S_keep (IsS111.apartS (show IsS111 w0 _ g s0_0 t439 from iX HI0) (sx HO_3) (by decide)) hk (fun _ h => h.2)) (fun _ h => h.1))
    replace HK := kT HK hk
    replace HB := am (hb)
    replace HI0 := am (hi)
    (try clear hb)
    (try clear hb2)
    (try clear hk)
    (try clear hi)
    obtain ⟨go38, co38, eo38, gb38, gl38, cl38, HG38⟩ := Kd.S_form HO_3.out (by have h_ : (t436 : Int) < ((t430.length : Int) : Int) := of_decide_eq_true xA; have h2_ : 0 ≤ (t436 : Int) := (of_decide_eq_true xA); omega)
    (first | cases eo38 | (injection eo38 with ea_ en_ ec_; (first | subst ea_ | (injection ea_ with ea_; subst ea_)); subst ec_; clear en_))
    have GB38 := Aside0.mk gb38
    have GG38 := Aside0.mk HG38
    clear gb38 gl38 HG38
    (first | simp only [add_plain] at hx446_0 | skip)
    (first | simp only [add_plain] at hx446_1 | skip)
    (first | simp only [add_plain] at hx446_2 | skip)
    (first | simp only [add_plain] at hx446_3 | skip)
    (first | simp only [add_plain] at hx446_4 | skip)
    (first | simp only [add_plain] at hx446_5 | skip)
    obtain ⟨oki38, ce38, hcl38, hM38, hcc38, _, _, hH38⟩ := Kd.S_elem HO_3.out z142 (t436 : Int) (of_decide_eq_true xA) (by have h_ : (t436 : Int) < ((t430.length : Int) : Int) := of_decide_eq_true xA; first | exact h_ | (have e_ := (Kd.S_reads' HO_3.out).1; omega) | simpa using h_)
    obtain ⟨ve38_5, rfl, ge38_5⟩ := k142_openM hM38
    have hv38 := hcc38 5 _ rfl
    have hX38 := HX446_5.out
    (try simp only [add_plain] at hX38)
    (try simp only [Nat.add_zero] at hv38)
    replace hv38 := Option.some.inj (hv38.symm.trans hX38)
    subst hv38
    clear hX38 hcc38 hcl38
    have UU38 := Aside0.mk (show Kd.R Kd.string 9 _ w.heap.size oki38 (.slice A446_5 ((rd_T142 t430 t436).f1).length c446_5) ((rd_T142 t430 t436).f1) from ge38_5)
    have HH38 := Aside0.mk hH38
    have HN38 := Aside0.mk (Kd.S_reads' HO_3.out).1
    clear hH38 ge38_5
    refine hK.out _ _ ⟨HS0_, HS1_, HS2_, HS3_, HS4_, HS5_⟩ (fun hHeld => ?_)
    clear hK K
    refine nA (some 52) ?_
    refine oA 9 (some 53) (bm 14 1023) HT_ fun K hK => ?_
    refine value_ (w1 := ?_) (v := ?_) (by rfl) rfl ?_ ?_
    rotate_left 2
    ·go_simp
     constructor
     ·rfl
     ·rfl
    refine hK.out _ _ ⟨(World.cell?_alloc_lt _ _ _ (World.block_lt_of_cell? _ _ (hHeld.1))).trans (hHeld.1), (World.cell?_alloc_lt _ _ _ (World.block_lt_of_cell? _ _ (hHeld.2.1))).trans (hHeld.2.1), (World.cell?_alloc_lt _ _ _ (World.block_lt_of_cell? _ _ (hHeld.2.2.1))).trans (hHeld.2.2.1), (World.cell?_alloc_lt _ _ _ (World.block_lt_of_cell? _ _ (hHeld.2.2.2.1))).trans (hHeld.2.2.2.1), (World.cell?_alloc_lt _ _ _ (World.block_lt_of_cell? _ _ (hHeld.2.2.2.2.1))).trans (hHeld.2.2.2.2.1), (World.cell?_alloc_lt _ _ _ (World.block_lt_of_cell? _ _ (hHeld.2.2.2.2.2))).trans (hHeld.2.2.2.2.2)⟩ (fun hHeld => ?_)
    clear hK K
    refine nA (some 53) ?_
    refine oA 10 (some 54) (bm 14 2047) HT_ fun K hK => ?_
    refine Kd.R_append_step Kd.string w.heap.size (by rfl) (.tmp 50) (.tmp 53) 56 9 (.string ⟨#[]⟩) 16 rfl Tryd.underlying56 info9 rfl (by decide) (by omega) (.slice A446_5 ((rd_T142 t430 t436).f1).length c446_5) ((rd_T142 t430 t436).f1) t447 [.string t447] (fun k_ => oki38 k_ ∨ ((fun _ => True)) k_ ∧ w37.heap.size ≤ k_) (fun _ => False) rfl rfl ?aP (fun _ hk => hk.elim) ?aF ?aO (Below.refl _ _) ?aS ?aL ?_
    (case aP => exact rfl)
    (case aF => exact (fun k_ hk => .inr ⟨trivial, hk⟩))
    (case aO => exact (by (with_reducible repeat (first | apply Kd.R_alloc | apply Kd.R_drewN | apply Kd.R_drew)); exact Kd.R_mono UU38.out (fun _ hk => .inl hk)))
    (case aS => exact (xZ HK))
    (case aL => have := LMc31.out; omega)
    intro v450 w39 ho hb hg hat
    (first | have HS0_ := cell_grown hg (hHeld.1) (by first | (rw [add_block]; exact (fun e_ => ((HL446_5.out.1 _ e_.symm).2) rfl)) | (show some (Addr.add _ _).block ≠ _; rw [add_block]; exact (fun e_ => ((HL446_5.out.1 _ e_.symm).2) rfl)) | exact (fun e_ => ((HL446_5.out.1 _ e_.symm).2) rfl)) | have HS0_ := cell_grown hg (cell_unalloc (hHeld.1) (by first | (rw [add_block]; exact Kd.S_lt HO_3.out _ rfl) | (show (Addr.add _ _).block < _; rw [add_block]; exact Kd.S_lt HO_3.out _ rfl) | exact Kd.S_lt HO_3.out _ rfl)) (by first | (rw [add_block]; exact (fun e_ => ((HL446_5.out.1 _ e_.symm).2) rfl)) | (show some (Addr.add _ _).block ≠ _; rw [add_block]; exact (fun e_ => ((HL446_5.out.1 _ e_.symm).2) rfl)) | exact (fun e_ => ((HL446_5.out.1 _ e_.symm).2) rfl)))
    (first | have HS1_ := cell_grown hg (hHeld.2.1) (by first | (rw [add_block]; exact (fun e_ => ((HL446_5.out.1 _ e_.symm).2) rfl)) | (show some (Addr.add _ _).block ≠ _; rw [add_block]; exact (fun e_ => ((HL446_5.out.1 _ e_.symm).2) rfl)) | exact (fun e_ => ((HL446_5.out.1 _ e_.symm).2) rfl)) | have HS1_ := cell_grown hg (cell_unalloc (hHeld.2.1) (by first | (rw [add_block]; exact Kd.S_lt HO_3.out _ rfl) | (show (Addr.add _ _).block < _; rw [add_block]; exact Kd.S_lt HO_3.out _ rfl) | exact Kd.S_lt HO_3.out _ rfl)) (by first | (rw [add_block]; exact (fun e_ => ((HL446_5.out.1 _ e_.symm).2) rfl)) | (show some (Addr.add _ _).block ≠ _; rw [add_block]; exact (fun e_ => ((HL446_5.out.1 _ e_.symm).2) rfl)) | exact (fun e_ => ((HL446_5.out.1 _ e_.symm).2) rfl)))
    (first | have HS2_ := cell_grown hg (hHeld.2.2.1) (by first | (rw [add_block]; exact (fun e_ => ((HL446_5.out.1 _ e_.symm).2) rfl)) | (show some (Addr.add _ _).block ≠ _; rw [add_block]; exact (fun e_ => ((HL446_5.out.1 _ e_.symm).2) rfl)) | exact (fun e_ => ((HL446_5.out.1 _ e_.symm).2) rfl)) | have HS2_ := cell_grown hg (cell_unalloc (hHeld.2.2.1) (by first | (rw [add_block]; exact Kd.S_lt HO_3.out _ rfl) | (show (Addr.add _ _).block < _; rw [add_block]; exact Kd.S_lt HO_3.out _ rfl) | exact Kd.S_lt HO_3.out _ rfl)) (by first | (rw [add_block]; exact (fun e_ => ((HL446_5.out.1 _ e_.symm).2) rfl)) | (show some (Addr.add _ _).block ≠ _; rw [add_block]; exact (fun e_ => ((HL446_5.out.1 _ e_.symm).2) rfl)) | exact (fun e_ => ((HL446_5.out.1 _ e_.symm).2) rfl)))
    (first | have HS3_ := cell_grown hg (hHeld.2.2.2.1) (by first | (rw [add_block]; exact (fun e_ => ((HL446_5.out.1 _ e_.symm).2) rfl)) | (show some (Addr.add _ _).block ≠ _; rw [add_block]; exact (fun e_ => ((HL446_5.out.1 _ e_.symm).2) rfl)) | exact (fun e_ => ((HL446_5.out.1 _ e_.symm).2) rfl)) | have HS3_ := cell_grown hg (cell_unalloc (hHeld.2.2.2.1) (by first | (rw [add_block]; exact Kd.S_lt HO_3.out _ rfl) | (show (Addr.add _ _).block < _; rw [add_block]; exact Kd.S_lt HO_3.out _ rfl) | exact Kd.S_lt HO_3.out _ rfl)) (by first | (rw [add_block]; exact (fun e_ => ((HL446_5.out.1 _ e_.symm).2) rfl)) | (show some (Addr.add _ _).block ≠ _; rw [add_block]; exact (fun e_ => ((HL446_5.out.1 _ e_.symm).2) rfl)) | exact (fun e_ => ((HL446_5.out.1 _ e_.symm).2) rfl)))
    (first | have HS4_ := cell_grown hg (hHeld.2.2.2.2.1) (by first | (rw [add_block]; exact (fun e_ => ((HL446_5.out.1 _ e_.symm).2) rfl)) | (show some (Addr.add _ _).block ≠ _; rw [add_block]; exact (fun e_ => ((HL446_5.out.1 _ e_.symm).2) rfl)) | exact (fun e_ => ((HL446_5.out.1 _ e_.symm).2) rfl)) | have HS4_ := cell_grown hg (cell_unalloc (hHeld.2.2.2.2.1) (by first | (rw [add_block]; exact Kd.S_lt HO_3.out _ rfl) | (show (Addr.add _ _).block < _; rw [add_block]; exact Kd.S_lt HO_3.out _ rfl) | exact Kd.S_lt HO_3.out _ rfl)) (by first | (rw [add_block]; exact (fun e_ => ((HL446_5.out.1 _ e_.symm).2) rfl)) | (show some (Addr.add _ _).block ≠ _; rw [add_block]; exact (fun e_ => ((HL446_5.out.1 _ e_.symm).2) rfl)) | exact (fun e_ => ((HL446_5.out.1 _ e_.symm).2) rfl)))
    (first | have HS5_ := cell_grown hg (hHeld.2.2.2.2.2) (by first | (rw [add_block]; exact (fun e_ => ((HL446_5.out.1 _ e_.symm).2) rfl)) | (show some (Addr.add _ _).block ≠ _; rw [add_block]; exact (fun e_ => ((HL446_5.out.1 _ e_.symm).2) rfl)) | exact (fun e_ => ((HL446_5.out.1 _ e_.symm).2) rfl)) | have HS5_ := cell_grown hg (cell_unalloc (hHeld.2.2.2.2.2) (by first | (rw [add_block]; exact Kd.S_lt HO_3.out _ rfl) | (show (Addr.add _ _).block < _; rw [add_block]; exact Kd.S_lt HO_3.out _ rfl) | exact Kd.S_lt HO_3.out _ rfl)) (by first | (rw [add_block]; exact (fun e_ => ((HL446_5.out.1 _ e_.symm).2) rfl)) | (show some (Addr.add _ _).block ≠ _; rw [add_block]; exact (fun e_ => ((HL446_5.out.1 _ e_.symm).2) rfl)) | exact (fun e_ => ((HL446_5.out.1 _ e_.symm).2) rfl)))
    rw [← Ny449.out] at ho
    have n0_ := Aside0.mk (IsS111.grown (iX HI0) hg (IsS111.own_ne HI0.out HL446_5.out (by decide)))
    have n1_ := Aside0.mk (below_weaken (xBi HB) HL.out hb)
    have n2_ := Aside0.mk (KeepBut.trans (xK HK) (KeepBut.of_grown hg g) (Kd.R_base2 HL446_5.out))
    have n3_ := Aside0.mk (Kd.H_grown (Kd.H_widen (by repeat (first | exact HH38.out | refine Kd.H_alloc ?_ _ | refine Kd.H_drewN ?_ _ | refine Kd.H_drew ?_))) hg (fun k_ e_ => .inl (UU38.out.1 k_ e_)))
    have n4_ := Aside0.mk (ho)
    clear HI0
    clear HB
    clear HK
    clear HH38
    clear HO_3
    clear UU38
    clear HL446_5
    have HI0 := n0_
    have HB := n1_
    have HK := n2_
    have HH38 := n3_
    have HO451 := n4_
    clear n0_ n1_ n2_ n3_ n4_
    clear ho hb hg hat
    have p32 : 0 ≤ (t436 : Int) := of_decide_eq_true xA
    have q32 : (t436 : Int) < ((t430.length : Int) : Int) := of_decide_eq_true xA
    replace p32 := eq_true p32
    replace q32 := eq_true q32
    obtain ⟨Ao42, co42, eo42⟩ := Kd.R_slice HO451.out
    (first | subst eo42 | (injection eo42 with f1_ f2_ f3_; have f4_ := f1_.symm; have f5_ := f3_.symm; clear f1_ f2_ f3_; subst f4_; subst f5_))
    obtain ⟨_, _, hraw40, _, _, hcc40, _⟩ := Kd.H_raw HH38.out (of_decide_eq_true xA) (by have h_ : (t436 : Int) < ((t430.length : Int) : Int) := of_decide_eq_true xA; first | exact h_ | (have e_ := (HN38.out); omega) | simpa using h_)
    obtain ⟨_, hfr40⟩ := Kd.H_at HH38.out (of_decide_eq_true xA) (by have h_ : (t436 : Int) < ((t430.length : Int) : Int) := of_decide_eq_true xA; first | exact h_ | (have e_ := (HN38.out); omega) | simpa using h_)
    have hx40_0 := hcc40 5 _ rfl
    have hf40_0 := hfr40 5
    (try rw [show (k142).sz = 6 from rfl] at hx40_0)
    (try rw [show (k142).sz = 6 from rfl] at hf40_0)
    have HP40 := Kd.S_seg0 HH38.out (of_decide_eq_true xA) (by have h_ : (t436 : Int) < ((t430.length : Int) : Int) := of_decide_eq_true xA; first | exact h_ | (have e_ := (HN38.out); omega) | simpa using h_) (seg := [.slice Ao42 y449.length co42]) (j := 5) (show 6 ≤ 6 from by decide) (x' := (⟨(⟨(rd_T142 t430 t436).f0.f0, (rd_T142 t430 t436).f0.f1, (rd_T142 t430 t436).f0.f2, (rd_T142 t430 t436).f0.f3, (rd_T142 t430 t436).f0.f4⟩ : S23), y449⟩ : S142)) (k142_mkM _ _ _ (⟨(⟨(rd_T142 t430 t436).f0.f0, (rd_T142 t430 t436).f0.f1, (rd_T142 t430 t436).f0.f2, (rd_T142 t430 t436).f0.f3, (rd_T142 t430 t436).f0.f4⟩ : S23), y449⟩ : S142) HO451.out) (fun _ hk => hk)
    clear hcc40 hfr40
    have HN0_go38 := Aside0.mk (show g ≠ go38 from by have h_ := IsS111.own_ne HI0.out hraw40 (by decide); intro e_; exact h_ (by rw [e_]; rfl))
    have HS40 := HP40.1
    rw [← Ny452.out] at HS40
    have HQ40 := Aside0.mk HS40
    obtain ⟨_, hgg40⟩ := Kd.R_typed hraw40 go38 rfl
    have GG40_ := Aside0.mk hgg40
    clear HP40 HS40 hgg40
    refine hK.out _ _ ⟨HS0_, HS1_, HS2_, HS3_, HS4_, HS5_⟩ (fun hHeld => ?_)
    clear hK K
    refine nA (some 54) ?_
    refine pA 11 55 (bm 14 4095) HT_ ?_
    refine pA 12 56 (bm 14 8191) HT_ ?_
    refine last_ (i := 13) (N := none) (bm 14 16383) rfl rfl (one_of HT_.out (by kernel_rfl)) (by decide) (fun K hK => ?_)
    refine skip_ (w1 := ?_) (by rfl) rfl ?_ ?_
    rotate_left
    ·go_simp
     rfl
    refine hK.out _ _ ?_
    clear hK K
    refine done_ (done_of HT_.out (by kernel_rfl)) ?_
    try go_wp2
    go_ret
    exact ⟨_, xE, by (with_reducible repeat (first | apply Kd.S_alloc | apply Kd.S_drewN | apply Kd.S_drew)); exact HQ40.out, iX HI0, by repeat (first | (with_reducible first | exact HB.out | apply below_alloc | apply pw_below_drewN | apply below_drew1 | refine below_set ?_ (Nat.le_trans HL.out GB38.out) | refine below_set ?_ (IsS111.ge HI0.out)) | exact HB.out), xK HK⟩
   rw [if_neg c27] at H
   have c27b0 := beq_eq_false_iff_ne.mpr c27
   have c27b1 := bne_iff_ne.mpr c27
   by_cases c43 : t438 = 2
   ·rw [if_pos c43] at H
    have c43b0 := beq_iff_eq.mpr c43
    have c43b1 := bne_eq_false_iff_eq.mpr c43
    clear c43
    obtain ⟨y453, Ny453⟩ := yA (([0, 1, 2, 9] : List Int) : List Int)
    rw [← Ny453.out] at H
    replace H := Option.bind_eq_some_iff.mp H
    obtain ⟨⟨t456, t457⟩, A440, H⟩ := H
    have A44 := Aside0.mk A440
    clear A440
    replace H := ipd H
    obtain ⟨c45b0, H⟩ := H
    replace H := ipd H
    obtain ⟨c46b0, H⟩ := H
    obtain ⟨y458, Ny458⟩ := yA (t430.set (t436 : Int).toNat (⟨(⟨(rd_T142 t430 t436).f0.f0, (rd_T142 t430 t436).f0.f1, (rd_T142 t430 t436).f0.f2, t456, (rd_T142 t430 t436).f0.f4⟩ : S23), (rd_T142 t430 t436).f1⟩ : S142) : List (S142))
    first | rw [← Ny458.out] at H | (replace H := bh H; rw [← Ny458.out] at H)
    simp only [Option.some.injEq, Prod.mk.injEq] at H
    obtain ⟨rfl, rfl⟩ := H
    go_wp2_with (first | ((with_reducible refine gate_dst (N := 62) rfl ?_); refine Kd.R_lit (Kd.int .i64) _ 3 ?hg (N := 62) ?hd (xs := ([0, 1, 2, 9] : List Int)) (inner := [.int .i64 0, .int .i64 1, .int .i64 2, .int .i64 9]) (ok := fun _ => True) (okp := fun _ => True) ?hr ?hp (fun _ hk => hk) trivial (Below.refl _ _) (Nat.le_refl _) (by simp) ?_; (case hd => rfl); (case hg => rfl); (case hr => first | (go_simp; done) | (go_simp; rfl)); (case hp => exact xP); intro v454 w51 ho52 hb hg_ hnew_; clear hg_ hnew_; (first | rw [← Ny453.out] at ho52 | (simp only [Int.reduceToNat] at ho52; rw [← Ny453.out] at ho52)); replace HO_3 := am (Kd.S_below (sx HO_3) hb); have HO455 := am (Kd.R_lower ho52 (xZ HK)); replace HK := kK HK hb; replace HB := kHi HB hb; replace HI0 := iK HI0 hb; clear hb ho52; obtain ⟨Ao53, co53, eo53⟩ := Kd.R_slice HO455.out; subst eo53) | ((with_reducible refine gg ?_); refine gL 63 Tryd.func84 #[.pointer (some ⟨g, 0, none⟩), .slice Ao53 y453.length co53] ?_; (with_reducible refine (spec_l20Rd_one.calls kj2 g s0_0 t439 _ _ y453 t456 t457 w0 _ ?side1 ?side2 ?side3 ?side4 ?side5 A44.out).mono ?_); (case side1 => exact iX HI0); (case side2 => exact xBi HB); (case side3 => exact cr (Kd.R_reads' HO455.out).2.2); (case side4 => exact sl HO455); (case side5 => exact far_slice (IsS111.own_ne HI0.out HO455.out (by decide))); rintro e w54 ⟨rfl, hi, hb, hk⟩; refine ⟨_, rfl, ?_⟩; replace HO_3 := am (Kd.S_mono (Kd.S_keep (IsS111.apartS (show IsS111 w0 _ g s0_0 t439 from iX HI0) (sx HO_3) (by decide)) hk (fun _ h => h.2)) (fun _ h => h.1)); replace HO455 := iR HI0 HO455 hk; replace HK := kT HK hk; replace HB := am (hb); replace HI0 := am (hi); (try clear hb); have p47 : 0 ≤ (t436 : Int) := of_decide_eq_true xA; have q47 : (t436 : Int) < ((t430.length : Int) : Int) := of_decide_eq_true xA; obtain ⟨go47, co47, eo47, gb47, gl47, cl47, HG47⟩ := Kd.S_form HO_3.out (by omega); (first | cases eo47 | (injection eo47 with ea_ en_ ec_; (first | subst ea_ | (injection ea_ with ea_; subst ea_)); subst ec_; clear en_)); have GB47 := Aside0.mk gb47; have GG47 := Aside0.mk HG47; clear gb47 gl47 HG47; obtain ⟨_, ce47, hcl47, hM47, hcc47, hfr47, _, _⟩ := Kd.S_elem HO_3.out z142 (t436 : Int) p47 q47; obtain ⟨ve47_5, rfl, ge47_5⟩ := k142_openM hM47; have hx47_0 : w54.cell? ⟨go47, (t436 : Int).toNat * 6, none⟩ = some (.string ((rd_T142 t430 t436).f0.f0)) := hcc47 0 _ rfl; have hx47_1 : w54.cell? ⟨go47, (t436 : Int).toNat * 6 + 1, none⟩ = some (.string ((rd_T142 t430 t436).f0.f1)) := hcc47 1 _ rfl; have hx47_2 : w54.cell? ⟨go47, (t436 : Int).toNat * 6 + 2, none⟩ = some (.int .i64 ((rd_T142 t430 t436).f0.f2)) := hcc47 2 _ rfl; have hx47_3 : w54.cell? ⟨go47, (t436 : Int).toNat * 6 + 3, none⟩ = some (.int .i64 ((rd_T142 t430 t436).f0.f3)) := hcc47 3 _ rfl; have hx47_4 : w54.cell? ⟨go47, (t436 : Int).toNat * 6 + 4, none⟩ = some (.int .i64 ((rd_T142 t430 t436).f0.f4)) := hcc47 4 _ rfl; have hx47_5 : w54.cell? ⟨go47, (t436 : Int).toNat * 6 + 5, none⟩ = some (ve47_5) := hcc47 5 _ rfl; have hf47_0 : w54.frozen? ⟨go47, (t436 : Int).toNat * 6, none⟩ = false := hfr47 0; have hf47_1 : w54.frozen? ⟨go47, (t436 : Int).toNat * 6 + 1, none⟩ = false := hfr47 1; have hf47_2 : w54.frozen? ⟨go47, (t436 : Int).toNat * 6 + 2, none⟩ = false := hfr47 2; have hf47_3 : w54.frozen? ⟨go47, (t436 : Int).toNat * 6 + 3, none⟩ = false := hfr47 3; have hf47_4 : w54.frozen? ⟨go47, (t436 : Int).toNat * 6 + 4, none⟩ = false := hfr47 4; have hf47_5 : w54.frozen? ⟨go47, (t436 : Int).toNat * 6 + 5, none⟩ = false := hfr47 5; clear hcl47 hcc47 hfr47 hM47; replace p47 := eq_true p47; replace q47 := eq_true q47; have HX55 := Aside0.mk (show Kd.S k142 142 w54 w.heap.size (fun k_ => ((fun _ => True)) k_ ∧ ¬ ((fun _ => False)) k_) (.slice (some ⟨go47, 0, none⟩) t430.length co18) t430 from (by (with_reducible repeat (first | apply Kd.S_alloc | apply Kd.S_drewN | apply Kd.S_drew)); exact Kd.S_mono HO_3.out (fun k_ hk => ⟨trivial, fun e_ => e_⟩))); obtain ⟨oki55, ce55, hcl55, hM55, hcc55, hfr55, hoki55, hH55⟩ := Kd.S_elem HX55.out z142 (t436 : Int) (of_decide_eq_true xA) (by have h_ : (t436 : Int) < ((t430.length : Int) : Int) := of_decide_eq_true xA; first | exact h_ | (have e_ := (Kd.S_reads' HO_3.out).1; omega) | simpa using h_); obtain ⟨ve55_5, rfl, ge55_5⟩ := k142_openM hM55; have HP55 := Kd.S_seg hH55 (of_decide_eq_true xA) (by have h_ : (t436 : Int) < ((t430.length : Int) : Int) := of_decide_eq_true xA; first | exact h_ | (have e_ := (Kd.S_reads' HO_3.out).1; omega) | simpa using h_) (seg := [.int .i64 t456]) (j := 3) (show 4 ≤ 6 from by decide) (x' := (⟨(⟨(rd_T142 t430 t436).f0.f0, (rd_T142 t430 t436).f0.f1, (rd_T142 t430 t436).f0.f2, t456, (rd_T142 t430 t436).f0.f4⟩ : S23), (rd_T142 t430 t436).f1⟩ : S142)) (k142_mkM _ _ _ (⟨(⟨(rd_T142 t430 t436).f0.f0, (rd_T142 t430 t436).f0.f1, (rd_T142 t430 t436).f0.f2, t456, (rd_T142 t430 t436).f0.f4⟩ : S23), (rd_T142 t430 t436).f1⟩ : S142) (Kd.R_mono ge55_5 (fun _ h_ => Or.inl h_))) (fun _ hk => hk) (fun k_ hk_ => hk_.elim); have hx55_3 := hcc55 3 _ rfl; (try simp only [show (k142).sz = 6 from rfl, Nat.mul_one, Nat.add_zero] at hx55_3); have hf55_3 := hfr55 3; (try simp only [show (k142).sz = 6 from rfl, Nat.mul_one, Nat.add_zero] at hf55_3); clear hcl55 hcc55 hfr55 hM55 hoki55 hH55) | ((with_reducible refine gate_store (t := 3) (p := 66) rfl ?_); refine store_event (t := 3) (p := 66) (v := ?vo_w56) (w1 := (w54.setCell ⟨go47, (t436 : Int).toNat * 6 + 3, none⟩ (.int .i64 t456))) ?hg ?ho ?hn ?hr ?_; (case ho => rfl); (case hg => rfl); (case hn => rfl); (case hr => first | (go_simp; done) | (go_simp; rfl)); intro w56 hw; have hg : w54.grownBy w56 (some go47) := (by rw [hw]; exact HP55.2); have hp_ : Kd.S k142 142 w56 w.heap.size (fun _ => True) (.slice (some ⟨go47, 0, none⟩) t430.length co18) y458 := (by rw [hw, Ny458.out]; exact HP55.1); clear HP55; replace HI0 := am (IsS111.grown (iX HI0) hg (IsS111.own_neS HI0.out HO_3.out (by decide))); replace HO455 := am (Kd.R_over' (v := (.slice (some ⟨go47, 0, none⟩) t430.length co18)) (ra HO455) (Kd.S_typed HO_3.out) (by decide) hg); replace HB := am ((by rw [hw]; exact below_set (HB.out) (Nat.le_trans HL.out GB47.out) : Below w0.heap.size w0 w56)); replace HK := am (KeepBut.trans (xK HK) (KeepBut.of_grown hg g) (Kd.S_base2 HO_3.out)); replace HO_3 := am (hp_); clear hg hw hp_))
    go_ret
    exact ⟨_, xE, sx HO_3, iX HI0, xBi HB, xK HK⟩
   rw [if_neg c43] at H
   have c43b0 := beq_eq_false_iff_ne.mpr c43
   have c43b1 := bne_iff_ne.mpr c43
   by_cases c57 : t438 = 3
   rotate_left
   ·rw [if_neg c57] at H
    have c57b0 := beq_eq_false_iff_ne.mpr c57
    have c57b1 := bne_iff_ne.mpr c57
    replace H := ip H
    obtain ⟨c70, H⟩ := H
    have c70b0 := decide_eq_true c70
    replace H := ip H
    obtain ⟨c71, H⟩ := H
    have c71b0 := decide_eq_true c71
    replace H := ip H
    obtain ⟨c72, H⟩ := H
    simp only [Option.some.injEq, Prod.mk.injEq] at H
    obtain ⟨rfl, rfl⟩ := H
    go_wp2
    have n0_ := Aside0.mk (Kd.S_drew HO_3.out)
    have n1_ := Aside0.mk (IsS111.drew HI0.out)
    have n2_ := Aside0.mk (keep_drew HK.out)
    have n3_ := Aside0.mk (below_drew1 HB.out)
    clear HO_3 HI0 HK HB
    refine start_ (n := 12) (S := fun _ => True) (ds := []) (bm 12 0) (by kernel_rfl) rfl rfl trivial (fun hHeld => ?_); refine with_tab spec_l20AnyBlocks.tab5 (fun HT_ => ?_)
    generalize World.drew _ = w70 at n0_ n1_ n2_ n3_ ⊢
    obtain ⟨cs70, okp70, hM70, hok70, hS70, hcl70, ad70, hA70, hx70⟩ := s_last n0_.out z142 (t436 : Int).toNat (by omega) ((t430.length : Int) - 1) rfl
    subst hA70
    obtain ⟨e70, hp70⟩ : ∃ p_, rd_T142 t430 ((t430.length : Int) - 1) = p_ := ⟨_, rfl⟩
    rw [show t430.getD ((t430.length : Int) - 1).toNat z142 = e70 from hp70] at hM70
    obtain ⟨v70, rfl, hv70⟩ := k142_openM hM70
    have hl70 : (t430.length : Int) ≤ 9223372036854775807 := s_len n0_.out
    obtain ⟨j70, hj70⟩ : ∃ j_ : Int, (t430.length : Int) - 1 = j_ := ⟨_, rfl⟩
    have hw70 : (IntKind.i64.wrap j70) = j70 := by rw [← hj70, i64_w]; unfold Go.RowKit.wrap64; omega
    rw [hj70] at hx70
    have hj0 : decide (0 ≤ j70) = true := decide_eq_true (by omega)
    have hj1 : decide (j70 < (t430.length : Int)) = true := decide_eq_true (by omega)
    have p70 := eq_true (show 0 ≤ j70 by omega)
    have q70 := eq_true (show j70 < (t430.length : Int) by omega)
    have hx70_0 := hx70 0 _ rfl
    have hx70_1 := hx70 1 _ rfl
    have hx70_2 := hx70 2 _ rfl
    have hx70_3 := hx70 3 _ rfl
    have hx70_4 := hx70 4 _ rfl
    have hx70_5 := hx70 5 _ rfl
    rw [show k142.sz = 6 from rfl] at hx70_0 hx70_1 hx70_2 hx70_3 hx70_4 hx70_5
    rw [Nat.add_zero] at hx70_0
    rw [add_field _ _ 1 (by omega)] at hx70_1
    rw [add_field _ _ 2 (by omega)] at hx70_2
    rw [add_field _ _ 3 (by omega)] at hx70_3
    rw [add_field _ _ 4 (by omega)] at hx70_4
    rw [add_field _ _ 5 (by omega)] at hx70_5
    clear hx70 hcl70 hv70
    obtain ⟨i070, hi070, _, hsz70, _⟩ := info_parts info142
    have hcut70 := cut_to (P := Tryd.prog) 128 142 .i64 Tryd.underlying128 hi070 (some ad70) t430.length co18 t436 c70 (by omega) (Kd.S_reads' n0_.out).2.1
    refine pA 0 21 (bm 12 1) HT_ ?_
    refine pA 1 22 (bm 12 3) HT_ ?_
    refine pA 2 23 (bm 12 7) HT_ ?_
    refine pA 3 24 (bm 12 15) HT_ ?_
    refine pA 4 25 (bm 12 31) HT_ ?_
    refine pA 5 26 (bm 12 63) HT_ ?_
    refine pA 6 27 (bm 12 127) HT_ ?_
    refine pA 7 28 (bm 12 255) HT_ ?_
    refine oA 8 (some 29) (bm 12 511) HT_ fun K hK => ?_
    refine value_ (w1 := ?_) (v := ?_) (by rfl) rfl ?_ ?_
    rotate_left 2
    ·go_simp
     constructor
     ·rfl
     ·rfl
    refine hK.out _ _ trivial (fun hHeld => ?_)
    clear hK K
    refine nA (some 29) ?_
    refine oA 9 (some 30) (bm 12 1023) HT_ fun K hK => ?_
    refine value_ (w1 := ?_) (v := ?_) (by rfl) rfl ?_ ?_
    rotate_left 2
    ·go_simp
     constructor
     ·rfl
     ·rfl
    refine hK.out _ _ trivial (fun hHeld => ?_)
    clear hK K
    refine nA (some 30) ?_
    refine oA 10 (some 31) (bm 12 2047) HT_ fun K hK => ?_
    refine Kd.S_append_step k142 w.heap.size (by rfl) (.tmp 23) (.tmp 30) 128 142 (.agg #[(.string ⟨#[]⟩), (.string ⟨#[]⟩), (.int .i64 0), (.int .i64 0), (.int .i64 0), (.slice none 0 0)]) 80 rfl Tryd.underlying128 info142 rfl (by decide) (by omega) _ _ e70 _ (fun _ => True) okp70 rfl rfl hM70 hok70 (fun _ _ => trivial) hS70 (Below.refl _ _) n2_.out.1 (by omega) ?_
    intro v71 w71 ho hb hg hat
    have m0_ := Aside0.mk ho
    have m1_ := Aside0.mk (IsS111.grown n1_.out hg (IsS111.own_ne n1_.out (Kd.S_R hS70) (by decide)))
    have m2_ := Aside0.mk (KeepBut.trans n2_.out (KeepBut.of_grown hg g) (Kd.S_base2 hS70))
    have m3_ := Aside0.mk (below_weaken n3_.out HL.out hb)
    clear ho hb hg hat
    refine hK.out _ _ trivial (fun hHeld => ?_)
    clear hK K
    refine nA (some 31) ?_
    refine pA 11 2 (bm 12 4095) HT_ ?_
    refine done_ (done_of HT_.out (by kernel_rfl)) ?_
    try go_wp2
    go_ret
    subst hp70
    exact ⟨_, rfl, m0_.out, m1_.out, m3_.out, m2_.out⟩
   rw [if_pos c57] at H
   have c57b0 := beq_iff_eq.mpr c57
   have c57b1 := bne_eq_false_iff_eq.mpr c57
   clear c57
   obtain ⟨y459, Ny459⟩ := yA (([0, 99999, 100000] : List Int) : List Int)
   rw [← Ny459.out] at H
   replace H := Option.bind_eq_some_iff.mp H
   obtain ⟨⟨t462, t463⟩, A580, H⟩ := H
   have A58 := Aside0.mk A580
   clear A580
   replace H := ipd H
   obtain ⟨c59b0, H⟩ := H
   replace H := ipd H
   obtain ⟨c60b0, H⟩ := H
   obtain ⟨y464, Ny464⟩ := yA (t430.set (t436 : Int).toNat (⟨(⟨(rd_T142 t430 t436).f0.f0, (rd_T142 t430 t436).f0.f1, t462, (rd_T142 t430 t436).f0.f3, (rd_T142 t430 t436).f0.f4⟩ : S23), (rd_T142 t430 t436).f1⟩ : S142) : List (S142))
   first | rw [← Ny464.out] at H | (replace H := bh H; rw [← Ny464.out] at H)
   simp only [Option.some.injEq, Prod.mk.injEq] at H
   obtain ⟨rfl, rfl⟩ := H
   go_wp2_with (first | ((with_reducible refine gate_dst (N := 72) rfl ?_); refine Kd.R_lit (Kd.int .i64) _ 3 ?hg (N := 72) ?hd (xs := ([0, 99999, 100000] : List Int)) (inner := [.int .i64 0, .int .i64 99999, .int .i64 100000]) (ok := fun _ => True) (okp := fun _ => True) ?hr ?hp (fun _ hk => hk) trivial (Below.refl _ _) (Nat.le_refl _) (by simp) ?_; (case hd => rfl); (case hg => rfl); (case hr => first | (go_simp; done) | (go_simp; rfl)); (case hp => exact xP); intro v460 w65 ho66 hb hg_ hnew_; clear hg_ hnew_; (first | rw [← Ny459.out] at ho66 | (simp only [Int.reduceToNat] at ho66; rw [← Ny459.out] at ho66)); replace HO_3 := am (Kd.S_below (sx HO_3) hb); have HO461 := am (Kd.R_lower ho66 (xZ HK)); replace HK := kK HK hb; replace HB := kHi HB hb; replace HI0 := iK HI0 hb; clear hb ho66; obtain ⟨Ao67, co67, eo67⟩ := Kd.R_slice HO461.out; subst eo67) | ((with_reducible refine gg ?_); refine gL 73 Tryd.func84 #[.pointer (some ⟨g, 0, none⟩), .slice Ao67 y459.length co67] ?_; (with_reducible refine (spec_l20Rd_one.calls kj2 g s0_0 t439 _ _ y459 t462 t463 w0 _ ?side1 ?side2 ?side3 ?side4 ?side5 A58.out).mono ?_); (case side1 => exact iX HI0); (case side2 => exact xBi HB); (case side3 => exact cr (Kd.R_reads' HO461.out).2.2); (case side4 => exact sl HO461); (case side5 => exact far_slice (IsS111.own_ne HI0.out HO461.out (by decide))); rintro e w68 ⟨rfl, hi, hb, hk⟩; refine ⟨_, rfl, ?_⟩; replace HO_3 := am (Kd.S_mono (Kd.S_keep (IsS111.apartS (show IsS111 w0 _ g s0_0 t439 from iX HI0) (sx HO_3) (by decide)) hk (fun _ h => h.2)) (fun _ h => h.1)); replace HO461 := iR HI0 HO461 hk; replace HK := kT HK hk; replace HB := am (hb); replace HI0 := am (hi); (try clear hb); have p61 : 0 ≤ (t436 : Int) := of_decide_eq_true xA; have q61 : (t436 : Int) < ((t430.length : Int) : Int) := of_decide_eq_true xA; obtain ⟨go61, co61, eo61, gb61, gl61, cl61, HG61⟩ := Kd.S_form HO_3.out (by omega); (first | cases eo61 | (injection eo61 with ea_ en_ ec_; (first | subst ea_ | (injection ea_ with ea_; subst ea_)); subst ec_; clear en_)); have GB61 := Aside0.mk gb61; have GG61 := Aside0.mk HG61; clear gb61 gl61 HG61; obtain ⟨_, ce61, hcl61, hM61, hcc61, hfr61, _, _⟩ := Kd.S_elem HO_3.out z142 (t436 : Int) p61 q61; obtain ⟨ve61_5, rfl, ge61_5⟩ := k142_openM hM61; have hx61_0 : w68.cell? ⟨go61, (t436 : Int).toNat * 6, none⟩ = some (.string ((rd_T142 t430 t436).f0.f0)) := hcc61 0 _ rfl; have hx61_1 : w68.cell? ⟨go61, (t436 : Int).toNat * 6 + 1, none⟩ = some (.string ((rd_T142 t430 t436).f0.f1)) := hcc61 1 _ rfl; have hx61_2 : w68.cell? ⟨go61, (t436 : Int).toNat * 6 + 2, none⟩ = some (.int .i64 ((rd_T142 t430 t436).f0.f2)) := hcc61 2 _ rfl; have hx61_3 : w68.cell? ⟨go61, (t436 : Int).toNat * 6 + 3, none⟩ = some (.int .i64 ((rd_T142 t430 t436).f0.f3)) := hcc61 3 _ rfl; have hx61_4 : w68.cell? ⟨go61, (t436 : Int).toNat * 6 + 4, none⟩ = some (.int .i64 ((rd_T142 t430 t436).f0.f4)) := hcc61 4 _ rfl; have hx61_5 : w68.cell? ⟨go61, (t436 : Int).toNat * 6 + 5, none⟩ = some (ve61_5) := hcc61 5 _ rfl; have hf61_0 : w68.frozen? ⟨go61, (t436 : Int).toNat * 6, none⟩ = false := hfr61 0; have hf61_1 : w68.frozen? ⟨go61, (t436 : Int).toNat * 6 + 1, none⟩ = false := hfr61 1; have hf61_2 : w68.frozen? ⟨go61, (t436 : Int).toNat * 6 + 2, none⟩ = false := hfr61 2; have hf61_3 : w68.frozen? ⟨go61, (t436 : Int).toNat * 6 + 3, none⟩ = false := hfr61 3; have hf61_4 : w68.frozen? ⟨go61, (t436 : Int).toNat * 6 + 4, none⟩ = false := hfr61 4; have hf61_5 : w68.frozen? ⟨go61, (t436 : Int).toNat * 6 + 5, none⟩ = false := hfr61 5; clear hcl61 hcc61 hfr61 hM61; replace p61 := eq_true p61; replace q61 := eq_true q61; have HX69 := Aside0.mk (show Kd.S k142 142 w68 w.heap.size (fun k_ => ((fun _ => True)) k_ ∧ ¬ ((fun _ => False)) k_) (.slice (some ⟨go61, 0, none⟩) t430.length co18) t430 from (by (with_reducible repeat (first | apply Kd.S_alloc | apply Kd.S_drewN | apply Kd.S_drew)); exact Kd.S_mono HO_3.out (fun k_ hk => ⟨trivial, fun e_ => e_⟩))); obtain ⟨oki69, ce69, hcl69, hM69, hcc69, hfr69, hoki69, hH69⟩ := Kd.S_elem HX69.out z142 (t436 : Int) (of_decide_eq_true xA) (by have h_ : (t436 : Int) < ((t430.length : Int) : Int) := of_decide_eq_true xA; first | exact h_ | (have e_ := (Kd.S_reads' HO_3.out).1; omega) | simpa using h_); obtain ⟨ve69_5, rfl, ge69_5⟩ := k142_openM hM69; have HP69 := Kd.S_seg hH69 (of_decide_eq_true xA) (by have h_ : (t436 : Int) < ((t430.length : Int) : Int) := of_decide_eq_true xA; first | exact h_ | (have e_ := (Kd.S_reads' HO_3.out).1; omega) | simpa using h_) (seg := [.int .i64 t462]) (j := 2) (show 3 ≤ 6 from by decide) (x' := (⟨(⟨(rd_T142 t430 t436).f0.f0, (rd_T142 t430 t436).f0.f1, t462, (rd_T142 t430 t436).f0.f3, (rd_T142 t430 t436).f0.f4⟩ : S23), (rd_T142 t430 t436).f1⟩ : S142)) (k142_mkM _ _ _ (⟨(⟨(rd_T142 t430 t436).f0.f0, (rd_T142 t430 t436).f0.f1, t462, (rd_T142 t430 t436).f0.f3, (rd_T142 t430 t436).f0.f4⟩ : S23), (rd_T142 t430 t436).f1⟩ : S142) (Kd.R_mono ge69_5 (fun _ h_ => Or.inl h_))) (fun _ hk => hk) (fun k_ hk_ => hk_.elim); have hx69_2 := hcc69 2 _ rfl; (try simp only [show (k142).sz = 6 from rfl, Nat.mul_one, Nat.add_zero] at hx69_2); have hf69_2 := hfr69 2; (try simp only [show (k142).sz = 6 from rfl, Nat.mul_one, Nat.add_zero] at hf69_2); clear hcl69 hcc69 hfr69 hM69 hoki69 hH69) | ((with_reducible refine gate_store (t := 3) (p := 76) rfl ?_); refine store_event (t := 3) (p := 76) (v := ?vo_w70) (w1 := (w68.setCell ⟨go61, (t436 : Int).toNat * 6 + 2, none⟩ (.int .i64 t462))) ?hg ?ho ?hn ?hr ?_; (case ho => rfl); (case hg => rfl); (case hn => rfl); (case hr => first | (go_simp; done) | (go_simp; rfl)); intro w70 hw; have hg : w68.grownBy w70 (some go61) := (by rw [hw]; exact HP69.2); have hp_ : Kd.S k142 142 w70 w.heap.size (fun _ => True) (.slice (some ⟨go61, 0, none⟩) t430.length co18) y464 := (by rw [hw, Ny464.out]; exact HP69.1); clear HP69; replace HI0 := am (IsS111.grown (iX HI0) hg (IsS111.own_neS HI0.out HO_3.out (by decide))); replace HO461 := am (Kd.R_over' (v := (.slice (some ⟨go61, 0, none⟩) t430.length co18)) (ra HO461) (Kd.S_typed HO_3.out) (by decide) hg); replace HB := am ((by rw [hw]; exact below_set (HB.out) (Nat.le_trans HL.out GB61.out) : Below w0.heap.size w0 w70)); replace HK := am (KeepBut.trans (xK HK) (KeepBut.of_grown hg g) (Kd.S_base2 HO_3.out)); replace HO_3 := am (hp_); clear hg hw hp_))
   go_ret
   exact ⟨_, xE, sx HO_3, iX HI0, xBi HB, xK HK⟩
def spec_l20Heads.f (k : Nat) (s0_0 : List Int) (s0_1 : Int) : Option ((List (S23)) × Int) := (spec_l20AnyBlocks.f k s0_0 s0_1).bind fun bt465 => ((spec_l4Heads.f k bt465.1).bind fun t469 => (some (t469, bt465.2)))
theorem spec_l20Heads.mono : ∀ a0 a1 k, LeO (spec_l20Heads.f k a0 a1) (spec_l20Heads.f (k + 1) a0 a1) := by
 intro a0 a1 k
 unfold spec_l20Heads.f
 exact mo2 spec_l20AnyBlocks.mono spec_l4Heads.mono
theorem spec_l20Heads.calls (k : Nat) (g : Nat) (s0_0 : List Int) (s0_1 : Int) (r1 : List (S23)) (r2 : Int) (w0 w : World) (hI : IsS111 w0 w g s0_0 s0_1) (hB : Below w0.heap.size w0 w) (h : spec_l20Heads.f k s0_0 s0_1 = some (r1, r2)) :
  Calls Tryd.prog 85 #[.pointer (some ⟨g, 0, none⟩)] w fun e w' => ∃ v0_ : Value, e = .returned (v0_) ∧ Kd.R k23 23 w' w.heap.size (fun _ => True) v0_ r1 ∧ IsS111 w0 w' g s0_0 r2 ∧ Below w0.heap.size w0 w' ∧ KeepBut w w' g none := by
 have HI0 := Aside0.mk hI
 have HK := Aside0.mk (KeepBut.refl w g none)
 have HL := Aside0.mk hB.size
 clear hI
 have HW0 := Aside0.mk hB.size
 have HB := Aside0.mk hB
 clear hB
 have H : ((spec_l20AnyBlocks.f k s0_0 s0_1).bind fun bt465 => ((spec_l4Heads.f k bt465.1).bind fun t469 => (some (t469, bt465.2)))) = some (r1, r2) := h
 clear h
 replace H := Option.bind_eq_some_iff.mp H
 obtain ⟨⟨t465, t468⟩, A20, H⟩ := H
 have A2 := Aside0.mk A20
 clear A20
 replace H := oa H
 obtain ⟨t469, A3, H⟩ := H
 simp only [Option.some.injEq, Prod.mk.injEq] at H
 obtain ⟨rfl, rfl⟩ := H
 go_enter Tryd.func85, Tryd.ntmps85
 go_wp2_with ((with_reducible refine gg ?_); first | (refine gL 4 Tryd.func99 #[.pointer (some ⟨g, 0, none⟩)] ?_; (with_reducible refine (spec_l20AnyBlocks.calls k g s0_0 s0_1 t465 t468 w0 _ ?side1 ?side2 A2.out).mono ?_); (case side1 => exact iX HI0); (case side2 => exact xBi HB); rintro e w4 ⟨v466, rfl, ho0, hi, hb, hk⟩; refine ⟨_, rfl, ?_⟩; have HO467 := am (Kd.S_lower ho0 (xZ HK)); replace HK := kT HK hk; replace HB := am (hb); replace HI0 := am (hi); (try clear hb); (try clear ho0); obtain ⟨Ao5, co5, eo5⟩ := Kd.S_slice HO467.out; subst eo5) | (refine gL 5 Tryd.func98 #[.slice Ao5 t465.length co5] ?_; (with_reducible refine (spec_l4Heads.calls k _ _ t465 t469 _ ?side1 ?side2 A3.out).mono ?_); (case side1 => exact cr (Kd.S_reads' HO467.out).2.2); (case side2 => exact (Kd.S_reads' HO467.out).2.1); rintro e w6 ⟨v470, rfl, ho0, hb⟩; refine ⟨_, rfl, ?_⟩; replace HO467 := am (Kd.S_below (sx HO467) hb); have HO471 := am (Kd.R_lower ho0 (xZ HK)); replace HK := kK HK hb; replace HB := kHi HB hb; replace HI0 := iK HI0 hb; (try clear hb); (try clear ho0)))
 go_ret
 exact ⟨_, xE, ra HO471, iX HI0, xBi HB, xK HK⟩
end Go.Proofs.YtgjljbaadglpnaaDoor.PFnHeadGet
