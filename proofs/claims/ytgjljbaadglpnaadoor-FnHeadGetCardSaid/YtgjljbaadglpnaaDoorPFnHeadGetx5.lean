/- Functions of the program and what each answers: the kit's print, shortened (wip/press2.py). -/
import Derived.Test.YtgjljbaadglpnaaDoorPFnHeadGetx0
import Derived.Test.YtgjljbaadglpnaaDoorPFnHeadGetx3
import Derived.Test.YtgjljbaadglpnaaDoorPFnHeadGetx4
namespace Go.Proofs.YtgjljbaadglpnaaDoor.PFnHeadGet
open Go.Proofs.YtgjljbaadglpnaaDoor.Sq Go.RowKit Go.Proofs.YtgjljbaadglpnaaDoorW.PrintWords Go.Proofs.YtgjljbaadglpnaaDoorW.PrintLast Go.Proofs.YtgjljbaadglpnaaDoorW.PrintMore
attribute [local go_sem] max2_int min2_int max_two min_two max_three min_three max_four min_four   -- for this text's walks alone
set_option linter.unusedVariables false
set_option linter.unusedSimpArgs false
set_option maxHeartbeats 64000000
set_option maxRecDepth 100000
def spec_HeadGet.f (k : Nat) (a0 : ByteArray) : Option (ByteArray × ByteArray × Int × Int × Int × Bool) := (spec_l1Cut.f k a0 32 5).bind fun t144 => (if (t144.length : Int) = 5 then (if 0 < (t144.length : Int) then (if 1 < (t144.length : Int) then (if 2 < (t144.length : Int) then ((spec_l1Num.f k (rdOf ByteArray.empty t144 2)).bind fun t150 => (if 3 < (t144.length : Int) then ((spec_l1Num.f k (rdOf ByteArray.empty t144 3)).bind fun t152 => (if 4 < (t144.length : Int) then ((spec_l1Num.f k (rdOf ByteArray.empty t144 4)).bind fun t154 => ((spec_l3Ok.f k (rdOf ByteArray.empty t144 0) (rdOf ByteArray.empty t144 1) t150 t152 t154).bind fun t156 => (if t156 = true then ((spec_l3Put.f k (rdOf ByteArray.empty t144 0) (rdOf ByteArray.empty t144 1) t150 t152 t154).bind fun t157 => (if t157.toList = a0.toList then (some (rdOf ByteArray.empty t144 0, rdOf ByteArray.empty t144 1, t150, t152, t154, true)) else (some ((⟨#[]⟩ : ByteArray), (⟨#[]⟩ : ByteArray), 0, 0, 0, false)))) else (some ((⟨#[]⟩ : ByteArray), (⟨#[]⟩ : ByteArray), 0, 0, 0, false))))) else (none))) else (none))) else (none)) else (none)) else (none)) else (some ((⟨#[]⟩ : ByteArray), (⟨#[]⟩ : ByteArray), 0, 0, 0, false)))
theorem spec_HeadGet.mono : ∀ a0 k, LeO (spec_HeadGet.f k a0) (spec_HeadGet.f (k + 1) a0) := by
 intro a0 k
 unfold spec_HeadGet.f
 exact mo4 spec_l1Cut.mono spec_l1Num.mono spec_l3Ok.mono spec_l3Put.mono
def spec_HeadGet.T4 : Bool × List (List Nat × List Nat) := (true, [([], []), ([0], [0]), ([1], [1]), ([], []), ([3], [3]), ([4], [4]), ([], []), ([6], [6]), ([7], [7]), ([8], [8]), ([], []), ([10], [10]), ([11], [11]), ([12, 9], [12]), ([], []), ([14], [14]), ([15], [15]), ([16, 13], [16]), ([2, 5, 9, 13, 17], [2, 5, 9, 13, 17]), ([], []), ([19, 18, 17, 0, 1, 2, 3, 4, 5, 6, 7, 8, 9, 10, 11, 12, 13, 14, 15, 16, 17, 18, 19], [18, 19])])
def spec_HeadGet.B4 : List Nat := [0, 1, 3, 0, 8, 24, 0, 64, 192, 448, 0, 1024, 3072, 8128, 0, 16384, 49152, 131008, 262143, 0, 1048575]
theorem spec_HeadGet.tab4 : rtab .any (opsOf Tryd.f17 4) = spec_HeadGet.T4 := by kernel_rfl
theorem spec_HeadGet.bits4 : waitsOk spec_HeadGet.T4.2 spec_HeadGet.B4 = true := by kernel_rfl
theorem spec_HeadGet.calls (k : Nat) (a0 : ByteArray) (r1 : ByteArray) (r2 : ByteArray) (r3 : Int) (r4 : Int) (r5 : Int) (r6 : Bool) (w : World) (h : spec_HeadGet.f k a0 = some (r1, r2, r3, r4, r5, r6)) :
  Calls Tryd.prog 17 #[.string a0] w fun e w' => e = .returned (.tuple #[.agg #[.string r1, .string r2, .int .i64 r3, .int .i64 r4, .int .i64 r5], .bool r6]) ∧ Below w.heap.size w w' := by
 have hu23 := Tryd.underlying23
 have HB := Aside0.mk (Below.refl w.heap.size w)
 have H : ((spec_l1Cut.f k a0 32 5).bind fun t144 => (if (t144.length : Int) = 5 then (if 0 < (t144.length : Int) then (if 1 < (t144.length : Int) then (if 2 < (t144.length : Int) then ((spec_l1Num.f k (rdOf ByteArray.empty t144 2)).bind fun t150 => (if 3 < (t144.length : Int) then ((spec_l1Num.f k (rdOf ByteArray.empty t144 3)).bind fun t152 => (if 4 < (t144.length : Int) then ((spec_l1Num.f k (rdOf ByteArray.empty t144 4)).bind fun t154 => ((spec_l3Ok.f k (rdOf ByteArray.empty t144 0) (rdOf ByteArray.empty t144 1) t150 t152 t154).bind fun t156 => (if t156 = true then ((spec_l3Put.f k (rdOf ByteArray.empty t144 0) (rdOf ByteArray.empty t144 1) t150 t152 t154).bind fun t157 => (if t157.toList = a0.toList then (some (rdOf ByteArray.empty t144 0, rdOf ByteArray.empty t144 1, t150, t152, t154, true)) else (some ((⟨#[]⟩ : ByteArray), (⟨#[]⟩ : ByteArray), 0, 0, 0, false)))) else (some ((⟨#[]⟩ : ByteArray), (⟨#[]⟩ : ByteArray), 0, 0, 0, false))))) else (none))) else (none))) else (none)) else (none)) else (none)) else (some ((⟨#[]⟩ : ByteArray), (⟨#[]⟩ : ByteArray), 0, 0, 0, false)))) = some (r1, r2, r3, r4, r5, r6) := h
 clear h
 replace H := oa H
 obtain ⟨t144, A2, H⟩ := H
 go_enter Tryd.func17, Tryd.ntmps17
 go_upto_if 10 with ((with_reducible refine gg ?_); first | (refine bE 2 #[.string (⟨#[]⟩ : ByteArray), .string (⟨#[]⟩ : ByteArray), .int .i64 0, .int .i64 0, .int .i64 0] 23 ?_; intro gb143 hg w16 hbox hb; have BK143 := am (hbox); have GW143 := zB hg HB; have GE143 := zB hg HB; replace HB := kH HB hb; clear hb hbox hg) | (refine gL 7 Tryd.func25 #[.string a0, .int .u8 32, .int .i64 5] ?_; (with_reducible refine (spec_l1Cut.calls k a0 32 5 t144 _ A2.out).mono ?_); rintro e w17 ⟨v145, rfl, ho0, hb⟩; refine ⟨_, rfl, ?_⟩; have HO146 := am (Kd.R_lower ho0 (below_size (xB HB))); replace BK143 := kP _ BK143 hb; replace HB := kH HB hb; (try clear hb); (try clear ho0); obtain ⟨Ao18, co18, eo18⟩ := Kd.R_slice HO146.out; subst eo18))
 by_cases c3 : (t144.length : Int) = 5
 rotate_left
 ·rw [if_neg c3] at H
  have c3b0 := beq_eq_false_iff_ne.mpr c3
  have c3b1 := bne_iff_ne.mpr c3
  try simp only [c3b0, c3b1, Bool.not_true, Bool.not_false]
  simp only [Option.some.injEq, Prod.mk.injEq] at H
  obtain ⟨rfl, rfl, rfl, rfl, rfl, rfl⟩ := H
  have hz69 := bc5 BK143
  go_wp2
  refine bodyPost_ret (results_ct rfl _ _ gb143 23 #[.string (⟨#[]⟩ : ByteArray), .string (⟨#[]⟩ : ByteArray), .int .i64 0, .int .i64 0, .int .i64 0] (0, 0) _ rfl (fb BK143) Tryd.underlying23 rfl (by kernel_rfl)) rfl ?_
  exact ⟨xE, xB HB⟩
 rw [if_pos c3] at H
 have c3b0 := beq_iff_eq.mpr c3
 have c3b1 := bne_eq_false_iff_eq.mpr c3
 try simp only [c3b0, c3b1, Bool.not_true, Bool.not_false]
 clear c3
 replace H := ip H
 obtain ⟨c4, H⟩ := H
 have c4b0 := decide_eq_true c4
 have c4b1 : decide (0 < t144.length) = true := decide_eq_true (by omega)
 clear c4
 replace H := ip H
 obtain ⟨c5, H⟩ := H
 have c5b0 := decide_eq_true c5
 have c5b1 : decide (1 < t144.length) = true := decide_eq_true (by omega)
 clear c5
 replace H := ip H
 obtain ⟨c6, H⟩ := H
 have c6b0 := decide_eq_true c6
 have c6b1 : decide (2 < t144.length) = true := decide_eq_true (by omega)
 clear c6
 replace H := oa H
 obtain ⟨t150, A7, H⟩ := H
 replace H := ip H
 obtain ⟨c8, H⟩ := H
 have c8b0 := decide_eq_true c8
 have c8b1 : decide (3 < t144.length) = true := decide_eq_true (by omega)
 clear c8
 replace H := oa H
 obtain ⟨t152, A9, H⟩ := H
 replace H := ip H
 obtain ⟨c10, H⟩ := H
 have c10b0 := decide_eq_true c10
 have c10b1 : decide (4 < t144.length) = true := decide_eq_true (by omega)
 clear c10
 replace H := oa H
 obtain ⟨t154, A11, H⟩ := H
 replace H := oa H
 obtain ⟨t156, A12, H⟩ := H
 try go_wp2
 replace HO146 := am (Kd.R_drew HO146.out)
 replace BK143 := am (blk_drew BK143.out)
 replace HB := am (below_drew1 HB.out)
 have p147 : 0 ≤ (0 : Int) := (by omega)
 have q147 : 0 < (t144.length : Int) := of_decide_eq_true xA
 obtain ⟨ad147, e147, hx147_0⟩ := Kd.at_string (Kd.R_reads' HO146.out).2.2 0 p147 q147
 cases e147
 have qi147 : (0 < t144.length) = True := eq_true (by omega)
 (try rw [show ((0 : Int)).toNat = 0 from rfl] at hx147_0)
 (try rw [Addr.add_zero'] at hx147_0)
 replace p147 := eq_true p147
 replace q147 := eq_true q147
 have p148 : 0 ≤ (1 : Int) := (by omega)
 have q148 : 1 < (t144.length : Int) := of_decide_eq_true xA
 obtain ⟨ad148, e148, hx148_0⟩ := Kd.at_string (Kd.R_reads' HO146.out).2.2 1 p148 q148
 obtain rfl : ad147 = ad148 := (by injection e148)
 (try simp only [show (1 : Int).toNat = 1 from rfl, Nat.reduceMul, Nat.reduceEqDiff, Go.Addr.add, ↓reduceIte] at hx148_0)
 have qi148 : (1 < t144.length) = True := eq_true (by omega)
 (try rw [show ((1 : Int)).toNat = 1 from rfl] at hx148_0)
 replace p148 := eq_true p148
 replace q148 := eq_true q148
 have p149 : 0 ≤ (2 : Int) := (by omega)
 have q149 : 2 < (t144.length : Int) := of_decide_eq_true xA
 obtain ⟨ad149, e149, hx149_0⟩ := Kd.at_string (Kd.R_reads' HO146.out).2.2 2 p149 q149
 obtain rfl : ad147 = ad149 := (by injection e149)
 (try simp only [show (2 : Int).toNat = 2 from rfl, Nat.reduceMul, Nat.reduceEqDiff, Go.Addr.add, ↓reduceIte] at hx149_0)
 have qi149 : (2 < t144.length) = True := eq_true (by omega)
 (try rw [show ((2 : Int)).toNat = 2 from rfl] at hx149_0)
 replace p149 := eq_true p149
 replace q149 := eq_true q149
 have p151 : 0 ≤ (3 : Int) := (by omega)
 have q151 : 3 < (t144.length : Int) := of_decide_eq_true xA
 obtain ⟨ad151, e151, hx151_0⟩ := Kd.at_string (Kd.R_reads' HO146.out).2.2 3 p151 q151
 obtain rfl : ad147 = ad151 := (by injection e151)
 (try simp only [show (3 : Int).toNat = 3 from rfl, Nat.reduceMul, Nat.reduceEqDiff, Go.Addr.add, ↓reduceIte] at hx151_0)
 have qi151 : (3 < t144.length) = True := eq_true (by omega)
 (try rw [show ((3 : Int)).toNat = 3 from rfl] at hx151_0)
 replace p151 := eq_true p151
 replace q151 := eq_true q151
 have p153 : 0 ≤ (4 : Int) := (by omega)
 have q153 : 4 < (t144.length : Int) := of_decide_eq_true xA
 obtain ⟨ad153, e153, hx153_0⟩ := Kd.at_string (Kd.R_reads' HO146.out).2.2 4 p153 q153
 obtain rfl : ad147 = ad153 := (by injection e153)
 (try simp only [show (4 : Int).toNat = 4 from rfl, Nat.reduceMul, Nat.reduceEqDiff, Go.Addr.add, ↓reduceIte] at hx153_0)
 have qi153 : (4 < t144.length) = True := eq_true (by omega)
 (try rw [show ((4 : Int)).toNat = 4 from rfl] at hx153_0)
 replace p153 := eq_true p153
 replace q153 := eq_true q153
 refine start_ (n := 21) (S := fun w' => w'.cell? ad147 = some (.string (rdOf ByteArray.empty t144 0)) ∧ w'.cell? ⟨ad147.block, ad147.off + 1, none⟩ = some (.string (rdOf ByteArray.empty t144 1)) ∧ w'.cell? ⟨ad147.block, ad147.off + 2, none⟩ = some (.string (rdOf ByteArray.empty t144 2)) ∧ w'.cell? ⟨ad147.block, ad147.off + 3, none⟩ = some (.string (rdOf ByteArray.empty t144 3)) ∧ w'.cell? ⟨ad147.block, ad147.off + 4, none⟩ = some (.string (rdOf ByteArray.empty t144 4))) (ds := []) (bm 21 0) (by kernel_rfl) rfl rfl ⟨hx147_0, hx148_0, hx149_0, hx151_0, hx153_0⟩ (fun hHeld => ?_); refine with_tabW spec_HeadGet.tab4 spec_HeadGet.bits4 (fun HT_ HW_ => ?_)
 generalize w17.drew = w19 at HO146 BK143 HB hx147_0 hx148_0 hx149_0 hx151_0 hx153_0 hHeld ⊢
 refine pA 0 12 (bm 21 1) HT_ ?_
 refine pA 1 13 (bm 21 3) HT_ ?_
 refine pA 3 15 (bm 21 11) HT_ ?_
 refine pA 4 16 (bm 21 27) HT_ ?_
 refine pA 6 18 (bm 21 91) HT_ ?_
 refine pA 7 19 (bm 21 219) HT_ ?_
 refine pA 10 22 (bm 21 1243) HT_ ?_
 refine pA 11 23 (bm 21 3291) HT_ ?_
 refine pA 14 26 (bm 21 19675) HT_ ?_
 refine pA 15 27 (bm 21 52443) HT_ ?_
 refine tA 2 14 (bm 21 52447) HT_ HW_ hHeld ?_
 refine tA 5 17 (bm 21 52479) HT_ HW_ hHeld ?_
 refine tA 8 20 (bm 21 52735) HT_ HW_ hHeld ?_
 refine tA 12 24 (bm 21 56831) HT_ HW_ hHeld ?_
 refine tA 16 28 (bm 21 122367) HT_ HW_ hHeld ?_
 refine join_ (σ := Nat) 1 (bm 21 1048575) (fun s_ => [(21, .int .i64 t150), (25, .int .i64 t152), (29, .int .i64 t154), (5, .pointer (some ⟨s_, 0, none⟩)), (30, .agg #[.string (rdOf ByteArray.empty t144 0), .string (rdOf ByteArray.empty t144 1), .int .i64 t150, .int .i64 t152, .int .i64 t154])]) (fun s_ w' => (w'.cell? ad147 = some (.string (rdOf ByteArray.empty t144 0)) ∧ w'.cell? ⟨ad147.block, ad147.off + 1, none⟩ = some (.string (rdOf ByteArray.empty t144 1)) ∧ w'.cell? ⟨ad147.block, ad147.off + 2, none⟩ = some (.string (rdOf ByteArray.empty t144 2)) ∧ w'.cell? ⟨ad147.block, ad147.off + 3, none⟩ = some (.string (rdOf ByteArray.empty t144 3)) ∧ w'.cell? ⟨ad147.block, ad147.off + 4, none⟩ = some (.string (rdOf ByteArray.empty t144 4))) ∧ (Kd.R Kd.string 9 w' w.heap.size (fun _ => True) (.slice (some ad147) t144.length co18) t144) ∧ (w'.heap[gb143]? = some (.cells #[.string (⟨#[]⟩ : ByteArray), .string (⟨#[]⟩ : ByteArray), .int .i64 0, .int .i64 0, .int .i64 0] 23 (0, 0))) ∧ (w'.heap[s_]? = some (.cells #[.string (⟨#[]⟩ : ByteArray), .string (⟨#[]⟩ : ByteArray), .int .i64 0, .int .i64 0, .int .i64 0] 23 (0, 0))) ∧ (w.heap.size ≤ s_) ∧ (w.heap.size ≤ s_) ∧ (gb143 ≠ s_) ∧ (s_ ≠ gb143) ∧ (Below w.heap.size w w')) ?_ ?_
 rotate_left
 ·intro hCont
  refine two_ (i := 9) (j := 19) (Ni := some 21) (Nj := some 5) (bm 21 122879) (bm 21 646655) rfl rfl rfl rfl (two_of HT_.out (by kernel_rfl)) (by decide) (by decide) (fun K hK => ?_) (fun K hK => ?_)
  ·skip
   refine gA Tryd.func27 #[.string (rdOf ByteArray.empty t144 2)] ?_
   with_reducible refine (spec_l1Num.calls k (rdOf ByteArray.empty t144 2) t150 _ A7.out).mono ?_
   rintro e w' ⟨rfl, ⟨nd, rfl⟩⟩
   refine ⟨_, rfl, ?_⟩
   refine hK.out _ _ ⟨hHeld.1, hHeld.2.1, hHeld.2.2.1, hHeld.2.2.2.1, hHeld.2.2.2.2⟩ (fun hHeld => ?_)
   clear hK K
   refine nA (some 21) ?_
   refine two_ (i := 13) (j := 19) (Ni := some 25) (Nj := some 5) (bm 21 131071) (bm 21 647167) rfl rfl rfl rfl (two_of HT_.out (by kernel_rfl)) (by decide) (by decide) (fun K hK => ?_) (fun K hK => ?_)
   ·skip
    refine gA Tryd.func27 #[.string (rdOf ByteArray.empty t144 3)] ?_
    with_reducible refine (spec_l1Num.calls k (rdOf ByteArray.empty t144 3) t152 _ A9.out).mono ?_
    rintro e w' ⟨rfl, ⟨nd, rfl⟩⟩
    refine ⟨_, rfl, ?_⟩
    refine hK.out _ _ ⟨hHeld.1, hHeld.2.1, hHeld.2.2.1, hHeld.2.2.2.1, hHeld.2.2.2.2⟩ (fun hHeld => ?_)
    clear hK K
    refine nA (some 25) ?_
    refine two_ (i := 17) (j := 19) (Ni := some 29) (Nj := some 5) (bm 21 262143) (bm 21 655359) rfl rfl rfl rfl (two_of HT_.out (by kernel_rfl)) (by decide) (by decide) (fun K hK => ?_) (fun K hK => ?_)
    ·skip
     refine gA Tryd.func27 #[.string (rdOf ByteArray.empty t144 4)] ?_
     with_reducible refine (spec_l1Num.calls k (rdOf ByteArray.empty t144 4) t154 _ A11.out).mono ?_
     rintro e w' ⟨rfl, ⟨nd, rfl⟩⟩
     refine ⟨_, rfl, ?_⟩
     refine hK.out _ _ ⟨hHeld.1, hHeld.2.1, hHeld.2.2.1, hHeld.2.2.2.1, hHeld.2.2.2.2⟩ (fun hHeld => ?_)
     clear hK K
     refine nA (some 29) ?_
     refine pA 18 30 (bm 21 524287) HT_ ?_
     refine oA 19 (some 5) (bm 21 1048575) HT_ fun K hK => ?_
     refine bS 5 #[.string (⟨#[]⟩ : ByteArray), .string (⟨#[]⟩ : ByteArray), .int .i64 0, .int .i64 0, .int .i64 0] 23 ?_
     intro gb155 hg w20 hbox hb
     have HS0_ := cB hb hHeld.1
     have HS1_ := cB hb hHeld.2.1
     have HS2_ := cB hb hHeld.2.2.1
     have HS3_ := cB hb hHeld.2.2.2.1
     have HS4_ := cB hb hHeld.2.2.2.2
     replace HO146 := rk HO146 hb
     have BK155 := am (hbox)
     have GW155 := zB hg HB
     have GE155 := zB hg HB
     replace HB := kH HB hb
     have NB143_155 := nl hg (kb BK143)
     have NB155_143 := ng hg (kb BK143)
     replace BK143 := kP _ BK143 hb
     clear hb hbox hg
     refine hK.out _ _ ⟨HS0_, HS1_, HS2_, HS3_, HS4_⟩ (fun hHeld => ?_)
     clear hK K
     refine nA (some 5) ?_
     exact norm_ (by simp only [putAll, Act.put, sa, s0, s1]) (hCont (gb155) _ ⟨hHeld, (ra HO146), (kb BK143), (kb BK155), GW155.out, GE155.out, NB143_155.out, NB155_143.out, (xB HB)⟩)
    ·skip
     refine bS 5 #[.string (⟨#[]⟩ : ByteArray), .string (⟨#[]⟩ : ByteArray), .int .i64 0, .int .i64 0, .int .i64 0] 23 ?_
     intro gb155 hg w20 hbox hb
     have HS0_ := cB hb hHeld.1
     have HS1_ := cB hb hHeld.2.1
     have HS2_ := cB hb hHeld.2.2.1
     have HS3_ := cB hb hHeld.2.2.2.1
     have HS4_ := cB hb hHeld.2.2.2.2
     replace HO146 := rk HO146 hb
     have BK155 := am (hbox)
     have GW155 := zB hg HB
     have GE155 := zB hg HB
     replace HB := kH HB hb
     have NB143_155 := nl hg (kb BK143)
     have NB155_143 := ng hg (kb BK143)
     replace BK143 := kP _ BK143 hb
     clear hb hbox hg
     refine hK.out _ _ ⟨HS0_, HS1_, HS2_, HS3_, HS4_⟩ (fun hHeld => ?_)
     clear hK K
     refine nA (some 5) ?_
     refine oA 17 (some 29) (bm 21 786431) HT_ fun K hK => ?_
     refine gA Tryd.func27 #[.string (rdOf ByteArray.empty t144 4)] ?_
     with_reducible refine (spec_l1Num.calls k (rdOf ByteArray.empty t144 4) t154 _ A11.out).mono ?_
     rintro e w' ⟨rfl, ⟨nd, rfl⟩⟩
     refine ⟨_, rfl, ?_⟩
     refine hK.out _ _ ⟨hHeld.1, hHeld.2.1, hHeld.2.2.1, hHeld.2.2.2.1, hHeld.2.2.2.2⟩ (fun hHeld => ?_)
     clear hK K
     refine nA (some 29) ?_
     refine pA 18 30 (bm 21 1048575) HT_ ?_
     exact norm_ (by simp only [putAll, Act.put, sa, s0, s1]) (hCont (gb155) _ ⟨hHeld, (ra HO146), (kb BK143), (kb BK155), GW155.out, GE155.out, NB143_155.out, NB155_143.out, (xB HB)⟩)
   ·skip
    refine bS 5 #[.string (⟨#[]⟩ : ByteArray), .string (⟨#[]⟩ : ByteArray), .int .i64 0, .int .i64 0, .int .i64 0] 23 ?_
    intro gb155 hg w20 hbox hb
    have HS0_ := cB hb hHeld.1
    have HS1_ := cB hb hHeld.2.1
    have HS2_ := cB hb hHeld.2.2.1
    have HS3_ := cB hb hHeld.2.2.2.1
    have HS4_ := cB hb hHeld.2.2.2.2
    replace HO146 := rk HO146 hb
    have BK155 := am (hbox)
    have GW155 := zB hg HB
    have GE155 := zB hg HB
    replace HB := kH HB hb
    have NB143_155 := nl hg (kb BK143)
    have NB155_143 := ng hg (kb BK143)
    replace BK143 := kP _ BK143 hb
    clear hb hbox hg
    refine hK.out _ _ ⟨HS0_, HS1_, HS2_, HS3_, HS4_⟩ (fun hHeld => ?_)
    clear hK K
    refine nA (some 5) ?_
    refine oA 13 (some 25) (bm 21 655359) HT_ fun K hK => ?_
    refine gA Tryd.func27 #[.string (rdOf ByteArray.empty t144 3)] ?_
    with_reducible refine (spec_l1Num.calls k (rdOf ByteArray.empty t144 3) t152 _ A9.out).mono ?_
    rintro e w' ⟨rfl, ⟨nd, rfl⟩⟩
    refine ⟨_, rfl, ?_⟩
    refine hK.out _ _ ⟨hHeld.1, hHeld.2.1, hHeld.2.2.1, hHeld.2.2.2.1, hHeld.2.2.2.2⟩ (fun hHeld => ?_)
    clear hK K
    refine nA (some 25) ?_
    refine oA 17 (some 29) (bm 21 786431) HT_ fun K hK => ?_
    refine gA Tryd.func27 #[.string (rdOf ByteArray.empty t144 4)] ?_
    with_reducible refine (spec_l1Num.calls k (rdOf ByteArray.empty t144 4) t154 _ A11.out).mono ?_
    rintro e w' ⟨rfl, ⟨nd, rfl⟩⟩
    refine ⟨_, rfl, ?_⟩
    refine hK.out _ _ ⟨hHeld.1, hHeld.2.1, hHeld.2.2.1, hHeld.2.2.2.1, hHeld.2.2.2.2⟩ (fun hHeld => ?_)
    clear hK K
    refine nA (some 29) ?_
    refine pA 18 30 (bm 21 1048575) HT_ ?_
    exact norm_ (by simp only [putAll, Act.put, sa, s0, s1]) (hCont (gb155) _ ⟨hHeld, (ra HO146), (kb BK143), (kb BK155), GW155.out, GE155.out, NB143_155.out, NB155_143.out, (xB HB)⟩)
  ·skip
   refine bS 5 #[.string (⟨#[]⟩ : ByteArray), .string (⟨#[]⟩ : ByteArray), .int .i64 0, .int .i64 0, .int .i64 0] 23 ?_
   intro gb155 hg w20 hbox hb
   have HS0_ := cB hb hHeld.1
   have HS1_ := cB hb hHeld.2.1
   have HS2_ := cB hb hHeld.2.2.1
   have HS3_ := cB hb hHeld.2.2.2.1
   have HS4_ := cB hb hHeld.2.2.2.2
   replace HO146 := rk HO146 hb
   have BK155 := am (hbox)
   have GW155 := zB hg HB
   have GE155 := zB hg HB
   replace HB := kH HB hb
   have NB143_155 := nl hg (kb BK143)
   have NB155_143 := ng hg (kb BK143)
   replace BK143 := kP _ BK143 hb
   clear hb hbox hg
   refine hK.out _ _ ⟨HS0_, HS1_, HS2_, HS3_, HS4_⟩ (fun hHeld => ?_)
   clear hK K
   refine nA (some 5) ?_
   refine oA 9 (some 21) (bm 21 647167) HT_ fun K hK => ?_
   refine gA Tryd.func27 #[.string (rdOf ByteArray.empty t144 2)] ?_
   with_reducible refine (spec_l1Num.calls k (rdOf ByteArray.empty t144 2) t150 _ A7.out).mono ?_
   rintro e w' ⟨rfl, ⟨nd, rfl⟩⟩
   refine ⟨_, rfl, ?_⟩
   refine hK.out _ _ ⟨hHeld.1, hHeld.2.1, hHeld.2.2.1, hHeld.2.2.2.1, hHeld.2.2.2.2⟩ (fun hHeld => ?_)
   clear hK K
   refine nA (some 21) ?_
   refine oA 13 (some 25) (bm 21 655359) HT_ fun K hK => ?_
   refine gA Tryd.func27 #[.string (rdOf ByteArray.empty t144 3)] ?_
   with_reducible refine (spec_l1Num.calls k (rdOf ByteArray.empty t144 3) t152 _ A9.out).mono ?_
   rintro e w' ⟨rfl, ⟨nd, rfl⟩⟩
   refine ⟨_, rfl, ?_⟩
   refine hK.out _ _ ⟨hHeld.1, hHeld.2.1, hHeld.2.2.1, hHeld.2.2.2.1, hHeld.2.2.2.2⟩ (fun hHeld => ?_)
   clear hK K
   refine nA (some 25) ?_
   refine oA 17 (some 29) (bm 21 786431) HT_ fun K hK => ?_
   refine gA Tryd.func27 #[.string (rdOf ByteArray.empty t144 4)] ?_
   with_reducible refine (spec_l1Num.calls k (rdOf ByteArray.empty t144 4) t154 _ A11.out).mono ?_
   rintro e w' ⟨rfl, ⟨nd, rfl⟩⟩
   refine ⟨_, rfl, ?_⟩
   refine hK.out _ _ ⟨hHeld.1, hHeld.2.1, hHeld.2.2.1, hHeld.2.2.2.1, hHeld.2.2.2.2⟩ (fun hHeld => ?_)
   clear hK K
   refine nA (some 29) ?_
   refine pA 18 30 (bm 21 1048575) HT_ ?_
   exact norm_ (by simp only [putAll, Act.put, sa, s0, s1]) (hCont (gb155) _ ⟨hHeld, (ra HO146), (kb BK143), (kb BK155), GW155.out, GE155.out, NB143_155.out, NB155_143.out, (xB HB)⟩)
 rintro gb155 w21 ⟨hS_, h0_, h1_, h2_, h3_, h4_, h5_, h6_, h7_⟩
 try dsimp only at h0_ h1_ h2_ h3_ h4_ h5_ h6_ h7_
 have n0_ := am h0_
 have n1_ := am h1_
 have n2_ := am h2_
 have n3_ := am h3_
 have n4_ := am h4_
 have n5_ := am h5_
 have n6_ := am h6_
 have n7_ := am h7_
 clear HO146
 clear BK143
 clear HB
 clear h0_ h1_ h2_ h3_ h4_ h5_ h6_ h7_
 have HO146 := n0_
 have BK143 := n1_
 have BK155 := n2_
 have GW155 := n3_
 have GE155 := n4_
 have NB143_155 := n5_
 have NB155_143 := n6_
 have HB := n7_
 clear n0_ n1_ n2_ n3_ n4_ n5_ n6_ n7_
 have hHeld : w21.cell? ad147 = some (.string (rdOf ByteArray.empty t144 0)) ∧ w21.cell? ⟨ad147.block, ad147.off + 1, none⟩ = some (.string (rdOf ByteArray.empty t144 1)) ∧ w21.cell? ⟨ad147.block, ad147.off + 2, none⟩ = some (.string (rdOf ByteArray.empty t144 2)) ∧ w21.cell? ⟨ad147.block, ad147.off + 3, none⟩ = some (.string (rdOf ByteArray.empty t144 3)) ∧ w21.cell? ⟨ad147.block, ad147.off + 4, none⟩ = some (.string (rdOf ByteArray.empty t144 4)) := hS_
 refine norm_ (a' := ?_) ?_ ?_
 rotate_left
 ·simp only [putAll, Act.put, sa, s0, s1]
  rfl
 refine oA 20 none (bm 21 2097151) HT_ fun K hK => ?_
 have hs22 : w21.cell? ⟨gb155, 0, none⟩ = some (.string (⟨#[]⟩ : ByteArray)) := (blk_cell BK155.out 0).trans rfl
 have hfs22 := blk_frozen BK155.out 0
 have hns22_0 := NB143_155.out
 have hms22_0 := NB155_143.out
 have hs23 : w21.cell? ⟨gb155, 1, none⟩ = some (.string (⟨#[]⟩ : ByteArray)) := (blk_cell BK155.out 1).trans rfl
 have hfs23 := blk_frozen BK155.out 1
 have hns23_0 := NB143_155.out
 have hms23_0 := NB155_143.out
 have hs24 : w21.cell? ⟨gb155, 2, none⟩ = some (.int .i64 0) := (blk_cell BK155.out 2).trans rfl
 have hfs24 := blk_frozen BK155.out 2
 have hns24_0 := NB143_155.out
 have hms24_0 := NB155_143.out
 have hs25 : w21.cell? ⟨gb155, 3, none⟩ = some (.int .i64 0) := (blk_cell BK155.out 3).trans rfl
 have hfs25 := blk_frozen BK155.out 3
 have hns25_0 := NB143_155.out
 have hms25_0 := NB155_143.out
 have hs26 : w21.cell? ⟨gb155, 4, none⟩ = some (.int .i64 0) := (blk_cell BK155.out 4).trans rfl
 have hfs26 := blk_frozen BK155.out 4
 have hns26_0 := NB143_155.out
 have hms26_0 := NB155_143.out
 refine skip_ (w1 := ?_) (by rfl) rfl ?_ ?_
 rotate_left
 ·go_simp
  rfl
 have hne_ := Kd.own_blk (Kd.R_ne HO146.out BK155.out (by decide))
 refine hK.out _ _ ⟨(cf hne_ hHeld.1), (cf hne_ hHeld.2.1), (cf hne_ hHeld.2.2.1), (cf hne_ hHeld.2.2.2.1), (cf hne_ hHeld.2.2.2.2)⟩ (fun hHeld => ?_)
 clear hK K
 refine done_ (done_of HT_.out (by kernel_rfl)) ?_
 have hnb27 := NB155_143.out
 have hnc27 := NB143_155.out
 have hz28 := bc5 BK155
 by_cases c13 : t156 = true
 rotate_left
 ·replace c13 := Bool.eq_false_iff.mpr c13
  subst c13
  try simp only [Bool.not_true, Bool.not_false]
  rw [if_neg (show ¬ (false = true) by decide)] at H
  simp only [Option.some.injEq, Prod.mk.injEq] at H
  obtain ⟨rfl, rfl, rfl, rfl, rfl, rfl⟩ := H
  try go_wp2_with ((with_reducible refine gg ?_); refine gL 32 Tryd.func43 #[.agg #[.string (rdOf ByteArray.empty t144 0), .string (rdOf ByteArray.empty t144 1), .int .i64 t150, .int .i64 t152, .int .i64 t154]] ?_; (with_reducible refine (spec_l3Ok.calls k (rdOf ByteArray.empty t144 0) (rdOf ByteArray.empty t144 1) t150 t152 t154 false _ A12.out).mono ?_); rintro e w64 ⟨rfl, hb⟩; refine ⟨_, rfl, ?_⟩; replace HO146 := am (Kd.R_below (rf HO146 BK155) hb); replace BK143 := kP _ BK143 hb; replace BK155 := kP (.cells #[.string (rdOf ByteArray.empty t144 0), .string (rdOf ByteArray.empty t144 1), .int .i64 t150, .int .i64 t152, .int .i64 t154] 23 (0, 0)) BK155 hb; replace HB := kH HB hb; (try clear hb); have hz65 := bc5 BK143)
  refine bodyPost_ret (results_ct rfl _ _ gb143 23 #[.string (⟨#[]⟩ : ByteArray), .string (⟨#[]⟩ : ByteArray), .int .i64 0, .int .i64 0, .int .i64 0] (0, 0) _ rfl (fb BK143) Tryd.underlying23 rfl (by kernel_rfl)) rfl ?_
  exact ⟨xE, xB HB⟩
 subst c13
 try simp only [Bool.not_true, Bool.not_false]
 rw [if_pos rfl] at H
 replace H := oa H
 obtain ⟨t157, A14, H⟩ := H
 go_upto_if 39 with (first | ((with_reducible refine gg ?_); refine gL 32 Tryd.func43 #[.agg #[.string (rdOf ByteArray.empty t144 0), .string (rdOf ByteArray.empty t144 1), .int .i64 t150, .int .i64 t152, .int .i64 t154]] ?_; (with_reducible refine (spec_l3Ok.calls k (rdOf ByteArray.empty t144 0) (rdOf ByteArray.empty t144 1) t150 t152 t154 true _ A12.out).mono ?_); rintro e w29 ⟨rfl, hb⟩; refine ⟨_, rfl, ?_⟩; replace HO146 := am (Kd.R_below (rf HO146 BK155) hb); replace BK143 := kP _ BK143 hb; replace BK155 := kP (.cells #[.string (rdOf ByteArray.empty t144 0), .string (rdOf ByteArray.empty t144 1), .int .i64 t150, .int .i64 t152, .int .i64 t154] 23 (0, 0)) BK155 hb; replace HB := kH HB hb; (try clear hb); have hz30 := bc5 BK155) | (go_at_call 44; (with_reducible refine (spec_l3Put.calls k (rdOf ByteArray.empty t144 0) (rdOf ByteArray.empty t144 1) t150 t152 t154 t157 _ A14.out).mono ?_); rintro e w31 ⟨rfl, hb⟩; replace HO146 := rk HO146 hb; replace BK143 := kP _ BK143 hb; replace BK155 := kP _ BK155 hb; replace HB := kH HB hb; (try clear hb)))
 by_cases c15 : t157.toList = a0.toList
 rotate_left
 ·rw [if_neg c15] at H
  have c15b0 := beq_eq_false_iff_ne.mpr c15
  have c15b1 := bne_iff_ne.mpr c15
  try simp only [c15b0, c15b1, Bool.not_true, Bool.not_false]
  simp only [Option.some.injEq, Prod.mk.injEq] at H
  obtain ⟨rfl, rfl, rfl, rfl, rfl, rfl⟩ := H
  have hz50 := bc5 BK143
  try go_wp2
  refine bodyPost_ret (results_ct rfl _ _ gb143 23 #[.string (⟨#[]⟩ : ByteArray), .string (⟨#[]⟩ : ByteArray), .int .i64 0, .int .i64 0, .int .i64 0] (0, 0) _ rfl (fb BK143) Tryd.underlying23 rfl (by kernel_rfl)) rfl ?_
  exact ⟨xE, xB HB⟩
 rw [if_pos c15] at H
 have c15b0 := beq_iff_eq.mpr c15
 have c15b1 := bne_eq_false_iff_eq.mpr c15
 try simp only [c15b0, c15b1, Bool.not_true, Bool.not_false]
 clear c15
 simp only [Option.some.injEq, Prod.mk.injEq] at H
 obtain ⟨rfl, rfl, rfl, rfl, rfl, rfl⟩ := H
 have hz32 := bc5 BK155
 have hz33 := bc5 BK143
 try go_wp2
 refine bodyPost_ret (results_ct rfl _ _ gb143 23 #[.string (rdOf ByteArray.empty t144 0), .string (rdOf ByteArray.empty t144 1), .int .i64 t150, .int .i64 t152, .int .i64 t154] (0, 0) _ rfl (fb BK143) Tryd.underlying23 rfl (by kernel_rfl)) rfl ?_
 exact ⟨xE, xB HB⟩
end Go.Proofs.YtgjljbaadglpnaaDoor.PFnHeadGet
