/- Functions of the program and what each answers: the kit's print, shortened (wip/squeeze.py). -/
import Derived.Test.YtgjljbaadglpnaaDoorPFnExactPaidPutx0
import Derived.Test.YtgjljbaadglpnaaDoorPFnExactPaidPutx9
import Derived.Test.YtgjljbaadglpnaaDoorPFnExactPaidPutx11
import Derived.Test.YtgjljbaadglpnaaDoorPFnExactPaidPutx12
namespace Go.Proofs.YtgjljbaadglpnaaDoor.PFnExactPaidPut
open Go.Proofs.YtgjljbaadglpnaaDoor.Sq Go.RowKit Go.Proofs.YtgjljbaadglpnaaDoorW.PrintWords Go.Proofs.YtgjljbaadglpnaaDoorW.PrintLast Go.Proofs.YtgjljbaadglpnaaDoorW.PrintMore
attribute [local go_sem] max2_int min2_int max_two min_two max_three min_three max_four min_four   -- for this text's walks alone
set_option linter.unusedVariables false
set_option linter.unusedSimpArgs false

/-! ### impl_PaidPut: function 23 -/
def impl_PaidPut.l0 : Nat → ByteArray → List (S85) → Int → Int → Option (ByteArray)
 | 0, _, _, _, _ => none
 | k + 1, x3, x30, x31, x32 => if x32 < x31 then (if 0 ≤ x32 then (if x32 < (x30.length : Int) then (if (rd_T85 x30 x32).f1 = true then (if 2 + ((rd_T85 x30 x32).f0).size ≤ 9223372036854775807 then (if x3.size + ((⟨#[32, 108]⟩ : ByteArray) ++ ((rd_T85 x30 x32).f0)).size ≤ 9223372036854775807 then (impl_PaidPut.l0 k (x3 ++ ((⟨#[32, 108]⟩ : ByteArray) ++ ((rd_T85 x30 x32).f0))) x30 x31 (wrap64 (x32 + 1))) else (none)) else (none)) else (if 2 + ((rd_T85 x30 x32).f0).size ≤ 9223372036854775807 then (if x3.size + ((⟨#[32, 114]⟩ : ByteArray) ++ ((rd_T85 x30 x32).f0)).size ≤ 9223372036854775807 then (impl_PaidPut.l0 k (x3 ++ ((⟨#[32, 114]⟩ : ByteArray) ++ ((rd_T85 x30 x32).f0))) x30 x31 (wrap64 (x32 + 1))) else (none)) else (none))) else (none)) else (none)) else (if x3.size + 1 ≤ 9223372036854775807 then (some (x3 ++ (⟨#[10]⟩ : ByteArray))) else (none))
def impl_PaidPut.f (k : Nat) (a0_0 : Int) (a0_1 : ByteArray) (a0_2 : ByteArray) (a0_3 : Int) (a0_4 : Int) (a0_5 : Int) (l0_6 : List (S93)) (l0_7 : List (S93)) (l0_8 : List (S85)) : Option (ByteArray) := (impl_paidOk.f k a0_0 a0_1 a0_2 a0_3 a0_4 a0_5 l0_6 l0_7 l0_8).bind fun t278 => (if t278 = true then ((strconv_Itoa_46.f a0_0).bind fun t279 => (if t279.size + 1 ≤ 9223372036854775807 then ((impl_HeadPut.f k a0_1 a0_2 a0_3 a0_4 a0_5).bind fun t280 => (if (t279 ++ (⟨#[32]⟩ : ByteArray)).size + t280.size ≤ 9223372036854775807 then (if ((t279 ++ (⟨#[32]⟩ : ByteArray)) ++ t280).size + 1 ≤ 9223372036854775807 then ((impl_peaksPut.f k (⟨#[112, 101, 97, 107, 115]⟩ : ByteArray) l0_6).bind fun t281 => (if (((t279 ++ (⟨#[32]⟩ : ByteArray)) ++ t280) ++ (⟨#[10]⟩ : ByteArray)).size + t281.size ≤ 9223372036854775807 then ((impl_peaksPut.f k (⟨#[115, 116, 101, 112, 115]⟩ : ByteArray) l0_7).bind fun t282 => (if ((((t279 ++ (⟨#[32]⟩ : ByteArray)) ++ t280) ++ (⟨#[10]⟩ : ByteArray)) ++ t281).size + t282.size ≤ 9223372036854775807 then (if (((((t279 ++ (⟨#[32]⟩ : ByteArray)) ++ t280) ++ (⟨#[10]⟩ : ByteArray)) ++ t281) ++ t282).size + 5 ≤ 9223372036854775807 then (impl_PaidPut.l0 k ((((((t279 ++ (⟨#[32]⟩ : ByteArray)) ++ t280) ++ (⟨#[10]⟩ : ByteArray)) ++ t281) ++ t282) ++ (⟨#[115, 105, 100, 101, 115]⟩ : ByteArray)) l0_8 (l0_8.length : Int) 0) else (none)) else (none))) else (none))) else (none)) else (none))) else (none))) else (some (⟨#[]⟩ : ByteArray)))
theorem impl_PaidPut.mono_l : ∀ k, (∀ y0 y1 y2 y3, LeO (impl_PaidPut.l0 k y0 y1 y2 y3) (impl_PaidPut.l0 (k + 1) y0 y1 y2 y3))
 | 0 => fun _ _ _ _ r h => by simp [impl_PaidPut.l0] at h
 | k + 1 => by
  have ih0 := impl_PaidPut.mono_l k
  ·intro y0 y1 y2 y3
   unfold impl_PaidPut.l0
   repeat' first
   | (with_reducible exact ih0 _ _ _ _)
   | (with_reducible exact impl_HeadPut.mono _ _ _ _ _ _)
   | (with_reducible exact impl_paidOk.mono _ _ _ _ _ _ _ _ _ _)
   | (with_reducible exact impl_peaksPut.mono _ _ _)
   | (with_reducible exact LeO.refl _)
   | (with_reducible exact LeO.none _)
   | (with_reducible refine LeO.ite ?_ ?_)
   | (with_reducible refine LeO.bind ?_ (fun _ => ?_))
   | exact ih0 _ _ _ _
   | exact impl_HeadPut.mono _ _ _ _ _ _
   | exact impl_paidOk.mono _ _ _ _ _ _ _ _ _ _
   | exact impl_peaksPut.mono _ _ _
   | exact LeO.none _
   | refine LeO.ite ?_ ?_
   | refine LeO.bind ?_ (fun _ => ?_)
theorem impl_PaidPut.mono : ∀ a0 a1 a2 a3 a4 a5 a6 a7 a8 k, LeO (impl_PaidPut.f k a0 a1 a2 a3 a4 a5 a6 a7 a8) (impl_PaidPut.f (k + 1) a0 a1 a2 a3 a4 a5 a6 a7 a8) := by
 intro a0 a1 a2 a3 a4 a5 a6 a7 a8 k
 have ih0 := impl_PaidPut.mono_l k
 unfold impl_PaidPut.f
 repeat' first
   | (with_reducible exact ih0 _ _ _ _)
   | (with_reducible exact impl_HeadPut.mono _ _ _ _ _ _)
   | (with_reducible exact impl_paidOk.mono _ _ _ _ _ _ _ _ _ _)
   | (with_reducible exact impl_peaksPut.mono _ _ _)
   | (with_reducible exact LeO.refl _)
   | (with_reducible exact LeO.none _)
   | (with_reducible refine LeO.ite ?_ ?_)
   | (with_reducible refine LeO.bind ?_ (fun _ => ?_))
   | exact ih0 _ _ _ _
   | exact impl_HeadPut.mono _ _ _ _ _ _
   | exact impl_paidOk.mono _ _ _ _ _ _ _ _ _ _
   | exact impl_peaksPut.mono _ _ _
   | exact LeO.none _
   | refine LeO.ite ?_ ?_
   | refine LeO.bind ?_ (fun _ => ?_)
def impl_PaidPut.T3 : Bool × List (List Nat × List Nat) := (true, [([], []), ([0], [0]), ([1], [1]), ([2], [2]), ([], []), ([4], [4]), ([5, 2], [5]), ([3, 6], [3, 6]), ([7], [7]), ([], []), ([9], [9]), ([10], [10]), ([11, 6], [11]), ([8, 12], [8, 12]), ([], []), ([14], [14]), ([15], [15]), ([16, 12], [16]), ([13, 17], [13, 17]), ([18], [18]), ([19, 17, 0, 1, 2, 3, 4, 5, 6, 7, 8, 9, 10, 11, 12, 13, 14, 15, 16, 17, 18, 19], [19])])
def impl_PaidPut.B3 : List Nat := [0, 1, 3, 7, 0, 16, 55, 127, 255, 0, 512, 1536, 3703, 8191, 0, 16384, 49152, 122487, 262143, 524287, 1048575]
theorem impl_PaidPut.tab3 : rtab .any (opsOf Tryd.f23 3) = impl_PaidPut.T3 := by kernel_rfl
theorem impl_PaidPut.bits3 : waitsOk impl_PaidPut.T3.2 impl_PaidPut.B3 = true := by kernel_rfl
set_option maxHeartbeats 8000000 in
set_option maxRecDepth 100000 in
theorem impl_PaidPut.calls (k : Nat) (a0_0 : Int) (a0_1 : ByteArray) (a0_2 : ByteArray) (a0_3 : Int) (a0_4 : Int) (a0_5 : Int) (A0_6 : Option Addr) (c0_6 : Nat) (l0_6 : List (S93)) (A0_7 : Option Addr) (c0_7 : Nat) (l0_7 : List (S93)) (A0_8 : Option Addr) (c0_8 : Nat) (l0_8 : List (S85)) (r : ByteArray) (w : World) (hr0_6 : Kd.C k93 w A0_6 l0_6.length l0_6) (hc0_6 : l0_6.length ≤ c0_6) (hr0_7 : Kd.C k93 w A0_7 l0_7.length l0_7) (hc0_7 : l0_7.length ≤ c0_7) (hr0_8 : Kd.C k85 w A0_8 l0_8.length l0_8) (hc0_8 : l0_8.length ≤ c0_8) (h : impl_PaidPut.f k a0_0 a0_1 a0_2 a0_3 a0_4 a0_5 l0_6 l0_7 l0_8 = some r) (PQT_ : Aside0 (Go.Proofs.YtgjljbaadglpnaaDoor.Sh.HasT w)) :
  Calls Tryd.prog 23 #[.agg #[.int .i64 a0_0, .string a0_1, .string a0_2, .int .i64 a0_3, .int .i64 a0_4, .int .i64 a0_5, .slice A0_6 l0_6.length c0_6, .slice A0_7 l0_7.length c0_7, .slice A0_8 l0_8.length c0_8]] w fun e w' => e = .returned (.string r) ∧ Below w.heap.size w w' := by
 have hu29 := Tryd.underlying29
 have hu23 := Tryd.underlying23
 have hu85 := Tryd.underlying85
 have HR0_6 := Aside0.mk hr0_6
 have HC0_6 := Aside0.mk hc0_6
 clear hr0_6 hc0_6
 have HR0_7 := Aside0.mk hr0_7
 have HC0_7 := Aside0.mk hc0_7
 clear hr0_7 hc0_7
 have HR0_8 := Aside0.mk hr0_8
 have HC0_8 := Aside0.mk hc0_8
 clear hr0_8 hc0_8
 have HB := Aside0.mk (Below.refl w.heap.size w)
 have H : ((impl_paidOk.f k a0_0 a0_1 a0_2 a0_3 a0_4 a0_5 l0_6 l0_7 l0_8).bind fun t278 => (if t278 = true then ((strconv_Itoa_46.f a0_0).bind fun t279 => (if t279.size + 1 ≤ 9223372036854775807 then ((impl_HeadPut.f k a0_1 a0_2 a0_3 a0_4 a0_5).bind fun t280 => (if (t279 ++ (⟨#[32]⟩ : ByteArray)).size + t280.size ≤ 9223372036854775807 then (if ((t279 ++ (⟨#[32]⟩ : ByteArray)) ++ t280).size + 1 ≤ 9223372036854775807 then ((impl_peaksPut.f k (⟨#[112, 101, 97, 107, 115]⟩ : ByteArray) l0_6).bind fun t281 => (if (((t279 ++ (⟨#[32]⟩ : ByteArray)) ++ t280) ++ (⟨#[10]⟩ : ByteArray)).size + t281.size ≤ 9223372036854775807 then ((impl_peaksPut.f k (⟨#[115, 116, 101, 112, 115]⟩ : ByteArray) l0_7).bind fun t282 => (if ((((t279 ++ (⟨#[32]⟩ : ByteArray)) ++ t280) ++ (⟨#[10]⟩ : ByteArray)) ++ t281).size + t282.size ≤ 9223372036854775807 then (if (((((t279 ++ (⟨#[32]⟩ : ByteArray)) ++ t280) ++ (⟨#[10]⟩ : ByteArray)) ++ t281) ++ t282).size + 5 ≤ 9223372036854775807 then (impl_PaidPut.l0 k ((((((t279 ++ (⟨#[32]⟩ : ByteArray)) ++ t280) ++ (⟨#[10]⟩ : ByteArray)) ++ t281) ++ t282) ++ (⟨#[115, 105, 100, 101, 115]⟩ : ByteArray)) l0_8 (l0_8.length : Int) 0) else (none)) else (none))) else (none))) else (none)) else (none))) else (none))) else (some (⟨#[]⟩ : ByteArray)))) = some r := h
 clear h
 replace H := Option.bind_eq_some_iff.mp H
 obtain ⟨t278, A20, H⟩ := H
 replace H : (if t278 = true then ((strconv_Itoa_46.f a0_0).bind fun t279 => (if t279.size + 1 ≤ 9223372036854775807 then ((impl_HeadPut.f k a0_1 a0_2 a0_3 a0_4 a0_5).bind fun t280 => (if (t279 ++ (⟨#[32]⟩ : ByteArray)).size + t280.size ≤ 9223372036854775807 then (if ((t279 ++ (⟨#[32]⟩ : ByteArray)) ++ t280).size + 1 ≤ 9223372036854775807 then ((impl_peaksPut.f k (⟨#[112, 101, 97, 107, 115]⟩ : ByteArray) l0_6).bind fun t281 => (if (((t279 ++ (⟨#[32]⟩ : ByteArray)) ++ t280) ++ (⟨#[10]⟩ : ByteArray)).size + t281.size ≤ 9223372036854775807 then ((impl_peaksPut.f k (⟨#[115, 116, 101, 112, 115]⟩ : ByteArray) l0_7).bind fun t282 => (if ((((t279 ++ (⟨#[32]⟩ : ByteArray)) ++ t280) ++ (⟨#[10]⟩ : ByteArray)) ++ t281).size + t282.size ≤ 9223372036854775807 then (if (((((t279 ++ (⟨#[32]⟩ : ByteArray)) ++ t280) ++ (⟨#[10]⟩ : ByteArray)) ++ t281) ++ t282).size + 5 ≤ 9223372036854775807 then (impl_PaidPut.l0 k ((((((t279 ++ (⟨#[32]⟩ : ByteArray)) ++ t280) ++ (⟨#[10]⟩ : ByteArray)) ++ t281) ++ t282) ++ (⟨#[115, 105, 100, 101, 115]⟩ : ByteArray)) l0_8 (l0_8.length : Int) 0) else (none)) else (none))) else (none))) else (none)) else (none))) else (none))) else (some (⟨#[]⟩ : ByteArray))) = some r := H
 have A2 := Aside0.mk A20
 clear A20
 by_cases c3 : t278 = true
 ·subst c3
  have H1 : ((strconv_Itoa_46.f a0_0).bind fun t279 => (if t279.size + 1 ≤ 9223372036854775807 then ((impl_HeadPut.f k a0_1 a0_2 a0_3 a0_4 a0_5).bind fun t280 => (if (t279 ++ (⟨#[32]⟩ : ByteArray)).size + t280.size ≤ 9223372036854775807 then (if ((t279 ++ (⟨#[32]⟩ : ByteArray)) ++ t280).size + 1 ≤ 9223372036854775807 then ((impl_peaksPut.f k (⟨#[112, 101, 97, 107, 115]⟩ : ByteArray) l0_6).bind fun t281 => (if (((t279 ++ (⟨#[32]⟩ : ByteArray)) ++ t280) ++ (⟨#[10]⟩ : ByteArray)).size + t281.size ≤ 9223372036854775807 then ((impl_peaksPut.f k (⟨#[115, 116, 101, 112, 115]⟩ : ByteArray) l0_7).bind fun t282 => (if ((((t279 ++ (⟨#[32]⟩ : ByteArray)) ++ t280) ++ (⟨#[10]⟩ : ByteArray)) ++ t281).size + t282.size ≤ 9223372036854775807 then (if (((((t279 ++ (⟨#[32]⟩ : ByteArray)) ++ t280) ++ (⟨#[10]⟩ : ByteArray)) ++ t281) ++ t282).size + 5 ≤ 9223372036854775807 then (impl_PaidPut.l0 k ((((((t279 ++ (⟨#[32]⟩ : ByteArray)) ++ t280) ++ (⟨#[10]⟩ : ByteArray)) ++ t281) ++ t282) ++ (⟨#[115, 105, 100, 101, 115]⟩ : ByteArray)) l0_8 (l0_8.length : Int) 0) else (none)) else (none))) else (none))) else (none)) else (none))) else (none))) = some r := by rw [if_pos rfl] at H; exact H
  clear H
  have H := H1
  clear H1
  replace H := Option.bind_eq_some_iff.mp H
  obtain ⟨t279, A40, H⟩ := H
  replace H : (if t279.size + 1 ≤ 9223372036854775807 then ((impl_HeadPut.f k a0_1 a0_2 a0_3 a0_4 a0_5).bind fun t280 => (if (t279 ++ (⟨#[32]⟩ : ByteArray)).size + t280.size ≤ 9223372036854775807 then (if ((t279 ++ (⟨#[32]⟩ : ByteArray)) ++ t280).size + 1 ≤ 9223372036854775807 then ((impl_peaksPut.f k (⟨#[112, 101, 97, 107, 115]⟩ : ByteArray) l0_6).bind fun t281 => (if (((t279 ++ (⟨#[32]⟩ : ByteArray)) ++ t280) ++ (⟨#[10]⟩ : ByteArray)).size + t281.size ≤ 9223372036854775807 then ((impl_peaksPut.f k (⟨#[115, 116, 101, 112, 115]⟩ : ByteArray) l0_7).bind fun t282 => (if ((((t279 ++ (⟨#[32]⟩ : ByteArray)) ++ t280) ++ (⟨#[10]⟩ : ByteArray)) ++ t281).size + t282.size ≤ 9223372036854775807 then (if (((((t279 ++ (⟨#[32]⟩ : ByteArray)) ++ t280) ++ (⟨#[10]⟩ : ByteArray)) ++ t281) ++ t282).size + 5 ≤ 9223372036854775807 then (impl_PaidPut.l0 k ((((((t279 ++ (⟨#[32]⟩ : ByteArray)) ++ t280) ++ (⟨#[10]⟩ : ByteArray)) ++ t281) ++ t282) ++ (⟨#[115, 105, 100, 101, 115]⟩ : ByteArray)) l0_8 (l0_8.length : Int) 0) else (none)) else (none))) else (none))) else (none)) else (none))) else (none)) = some r := H
  have A4 := Aside0.mk A40
  clear A40
  by_cases c5 : t279.size + 1 ≤ 9223372036854775807
  ·rw [if_pos c5] at H
   have c5b0 := eq_true c5
   have c5b1 : decide (t279.size + 1 ≤ 9223372036854775807) = true := decide_eq_true c5
   try have c5b2 : (9223372036854775807 < t279.size + 1) = False := eq_false (Nat.not_lt.2 c5)
   replace H := Option.bind_eq_some_iff.mp H
   obtain ⟨t280, A60, H⟩ := H
   replace H : (if (t279 ++ (⟨#[32]⟩ : ByteArray)).size + t280.size ≤ 9223372036854775807 then (if ((t279 ++ (⟨#[32]⟩ : ByteArray)) ++ t280).size + 1 ≤ 9223372036854775807 then ((impl_peaksPut.f k (⟨#[112, 101, 97, 107, 115]⟩ : ByteArray) l0_6).bind fun t281 => (if (((t279 ++ (⟨#[32]⟩ : ByteArray)) ++ t280) ++ (⟨#[10]⟩ : ByteArray)).size + t281.size ≤ 9223372036854775807 then ((impl_peaksPut.f k (⟨#[115, 116, 101, 112, 115]⟩ : ByteArray) l0_7).bind fun t282 => (if ((((t279 ++ (⟨#[32]⟩ : ByteArray)) ++ t280) ++ (⟨#[10]⟩ : ByteArray)) ++ t281).size + t282.size ≤ 9223372036854775807 then (if (((((t279 ++ (⟨#[32]⟩ : ByteArray)) ++ t280) ++ (⟨#[10]⟩ : ByteArray)) ++ t281) ++ t282).size + 5 ≤ 9223372036854775807 then (impl_PaidPut.l0 k ((((((t279 ++ (⟨#[32]⟩ : ByteArray)) ++ t280) ++ (⟨#[10]⟩ : ByteArray)) ++ t281) ++ t282) ++ (⟨#[115, 105, 100, 101, 115]⟩ : ByteArray)) l0_8 (l0_8.length : Int) 0) else (none)) else (none))) else (none))) else (none)) else (none)) = some r := H
   have A6 := Aside0.mk A60
   clear A60
   by_cases c7 : (t279 ++ (⟨#[32]⟩ : ByteArray)).size + t280.size ≤ 9223372036854775807
   ·rw [if_pos c7] at H
    have c7b0 := eq_true c7
    have c7b1 : decide ((t279 ++ (⟨#[32]⟩ : ByteArray)).size + t280.size ≤ 9223372036854775807) = true := decide_eq_true c7
    try have c7b2 : (9223372036854775807 < (t279 ++ (⟨#[32]⟩ : ByteArray)).size + t280.size) = False := eq_false (Nat.not_lt.2 c7)
    try (have c7b3 := c7b2; simp only [ByteArray.size_append, show (⟨#[32]⟩ : ByteArray).size = 1 from rfl] at c7b3)
    by_cases c8 : ((t279 ++ (⟨#[32]⟩ : ByteArray)) ++ t280).size + 1 ≤ 9223372036854775807
    ·rw [if_pos c8] at H
     have c8b0 := eq_true c8
     have c8b1 : decide (((t279 ++ (⟨#[32]⟩ : ByteArray)) ++ t280).size + 1 ≤ 9223372036854775807) = true := decide_eq_true c8
     try have c8b2 : (9223372036854775807 < ((t279 ++ (⟨#[32]⟩ : ByteArray)) ++ t280).size + 1) = False := eq_false (Nat.not_lt.2 c8)
     try (have c8b3 := c8b2; simp only [ByteArray.size_append, show (⟨#[32]⟩ : ByteArray).size = 1 from rfl] at c8b3)
     replace H := Option.bind_eq_some_iff.mp H
     obtain ⟨t281, A90, H⟩ := H
     replace H : (if (((t279 ++ (⟨#[32]⟩ : ByteArray)) ++ t280) ++ (⟨#[10]⟩ : ByteArray)).size + t281.size ≤ 9223372036854775807 then ((impl_peaksPut.f k (⟨#[115, 116, 101, 112, 115]⟩ : ByteArray) l0_7).bind fun t282 => (if ((((t279 ++ (⟨#[32]⟩ : ByteArray)) ++ t280) ++ (⟨#[10]⟩ : ByteArray)) ++ t281).size + t282.size ≤ 9223372036854775807 then (if (((((t279 ++ (⟨#[32]⟩ : ByteArray)) ++ t280) ++ (⟨#[10]⟩ : ByteArray)) ++ t281) ++ t282).size + 5 ≤ 9223372036854775807 then (impl_PaidPut.l0 k ((((((t279 ++ (⟨#[32]⟩ : ByteArray)) ++ t280) ++ (⟨#[10]⟩ : ByteArray)) ++ t281) ++ t282) ++ (⟨#[115, 105, 100, 101, 115]⟩ : ByteArray)) l0_8 (l0_8.length : Int) 0) else (none)) else (none))) else (none)) = some r := H
     have A9 := Aside0.mk A90
     clear A90
     by_cases c10 : (((t279 ++ (⟨#[32]⟩ : ByteArray)) ++ t280) ++ (⟨#[10]⟩ : ByteArray)).size + t281.size ≤ 9223372036854775807
     ·rw [if_pos c10] at H
      have c10b0 := eq_true c10
      have c10b1 : decide ((((t279 ++ (⟨#[32]⟩ : ByteArray)) ++ t280) ++ (⟨#[10]⟩ : ByteArray)).size + t281.size ≤ 9223372036854775807) = true := decide_eq_true c10
      try have c10b2 : (9223372036854775807 < (((t279 ++ (⟨#[32]⟩ : ByteArray)) ++ t280) ++ (⟨#[10]⟩ : ByteArray)).size + t281.size) = False := eq_false (Nat.not_lt.2 c10)
      try (have c10b3 := c10b2; simp only [ByteArray.size_append, show (⟨#[10]⟩ : ByteArray).size = 1 from rfl, show (⟨#[32]⟩ : ByteArray).size = 1 from rfl] at c10b3)
      replace H := Option.bind_eq_some_iff.mp H
      obtain ⟨t282, A110, H⟩ := H
      replace H : (if ((((t279 ++ (⟨#[32]⟩ : ByteArray)) ++ t280) ++ (⟨#[10]⟩ : ByteArray)) ++ t281).size + t282.size ≤ 9223372036854775807 then (if (((((t279 ++ (⟨#[32]⟩ : ByteArray)) ++ t280) ++ (⟨#[10]⟩ : ByteArray)) ++ t281) ++ t282).size + 5 ≤ 9223372036854775807 then (impl_PaidPut.l0 k ((((((t279 ++ (⟨#[32]⟩ : ByteArray)) ++ t280) ++ (⟨#[10]⟩ : ByteArray)) ++ t281) ++ t282) ++ (⟨#[115, 105, 100, 101, 115]⟩ : ByteArray)) l0_8 (l0_8.length : Int) 0) else (none)) else (none)) = some r := H
      have A11 := Aside0.mk A110
      clear A110
      by_cases c12 : ((((t279 ++ (⟨#[32]⟩ : ByteArray)) ++ t280) ++ (⟨#[10]⟩ : ByteArray)) ++ t281).size + t282.size ≤ 9223372036854775807
      ·rw [if_pos c12] at H
       have c12b0 := eq_true c12
       have c12b1 : decide (((((t279 ++ (⟨#[32]⟩ : ByteArray)) ++ t280) ++ (⟨#[10]⟩ : ByteArray)) ++ t281).size + t282.size ≤ 9223372036854775807) = true := decide_eq_true c12
       try have c12b2 : (9223372036854775807 < ((((t279 ++ (⟨#[32]⟩ : ByteArray)) ++ t280) ++ (⟨#[10]⟩ : ByteArray)) ++ t281).size + t282.size) = False := eq_false (Nat.not_lt.2 c12)
       try (have c12b3 := c12b2; simp only [ByteArray.size_append, show (⟨#[10]⟩ : ByteArray).size = 1 from rfl, show (⟨#[32]⟩ : ByteArray).size = 1 from rfl] at c12b3)
       by_cases c13 : (((((t279 ++ (⟨#[32]⟩ : ByteArray)) ++ t280) ++ (⟨#[10]⟩ : ByteArray)) ++ t281) ++ t282).size + 5 ≤ 9223372036854775807
       ·rw [if_pos c13] at H
        have c13b0 := eq_true c13
        have c13b1 : decide ((((((t279 ++ (⟨#[32]⟩ : ByteArray)) ++ t280) ++ (⟨#[10]⟩ : ByteArray)) ++ t281) ++ t282).size + 5 ≤ 9223372036854775807) = true := decide_eq_true c13
        try have c13b2 : (9223372036854775807 < (((((t279 ++ (⟨#[32]⟩ : ByteArray)) ++ t280) ++ (⟨#[10]⟩ : ByteArray)) ++ t281) ++ t282).size + 5) = False := eq_false (Nat.not_lt.2 c13)
        try (have c13b3 := c13b2; simp only [ByteArray.size_append, show (⟨#[10]⟩ : ByteArray).size = 1 from rfl, show (⟨#[32]⟩ : ByteArray).size = 1 from rfl] at c13b3)
        have H' := Aside0.mk H
        clear H
        go_enter Tryd.func23, Tryd.ntmps23
        try go_wp2_with (first | ((with_reducible refine gate_dst (N := 1) rfl ?_); refine box_event ?hg (N := 1) ?hd (cs := #[.int .i64 a0_0, .string a0_1, .string a0_2, .int .i64 a0_3, .int .i64 a0_4, .int .i64 a0_5, .slice A0_6 l0_6.length c0_6, .slice A0_7 l0_7.length c0_7, .slice A0_8 l0_8.length c0_8]) (t := 29) ?hr ?_; (case hd => rfl); (case hg => rfl); (case hr => first | (go_simp; done) | (go_simp; rfl)); intro gb277 hg w14 hbox hb; have n0_ := Aside0.mk (below_step (bl HB) hb); have n1_ := Aside0.mk (hbox); have n2_ := Aside0.mk ((by rw [hg]; exact (below_size (bl HB)) : w.heap.size ≤ gb277)); have n3_ := Aside0.mk ((by rw [hg]; exact (below_size (bl HB)) : w.heap.size ≤ gb277)); clear HB; have HB := n0_; have BK277 := n1_; have GW277 := n2_; have GE277 := n3_; clear n0_ n1_ n2_ n3_; clear hb hbox hg; obtain ⟨hcz15_0, hcz15_1, hcz15_2, hcz15_3, hcz15_4, hcz15_5, hcz15_6, hcz15_7, hcz15_8, hfz15_0, hfz15_1, hfz15_2, hfz15_3, hfz15_4, hfz15_5, hfz15_6, hfz15_7, hfz15_8⟩ := bc9 BK277) | ((with_reducible refine gate_callee (f := 51) rfl ?_); refine goesL_ (some 7) rfl rfl Tryd.func51 (by kernel_rfl) rfl #[.agg #[.int .i64 a0_0, .string a0_1, .string a0_2, .int .i64 a0_3, .int .i64 a0_4, .int .i64 a0_5, .slice A0_6 l0_6.length c0_6, .slice A0_7 l0_7.length c0_7, .slice A0_8 l0_8.length c0_8]] rfl (by first | rfl | (simp only [List.map_toArray, List.map_cons, List.map_nil, List.length_drop, List.length_take]; first | done | rfl)) ?_; (with_reducible refine (impl_paidOk.calls k a0_0 a0_1 a0_2 a0_3 a0_4 a0_5 _ _ l0_6 _ _ l0_7 _ _ l0_8 true _ ?side1 ?side2 ?side3 ?side4 ?side5 ?side6 A2.out).mono ?_); (case side1 => exact cb HR0_6 HB); (case side2 => exact HC0_6.out); (case side3 => exact cb HR0_7 HB); (case side4 => exact HC0_7.out); (case side5 => exact cb HR0_8 HB); (case side6 => exact HC0_8.out); rintro e w16 ⟨rfl, hb⟩; refine ⟨_, rfl, ?_⟩; have n0_ := Aside0.mk (bb BK277 hb); have n1_ := Aside0.mk (below_step (by repeat (with_reducible first | exact HB.out | apply ba | apply bd | apply b1 | refine bs ?_ GE277.out)) hb); clear BK277; clear HB; have BK277 := n0_; have HB := n1_; clear n0_ n1_; (try clear hb); (try clear hb2); (try clear hk); (try clear hi)))
        have n0_ := Aside0.mk (blk_drew BK277.out)
        have n1_ := Aside0.mk (below_drew1 HB.out)
        clear BK277
        clear HB
        have BK277 := n0_
        have HB := n1_
        clear n0_ n1_
        refine start_ (n := 21) (S := fun w' => w'.cell? ⟨gb277, 0, none⟩ = some (.int .i64 a0_0) ∧ w'.cell? ⟨gb277, 1, none⟩ = some (.string a0_1) ∧ w'.cell? ⟨gb277, 2, none⟩ = some (.string a0_2) ∧ w'.cell? ⟨gb277, 3, none⟩ = some (.int .i64 a0_3) ∧ w'.cell? ⟨gb277, 4, none⟩ = some (.int .i64 a0_4) ∧ w'.cell? ⟨gb277, 5, none⟩ = some (.int .i64 a0_5) ∧ w'.cell? ⟨gb277, 6, none⟩ = some (.slice A0_6 l0_6.length c0_6) ∧ w'.cell? ⟨gb277, 7, none⟩ = some (.slice A0_7 l0_7.length c0_7) ∧ w'.cell? ⟨gb277, 8, none⟩ = some (.slice A0_8 l0_8.length c0_8)) (ds := []) #[ff, ff, ff, ff, ff, ff, ff, ff, ff, ff, ff, ff, ff, ff, ff, ff, ff, ff, ff, ff, ff] (by kernel_rfl) rfl rfl ⟨(blk_cell BK277.out 0).trans rfl, (blk_cell BK277.out 1).trans rfl, (blk_cell BK277.out 2).trans rfl, (blk_cell BK277.out 3).trans rfl, (blk_cell BK277.out 4).trans rfl, (blk_cell BK277.out 5).trans rfl, (blk_cell BK277.out 6).trans rfl, (blk_cell BK277.out 7).trans rfl, (blk_cell BK277.out 8).trans rfl⟩ (fun hHeld => ?_); refine with_tabW impl_PaidPut.tab3 impl_PaidPut.bits3 (fun HT_ HW_ => ?_)
        generalize w16.drew = w17 at BK277 HB hHeld ⊢
        refine pure_ (i := 0) (N := some 9) (v := ?_) (a' := ?_) #[tt, ff, ff, ff, ff, ff, ff, ff, ff, ff, ff, ff, ff, ff, ff, ff, ff, ff, ff, ff, ff] rfl rfl (any_of HT_.out (by kernel_rfl)) (fun _ _ _ h => h) (Or.inl ⟨by rfl, ?_⟩) ?_ ?_
        rotate_left
        ·intro w'
         go_simp
         with_reducible rfl
        rotate_left
        ·simp only [Act.put, sa, s0, s1, i64_w, i32_w]
         rfl
        refine pure_ (i := 4) (N := some 13) (v := ?_) (a' := ?_) #[tt, ff, ff, ff, tt, ff, ff, ff, ff, ff, ff, ff, ff, ff, ff, ff, ff, ff, ff, ff, ff] rfl rfl (any_of HT_.out (by kernel_rfl)) (fun _ _ _ h => h) (Or.inl ⟨by rfl, ?_⟩) ?_ ?_
        rotate_left
        ·intro w'
         go_simp
         with_reducible rfl
        rotate_left
        ·simp only [Act.put, sa, s0, s1, i64_w, i32_w]
         rfl
        refine pure_ (i := 9) (N := some 18) (v := ?_) (a' := ?_) #[tt, ff, ff, ff, tt, ff, ff, ff, ff, tt, ff, ff, ff, ff, ff, ff, ff, ff, ff, ff, ff] rfl rfl (any_of HT_.out (by kernel_rfl)) (fun _ _ _ h => h) (Or.inl ⟨by rfl, ?_⟩) ?_ ?_
        rotate_left
        ·intro w'
         go_simp
         with_reducible rfl
        rotate_left
        ·simp only [Act.put, sa, s0, s1, i64_w, i32_w]
         rfl
        refine pure_ (i := 10) (N := some 19) (v := ?_) (a' := ?_) #[tt, ff, ff, ff, tt, ff, ff, ff, ff, tt, tt, ff, ff, ff, ff, ff, ff, ff, ff, ff, ff] rfl rfl (any_of HT_.out (by kernel_rfl)) (fun _ _ _ h => h) (Or.inl ⟨by rfl, ?_⟩) ?_ ?_
        rotate_left
        ·intro w'
         go_simp
         with_reducible rfl
        rotate_left
        ·simp only [Act.put, sa, s0, s1, i64_w, i32_w]
         rfl
        refine pure_ (i := 14) (N := some 23) (v := ?_) (a' := ?_) #[tt, ff, ff, ff, tt, ff, ff, ff, ff, tt, tt, ff, ff, ff, tt, ff, ff, ff, ff, ff, ff] rfl rfl (any_of HT_.out (by kernel_rfl)) (fun _ _ _ h => h) (Or.inl ⟨by rfl, ?_⟩) ?_ ?_
        rotate_left
        ·intro w'
         go_simp
         with_reducible rfl
        rotate_left
        ·simp only [Act.put, sa, s0, s1, i64_w, i32_w]
         rfl
        refine pure_ (i := 15) (N := some 24) (v := ?_) (a' := ?_) #[tt, ff, ff, ff, tt, ff, ff, ff, ff, tt, tt, ff, ff, ff, tt, tt, ff, ff, ff, ff, ff] rfl rfl (any_of HT_.out (by kernel_rfl)) (fun _ _ _ h => h) (Or.inl ⟨by rfl, ?_⟩) ?_ ?_
        rotate_left
        ·intro w'
         go_simp
         with_reducible rfl
        rotate_left
        ·simp only [Act.put, sa, s0, s1, i64_w, i32_w]
         rfl
        refine take_ (i := 1) (N := some 10) (v := ?_) (a' := ?_) #[tt, tt, ff, ff, tt, ff, ff, ff, ff, tt, tt, ff, ff, ff, tt, tt, ff, ff, ff, ff, ff] rfl rfl (take_ofW HT_.out HW_.out (by kernel_rfl)) (fun _ _ _ h => h) (Or.inl ⟨by rfl, ?_⟩) hHeld ?_ ?_
        rotate_left
        ·rintro w' ⟨s0, s1, s2, s3, s4, s5, s6, s7, s8⟩
         go_simp
         with_reducible rfl
        rotate_left
        ·simp only [Act.put, sa, s0, s1, i64_w, i32_w]
         rfl
        refine take_ (i := 5) (N := some 14) (v := ?_) (a' := ?_) #[tt, tt, ff, ff, tt, tt, ff, ff, ff, tt, tt, ff, ff, ff, tt, tt, ff, ff, ff, ff, ff] rfl rfl (take_ofW HT_.out HW_.out (by kernel_rfl)) (fun _ _ _ h => h) (Or.inl ⟨by rfl, ?_⟩) hHeld ?_ ?_
        rotate_left
        ·rintro w' ⟨s0, s1, s2, s3, s4, s5, s6, s7, s8⟩
         go_simp
         with_reducible rfl
        rotate_left
        ·simp only [Act.put, sa, s0, s1, i64_w, i32_w]
         rfl
        refine take_ (i := 11) (N := some 20) (v := ?_) (a' := ?_) #[tt, tt, ff, ff, tt, tt, ff, ff, ff, tt, tt, tt, ff, ff, tt, tt, ff, ff, ff, ff, ff] rfl rfl (take_ofW HT_.out HW_.out (by kernel_rfl)) (fun _ _ _ h => h) (Or.inl ⟨by rfl, ?_⟩) hHeld ?_ ?_
        rotate_left
        ·rintro w' ⟨s0, s1, s2, s3, s4, s5, s6, s7, s8⟩
         go_simp
         with_reducible rfl
        rotate_left
        ·simp only [Act.put, sa, s0, s1, i64_w, i32_w]
         rfl
        refine take_ (i := 16) (N := some 25) (v := ?_) (a' := ?_) #[tt, tt, ff, ff, tt, tt, ff, ff, ff, tt, tt, tt, ff, ff, tt, tt, tt, ff, ff, ff, ff] rfl rfl (take_ofW HT_.out HW_.out (by kernel_rfl)) (fun _ _ _ h => h) (Or.inl ⟨by rfl, ?_⟩) hHeld ?_ ?_
        rotate_left
        ·rintro w' ⟨s0, s1, s2, s3, s4, s5, s6, s7, s8⟩
         go_simp
         with_reducible rfl
        rotate_left
        ·simp only [Act.put, sa, s0, s1, i64_w, i32_w]
         rfl
        refine one_ (i := 2) (N := some 11) #[tt, tt, tt, ff, tt, tt, ff, ff, ff, tt, tt, tt, ff, ff, tt, tt, tt, ff, ff, ff, ff] rfl rfl (one_of HT_.out (by kernel_rfl)) (by decide) (fun K hK => ?_)
        refine goes_ Tryd.func46 (by kernel_rfl) rfl #[.int .i64 a0_0] (by rfl) rfl rfl (by first | rfl | (simp only [List.map_toArray, List.map_cons, List.map_nil, List.length_drop, List.length_take]; first | done | rfl)) ?_
        with_reducible refine (strconv_Itoa_46.calls a0_0 t279 _ A4.out (Aside0.mk (Go.Proofs.YtgjljbaadglpnaaDoor.Sh.hasT_of PQT_ (bl HB)))).mono ?_
        rintro e w18 ⟨rfl, hb⟩
        refine ⟨_, rfl, ?_⟩
        have n0_ := Aside0.mk (bb BK277 hb)
        have n1_ := Aside0.mk (below_step (by repeat (with_reducible first | exact HB.out | apply ba | apply bd | apply b1 | refine bs ?_ GE277.out)) hb)
        clear BK277
        clear HB
        have BK277 := n0_
        have HB := n1_
        clear n0_ n1_
        (try clear hb)
        (try clear hb2)
        (try clear hk)
        (try clear hi)
        refine hK.out _ _ ⟨(blk_cell BK277.out 0).trans rfl, (blk_cell BK277.out 1).trans rfl, (blk_cell BK277.out 2).trans rfl, (blk_cell BK277.out 3).trans rfl, (blk_cell BK277.out 4).trans rfl, (blk_cell BK277.out 5).trans rfl, (blk_cell BK277.out 6).trans rfl, (blk_cell BK277.out 7).trans rfl, (blk_cell BK277.out 8).trans rfl⟩ (fun hHeld => ?_)
        clear hK K
        refine norm_ (a' := ?_) ?_ ?_
        rotate_left
        ·show Act.put _ (some 11) _ = _
         simp only [Act.put, sa, s0, s1, i64_w, i32_w]
         rfl
        refine pure_ (i := 3) (N := some 12) (v := ?_) (a' := ?_) #[tt, tt, tt, tt, tt, tt, ff, ff, ff, tt, tt, tt, ff, ff, tt, tt, tt, ff, ff, ff, ff] rfl rfl (any_of HT_.out (by kernel_rfl)) (fun _ _ _ h => h) (Or.inl ⟨by rfl, ?_⟩) ?_ ?_
        rotate_left
        ·intro w'
         go_simp
         with_reducible rfl
        rotate_left
        ·simp only [Act.put, sa, s0, s1, i64_w, i32_w]
         rfl
        refine one_ (i := 6) (N := some 15) #[tt, tt, tt, tt, tt, tt, tt, ff, ff, tt, tt, tt, ff, ff, tt, tt, tt, ff, ff, ff, ff] rfl rfl (one_of HT_.out (by kernel_rfl)) (by decide) (fun K hK => ?_)
        refine goes_ Tryd.func16 (by kernel_rfl) rfl #[.agg #[.string a0_1, .string a0_2, .int .i64 a0_3, .int .i64 a0_4, .int .i64 a0_5]] (by rfl) rfl rfl (by first | rfl | (simp only [List.map_toArray, List.map_cons, List.map_nil, List.length_drop, List.length_take]; first | done | rfl)) ?_
        with_reducible refine (impl_HeadPut.calls k a0_1 a0_2 a0_3 a0_4 a0_5 t280 _ A6.out (Aside0.mk (Go.Proofs.YtgjljbaadglpnaaDoor.Sh.hasT_of PQT_ (bl HB)))).mono ?_
        rintro e w19 ⟨rfl, hb⟩
        refine ⟨_, rfl, ?_⟩
        have n0_ := Aside0.mk (bb BK277 hb)
        have n1_ := Aside0.mk (below_step (by repeat (with_reducible first | exact HB.out | apply ba | apply bd | apply b1 | refine bs ?_ GE277.out)) hb)
        clear BK277
        clear HB
        have BK277 := n0_
        have HB := n1_
        clear n0_ n1_
        (try clear hb)
        (try clear hb2)
        (try clear hk)
        (try clear hi)
        refine hK.out _ _ ⟨(blk_cell BK277.out 0).trans rfl, (blk_cell BK277.out 1).trans rfl, (blk_cell BK277.out 2).trans rfl, (blk_cell BK277.out 3).trans rfl, (blk_cell BK277.out 4).trans rfl, (blk_cell BK277.out 5).trans rfl, (blk_cell BK277.out 6).trans rfl, (blk_cell BK277.out 7).trans rfl, (blk_cell BK277.out 8).trans rfl⟩ (fun hHeld => ?_)
        clear hK K
        refine norm_ (a' := ?_) ?_ ?_
        rotate_left
        ·show Act.put _ (some 15) _ = _
         simp only [Act.put, sa, s0, s1, i64_w, i32_w]
         rfl
        refine pure_ (i := 7) (N := some 16) (v := ?_) (a' := ?_) #[tt, tt, tt, tt, tt, tt, tt, tt, ff, tt, tt, tt, ff, ff, tt, tt, tt, ff, ff, ff, ff] rfl rfl (any_of HT_.out (by kernel_rfl)) (fun _ _ _ h => h) (Or.inl ⟨by rfl, ?_⟩) ?_ ?_
        rotate_left
        ·intro w'
         go_simp
         with_reducible rfl
        rotate_left
        ·simp only [Act.put, sa, s0, s1, i64_w, i32_w]
         rfl
        refine pure_ (i := 8) (N := some 17) (v := ?_) (a' := ?_) #[tt, tt, tt, tt, tt, tt, tt, tt, tt, tt, tt, tt, ff, ff, tt, tt, tt, ff, ff, ff, ff] rfl rfl (any_of HT_.out (by kernel_rfl)) (fun _ _ _ h => h) (Or.inl ⟨by rfl, ?_⟩) ?_ ?_
        rotate_left
        ·intro w'
         go_simp
         with_reducible rfl
        rotate_left
        ·simp only [Act.put, sa, s0, s1, i64_w, i32_w]
         rfl
        refine one_ (i := 12) (N := some 21) #[tt, tt, tt, tt, tt, tt, tt, tt, tt, tt, tt, tt, tt, ff, tt, tt, tt, ff, ff, ff, ff] rfl rfl (one_of HT_.out (by kernel_rfl)) (by decide) (fun K hK => ?_)
        refine goes_ Tryd.func52 (by kernel_rfl) rfl #[.string (⟨#[112, 101, 97, 107, 115]⟩ : ByteArray), .slice A0_6 l0_6.length c0_6] (by rfl) rfl rfl (by first | rfl | (simp only [List.map_toArray, List.map_cons, List.map_nil, List.length_drop, List.length_take]; first | done | rfl)) ?_
        with_reducible refine (impl_peaksPut.calls k (⟨#[112, 101, 97, 107, 115]⟩ : ByteArray) _ _ l0_6 t281 _ ?side1 ?side2 A9.out (Aside0.mk (Go.Proofs.YtgjljbaadglpnaaDoor.Sh.hasT_of PQT_ (bl HB)))).mono ?_
        (case side1 => exact cb HR0_6 HB)
        (case side2 => exact HC0_6.out)
        rintro e w20 ⟨rfl, hb⟩
        refine ⟨_, rfl, ?_⟩
        have n0_ := Aside0.mk (bb BK277 hb)
        have n1_ := Aside0.mk (below_step (by repeat (with_reducible first | exact HB.out | apply ba | apply bd | apply b1 | refine bs ?_ GE277.out)) hb)
        clear BK277
        clear HB
        have BK277 := n0_
        have HB := n1_
        clear n0_ n1_
        (try clear hb)
        (try clear hb2)
        (try clear hk)
        (try clear hi)
        refine hK.out _ _ ⟨(blk_cell BK277.out 0).trans rfl, (blk_cell BK277.out 1).trans rfl, (blk_cell BK277.out 2).trans rfl, (blk_cell BK277.out 3).trans rfl, (blk_cell BK277.out 4).trans rfl, (blk_cell BK277.out 5).trans rfl, (blk_cell BK277.out 6).trans rfl, (blk_cell BK277.out 7).trans rfl, (blk_cell BK277.out 8).trans rfl⟩ (fun hHeld => ?_)
        clear hK K
        refine norm_ (a' := ?_) ?_ ?_
        rotate_left
        ·show Act.put _ (some 21) _ = _
         simp only [Act.put, sa, s0, s1, i64_w, i32_w]
         rfl
        refine pure_ (i := 13) (N := some 22) (v := ?_) (a' := ?_) #[tt, tt, tt, tt, tt, tt, tt, tt, tt, tt, tt, tt, tt, tt, tt, tt, tt, ff, ff, ff, ff] rfl rfl (any_of HT_.out (by kernel_rfl)) (fun _ _ _ h => h) (Or.inl ⟨by rfl, ?_⟩) ?_ ?_
        rotate_left
        ·intro w'
         go_simp
         with_reducible rfl
        rotate_left
        ·simp only [Act.put, sa, s0, s1, i64_w, i32_w]
         rfl
        refine one_ (i := 17) (N := some 26) #[tt, tt, tt, tt, tt, tt, tt, tt, tt, tt, tt, tt, tt, tt, tt, tt, tt, tt, ff, ff, ff] rfl rfl (one_of HT_.out (by kernel_rfl)) (by decide) (fun K hK => ?_)
        refine goes_ Tryd.func52 (by kernel_rfl) rfl #[.string (⟨#[115, 116, 101, 112, 115]⟩ : ByteArray), .slice A0_7 l0_7.length c0_7] (by rfl) rfl rfl (by first | rfl | (simp only [List.map_toArray, List.map_cons, List.map_nil, List.length_drop, List.length_take]; first | done | rfl)) ?_
        with_reducible refine (impl_peaksPut.calls k (⟨#[115, 116, 101, 112, 115]⟩ : ByteArray) _ _ l0_7 t282 _ ?side1 ?side2 A11.out (Aside0.mk (Go.Proofs.YtgjljbaadglpnaaDoor.Sh.hasT_of PQT_ (bl HB)))).mono ?_
        (case side1 => exact cb HR0_7 HB)
        (case side2 => exact HC0_7.out)
        rintro e w21 ⟨rfl, hb⟩
        refine ⟨_, rfl, ?_⟩
        have n0_ := Aside0.mk (bb BK277 hb)
        have n1_ := Aside0.mk (below_step (by repeat (with_reducible first | exact HB.out | apply ba | apply bd | apply b1 | refine bs ?_ GE277.out)) hb)
        clear BK277
        clear HB
        have BK277 := n0_
        have HB := n1_
        clear n0_ n1_
        (try clear hb)
        (try clear hb2)
        (try clear hk)
        (try clear hi)
        refine hK.out _ _ ⟨(blk_cell BK277.out 0).trans rfl, (blk_cell BK277.out 1).trans rfl, (blk_cell BK277.out 2).trans rfl, (blk_cell BK277.out 3).trans rfl, (blk_cell BK277.out 4).trans rfl, (blk_cell BK277.out 5).trans rfl, (blk_cell BK277.out 6).trans rfl, (blk_cell BK277.out 7).trans rfl, (blk_cell BK277.out 8).trans rfl⟩ (fun hHeld => ?_)
        clear hK K
        refine norm_ (a' := ?_) ?_ ?_
        rotate_left
        ·show Act.put _ (some 26) _ = _
         simp only [Act.put, sa, s0, s1, i64_w, i32_w]
         rfl
        refine pure_ (i := 18) (N := some 27) (v := ?_) (a' := ?_) #[tt, tt, tt, tt, tt, tt, tt, tt, tt, tt, tt, tt, tt, tt, tt, tt, tt, tt, tt, ff, ff] rfl rfl (any_of HT_.out (by kernel_rfl)) (fun _ _ _ h => h) (Or.inl ⟨by rfl, ?_⟩) ?_ ?_
        rotate_left
        ·intro w'
         go_simp
         with_reducible rfl
        rotate_left
        ·simp only [Act.put, sa, s0, s1, i64_w, i32_w]
         rfl
        refine pure_ (i := 19) (N := some 28) (v := ?_) (a' := ?_) #[tt, tt, tt, tt, tt, tt, tt, tt, tt, tt, tt, tt, tt, tt, tt, tt, tt, tt, tt, tt, ff] rfl rfl (any_of HT_.out (by kernel_rfl)) (fun _ _ _ h => h) (Or.inl ⟨by rfl, ?_⟩) ?_ ?_
        rotate_left
        ·intro w'
         go_simp
         with_reducible rfl
        rotate_left
        ·simp only [Act.put, sa, s0, s1, i64_w, i32_w]
         rfl
        refine pure_ (i := 20) (N := some 3) (v := ?_) (a' := ?_) #[tt, tt, tt, tt, tt, tt, tt, tt, tt, tt, tt, tt, tt, tt, tt, tt, tt, tt, tt, tt, tt] rfl rfl (any_of HT_.out (by kernel_rfl)) (fun _ _ _ h => h) (Or.inl ⟨by rfl, ?_⟩) ?_ ?_
        rotate_left
        ·intro w'
         go_simp
         with_reducible rfl
        rotate_left
        ·simp only [Act.put, sa, s0, s1, i64_w, i32_w]
         rfl
        refine done_ (done_of HT_.out (by kernel_rfl)) ?_
        obtain ⟨hcz22_0, hcz22_1, hcz22_2, hcz22_3, hcz22_4, hcz22_5, hcz22_6, hcz22_7, hcz22_8, hfz22_0, hfz22_1, hfz22_2, hfz22_3, hfz22_4, hfz22_5, hfz22_6, hfz22_7, hfz22_8⟩ := bc9 BK277
        try go_wp2
        go_loopg [3, 32] k (fun kq v3 v32 w' => ∃ (x3_1 : ByteArray) (x32_1 : Int), v3 = .string x3_1 ∧ v32 = .int .i64 x32_1 ∧ Aside0 (impl_PaidPut.l0 kq x3_1 l0_8 (l0_8.length : Int) x32_1 = some r) ∧ Aside0 (kq ≤ k) ∧ Aside0 (w'.heap[gb277]? = some (.cells #[.int .i64 a0_0, .string a0_1, .string a0_2, .int .i64 a0_3, .int .i64 a0_4, .int .i64 a0_5, (.slice A0_6 l0_6.length c0_6), (.slice A0_7 l0_7.length c0_7), (.slice A0_8 l0_8.length c0_8)] 29 (0, 0))) ∧ Aside0 (Below w.heap.size w w'))
        case atStart => exact ⟨((((((t279 ++ (⟨#[32]⟩ : ByteArray)) ++ t280) ++ (⟨#[10]⟩ : ByteArray)) ++ t281) ++ t282) ++ (⟨#[115, 105, 100, 101, 115]⟩ : ByteArray)), (0), (by first | rfl | (simp; done) | (simp [*]; done)), (by first | rfl | (simp; done) | (simp [*]; done)), H', ⟨Nat.le_refl _⟩, ⟨kb BK277⟩, ⟨by repeat (with_reducible first | exact HB.out | apply ba | apply bd | apply b1 | refine bs ?_ GE277.out)⟩⟩
        case round =>
         clear H'
         try clear c1
         try clear c2
         try clear p2
         try clear c3
         try clear c4
         try clear c5
         try clear c5b0
         try clear c5b1
         try clear c5b2
         try clear c7
         try clear c7b0
         try clear c7b1
         try clear c7b2
         try clear c8
         try clear c8b0
         try clear c8b1
         try clear c8b2
         try clear c10
         try clear c10b0
         try clear c10b1
         try clear c10b2
         try clear c12
         try clear c12b0
         try clear c12b1
         try clear c12b2
         try clear c13
         try clear c13b0
         try clear c13b1
         try clear c13b2
         try clear c16
         try clear hcz15_0
         try clear hcz15_1
         try clear hcz15_2
         try clear hcz15_3
         try clear hcz15_4
         try clear hcz15_5
         try clear hcz15_6
         try clear hcz15_7
         try clear hcz15_8
         try clear hcz22_0
         try clear hcz22_1
         try clear hcz22_2
         try clear hcz22_3
         try clear hcz22_4
         try clear hcz22_5
         try clear hcz22_6
         try clear hcz22_7
         try clear hcz22_8
         try clear hfz15_0
         try clear hfz15_1
         try clear hfz15_2
         try clear hfz15_3
         try clear hfz15_4
         try clear hfz15_5
         try clear hfz15_6
         try clear hfz15_7
         try clear hfz15_8
         try clear hfz22_0
         try clear hfz22_1
         try clear hfz22_2
         try clear hfz22_3
         try clear hfz22_4
         try clear hfz22_5
         try clear hfz22_6
         try clear hfz22_7
         try clear hfz22_8
         obtain ⟨x3_1, x32_1, rfl, rfl, HA, HK1, BK277, HB⟩ := hrel
         cases gk with
         | zero => exact absurd HA.out (by simp [impl_PaidPut.l0])
         | succ k1 =>
          have H := HA.out
          clear HA
          simp only [impl_PaidPut.l0] at H
          by_cases c23 : x32_1 < (l0_8.length : Int)
          ·rw [if_pos c23] at H
           have c23b0 : decide (x32_1 < (l0_8.length : Int)) = true := decide_eq_true c23
           clear c23
           by_cases c24 : 0 ≤ x32_1
           ·rw [if_pos c24] at H
            have c24b0 : decide (0 ≤ x32_1) = true := decide_eq_true c24
            clear c24
            by_cases c25 : x32_1 < (l0_8.length : Int)
            ·rw [if_pos c25] at H
             have c25b0 : decide (x32_1 < (l0_8.length : Int)) = true := decide_eq_true c25
             clear c25
             obtain ⟨bq26, hbq26⟩ : ∃ b_ : Bool, b_ = ((rd_T85 l0_8 x32_1).f1) := ⟨_, rfl⟩
             replace H : (if bq26 = true then (if 2 + ((rd_T85 l0_8 x32_1).f0).size ≤ 9223372036854775807 then (if x3_1.size + ((⟨#[32, 108]⟩ : ByteArray) ++ ((rd_T85 l0_8 x32_1).f0)).size ≤ 9223372036854775807 then (impl_PaidPut.l0 k1 (x3_1 ++ ((⟨#[32, 108]⟩ : ByteArray) ++ ((rd_T85 l0_8 x32_1).f0))) l0_8 (l0_8.length : Int) (wrap64 (x32_1 + 1))) else (none)) else (none)) else (if 2 + ((rd_T85 l0_8 x32_1).f0).size ≤ 9223372036854775807 then (if x3_1.size + ((⟨#[32, 114]⟩ : ByteArray) ++ ((rd_T85 l0_8 x32_1).f0)).size ≤ 9223372036854775807 then (impl_PaidPut.l0 k1 (x3_1 ++ ((⟨#[32, 114]⟩ : ByteArray) ++ ((rd_T85 l0_8 x32_1).f0))) l0_8 (l0_8.length : Int) (wrap64 (x32_1 + 1))) else (none)) else (none))) = some r := by rw [← hbq26] at H; exact H
             have Nbq26 := Aside0.mk hbq26
             clear hbq26
             by_cases c27 : bq26 = true
             ·subst c27
              have H1 : (if 2 + ((rd_T85 l0_8 x32_1).f0).size ≤ 9223372036854775807 then (if x3_1.size + ((⟨#[32, 108]⟩ : ByteArray) ++ ((rd_T85 l0_8 x32_1).f0)).size ≤ 9223372036854775807 then (impl_PaidPut.l0 k1 (x3_1 ++ ((⟨#[32, 108]⟩ : ByteArray) ++ ((rd_T85 l0_8 x32_1).f0))) l0_8 (l0_8.length : Int) (wrap64 (x32_1 + 1))) else (none)) else (none)) = some r := by rw [if_pos rfl] at H; exact H
              clear H
              have H := H1
              clear H1
              by_cases c28 : 2 + ((rd_T85 l0_8 x32_1).f0).size ≤ 9223372036854775807
              ·rw [if_pos c28] at H
               have c28b0 := eq_true c28
               have c28b1 : decide (2 + ((rd_T85 l0_8 x32_1).f0).size ≤ 9223372036854775807) = true := decide_eq_true c28
               try have c28b2 : (9223372036854775807 < 2 + ((rd_T85 l0_8 x32_1).f0).size) = False := eq_false (Nat.not_lt.2 c28)
               by_cases c29 : x3_1.size + ((⟨#[32, 108]⟩ : ByteArray) ++ ((rd_T85 l0_8 x32_1).f0)).size ≤ 9223372036854775807
               ·rw [if_pos c29] at H
                have c29b0 := eq_true c29
                have c29b1 : decide (x3_1.size + ((⟨#[32, 108]⟩ : ByteArray) ++ ((rd_T85 l0_8 x32_1).f0)).size ≤ 9223372036854775807) = true := decide_eq_true c29
                try have c29b2 : (9223372036854775807 < x3_1.size + ((⟨#[32, 108]⟩ : ByteArray) ++ ((rd_T85 l0_8 x32_1).f0)).size) = False := eq_false (Nat.not_lt.2 c29)
                try (have c29b3 := c29b2; simp only [ByteArray.size_append, show (⟨#[32, 108]⟩ : ByteArray).size = 2 from rfl] at c29b3)
                have H' := Aside0.mk H
                clear H
                have p283 : 0 ≤ (x32_1 : Int) := of_decide_eq_true (by first | (with_reducible assumption) | assumption)
                have q283 : x32_1 < (l0_8.length : Int) := of_decide_eq_true (by first | (with_reducible assumption) | assumption)
                obtain ⟨ad283, e283, hx283_0, hx283_1⟩ := at_T85 HR0_8.out x32_1 p283 q283
                (try rw [← Nbq26.out] at hx283_1)
                cases e283
                replace hx283_0 := (HB.out.cell (World.block_lt_of_cell? w _ hx283_0)).trans hx283_0
                replace hx283_1 := (HB.out.cell (World.block_lt_of_cell? w _ hx283_1)).trans hx283_1
                replace p283 := eq_true p283
                replace q283 := eq_true q283
                go_wp2_with (first | ((with_reducible refine gate_dst (N := 5) rfl ?_); refine box_event ?hg (N := 5) ?hd (cs := #[.string (⟨#[]⟩ : ByteArray), .bool false]) (t := 85) ?hr ?_; (case hd => rfl); (case hg => rfl); (case hr => first | (go_simp; done) | (go_simp; rfl)); intro gb284 hg w30 hbox hb; have n0_ := Aside0.mk (bb BK277 hb); have n1_ := Aside0.mk (below_step (by repeat (with_reducible first | exact HB.out | apply ba | apply bd | apply b1 | refine bs ?_ GE277.out)) hb); have n2_ := Aside0.mk (hbox); have n3_ := Aside0.mk ((by rw [hg]; exact (below_size (by repeat (with_reducible first | exact HB.out | apply ba | apply bd | apply b1 | refine bs ?_ GE277.out))) : w.heap.size ≤ gb284)); have n4_ := Aside0.mk ((by rw [hg]; exact (below_size (by repeat (with_reducible first | exact HB.out | apply ba | apply bd | apply b1 | refine bs ?_ GE277.out))) : w.heap.size ≤ gb284)); have n5_ := Aside0.mk ((by rw [hg]; exact Nat.ne_of_lt (blk_lt (g := gb277) (o := .cells #[.int .i64 a0_0, .string a0_1, .string a0_2, .int .i64 a0_3, .int .i64 a0_4, .int .i64 a0_5, .slice A0_6 l0_6.length c0_6, .slice A0_7 l0_7.length c0_7, .slice (some ad283) l0_8.length c0_8] 29 (0, 0)) (kb BK277)) : gb277 ≠ gb284)); have n6_ := Aside0.mk ((by rw [hg]; exact Nat.ne_of_gt (blk_lt (g := gb277) (o := .cells #[.int .i64 a0_0, .string a0_1, .string a0_2, .int .i64 a0_3, .int .i64 a0_4, .int .i64 a0_5, .slice A0_6 l0_6.length c0_6, .slice A0_7 l0_7.length c0_7, .slice (some ad283) l0_8.length c0_8] 29 (0, 0)) (kb BK277)) : gb284 ≠ gb277)); clear BK277; clear HB; have BK277 := n0_; have HB := n1_; have BK284 := n2_; have GW284 := n3_; have GE284 := n4_; have NB277_284 := n5_; have NB284_277 := n6_; clear n0_ n1_ n2_ n3_ n4_ n5_ n6_; clear hb hbox hg; have hnb31 := NB284_277.out; have hnc31 := NB277_284.out; obtain ⟨hcz32_0, hcz32_1, hfz32_0, hfz32_1⟩ := bc2 BK284))
                go_roundg k1
                case measure => have := HK1.out; omega
                case rel => exact ⟨(x3_1 ++ ((⟨#[32, 108]⟩ : ByteArray) ++ ((rd_T85 l0_8 x32_1).f0))), (wrap64 (x32_1 + 1)), (by first | rfl | (simp; done) | (simp [*]; done)), (by first | rfl | (simp; done) | (simp [*]; done)), H', ⟨by have := HK1.out; omega⟩, ⟨by (with_reducible repeat (first | refine kn ?_ _ | refine kd ?_ | refine ka ?_ _)); refine blk_far ?_ NB277_284.out _; (with_reducible repeat (first | refine kn ?_ _ | refine kd ?_ | refine ka ?_ _)); refine blk_far ?_ NB277_284.out _; (with_reducible repeat (first | refine kn ?_ _ | refine kd ?_ | refine ka ?_ _)); exact BK277.out⟩, ⟨by repeat (with_reducible first | exact HB.out | apply ba | apply bd | apply b1 | refine bs ?_ GE277.out | refine bs ?_ GE284.out)⟩⟩
               ·rw [if_neg c29] at H
                exact absurd H (by simp)
              ·rw [if_neg c28] at H
               exact absurd H (by simp)
             ·replace c27 := Bool.eq_false_iff.mpr c27
              subst c27
              have H1 : (if 2 + ((rd_T85 l0_8 x32_1).f0).size ≤ 9223372036854775807 then (if x3_1.size + ((⟨#[32, 114]⟩ : ByteArray) ++ ((rd_T85 l0_8 x32_1).f0)).size ≤ 9223372036854775807 then (impl_PaidPut.l0 k1 (x3_1 ++ ((⟨#[32, 114]⟩ : ByteArray) ++ ((rd_T85 l0_8 x32_1).f0))) l0_8 (l0_8.length : Int) (wrap64 (x32_1 + 1))) else (none)) else (none)) = some r := by rw [if_neg (show ¬ (false = true) by decide)] at H; exact H
              clear H
              have H := H1
              clear H1
              by_cases c33 : 2 + ((rd_T85 l0_8 x32_1).f0).size ≤ 9223372036854775807
              ·rw [if_pos c33] at H
               have c33b0 := eq_true c33
               have c33b1 : decide (2 + ((rd_T85 l0_8 x32_1).f0).size ≤ 9223372036854775807) = true := decide_eq_true c33
               try have c33b2 : (9223372036854775807 < 2 + ((rd_T85 l0_8 x32_1).f0).size) = False := eq_false (Nat.not_lt.2 c33)
               by_cases c34 : x3_1.size + ((⟨#[32, 114]⟩ : ByteArray) ++ ((rd_T85 l0_8 x32_1).f0)).size ≤ 9223372036854775807
               ·rw [if_pos c34] at H
                have c34b0 := eq_true c34
                have c34b1 : decide (x3_1.size + ((⟨#[32, 114]⟩ : ByteArray) ++ ((rd_T85 l0_8 x32_1).f0)).size ≤ 9223372036854775807) = true := decide_eq_true c34
                try have c34b2 : (9223372036854775807 < x3_1.size + ((⟨#[32, 114]⟩ : ByteArray) ++ ((rd_T85 l0_8 x32_1).f0)).size) = False := eq_false (Nat.not_lt.2 c34)
                try (have c34b3 := c34b2; simp only [ByteArray.size_append, show (⟨#[32, 114]⟩ : ByteArray).size = 2 from rfl] at c34b3)
                have H' := Aside0.mk H
                clear H
                have p283 : 0 ≤ (x32_1 : Int) := of_decide_eq_true (by first | (with_reducible assumption) | assumption)
                have q283 : x32_1 < (l0_8.length : Int) := of_decide_eq_true (by first | (with_reducible assumption) | assumption)
                obtain ⟨ad283, e283, hx283_0, hx283_1⟩ := at_T85 HR0_8.out x32_1 p283 q283
                (try rw [← Nbq26.out] at hx283_1)
                cases e283
                replace hx283_0 := (HB.out.cell (World.block_lt_of_cell? w _ hx283_0)).trans hx283_0
                replace hx283_1 := (HB.out.cell (World.block_lt_of_cell? w _ hx283_1)).trans hx283_1
                replace p283 := eq_true p283
                replace q283 := eq_true q283
                go_wp2_with (first | ((with_reducible refine gate_dst (N := 5) rfl ?_); refine box_event ?hg (N := 5) ?hd (cs := #[.string (⟨#[]⟩ : ByteArray), .bool false]) (t := 85) ?hr ?_; (case hd => rfl); (case hg => rfl); (case hr => first | (go_simp; done) | (go_simp; rfl)); intro gb284 hg w35 hbox hb; have n0_ := Aside0.mk (bb BK277 hb); have n1_ := Aside0.mk (below_step (by repeat (with_reducible first | exact HB.out | apply ba | apply bd | apply b1 | refine bs ?_ GE277.out)) hb); have n2_ := Aside0.mk (hbox); have n3_ := Aside0.mk ((by rw [hg]; exact (below_size (by repeat (with_reducible first | exact HB.out | apply ba | apply bd | apply b1 | refine bs ?_ GE277.out))) : w.heap.size ≤ gb284)); have n4_ := Aside0.mk ((by rw [hg]; exact (below_size (by repeat (with_reducible first | exact HB.out | apply ba | apply bd | apply b1 | refine bs ?_ GE277.out))) : w.heap.size ≤ gb284)); have n5_ := Aside0.mk ((by rw [hg]; exact Nat.ne_of_lt (blk_lt (g := gb277) (o := .cells #[.int .i64 a0_0, .string a0_1, .string a0_2, .int .i64 a0_3, .int .i64 a0_4, .int .i64 a0_5, .slice A0_6 l0_6.length c0_6, .slice A0_7 l0_7.length c0_7, .slice (some ad283) l0_8.length c0_8] 29 (0, 0)) (kb BK277)) : gb277 ≠ gb284)); have n6_ := Aside0.mk ((by rw [hg]; exact Nat.ne_of_gt (blk_lt (g := gb277) (o := .cells #[.int .i64 a0_0, .string a0_1, .string a0_2, .int .i64 a0_3, .int .i64 a0_4, .int .i64 a0_5, .slice A0_6 l0_6.length c0_6, .slice A0_7 l0_7.length c0_7, .slice (some ad283) l0_8.length c0_8] 29 (0, 0)) (kb BK277)) : gb284 ≠ gb277)); clear BK277; clear HB; have BK277 := n0_; have HB := n1_; have BK284 := n2_; have GW284 := n3_; have GE284 := n4_; have NB277_284 := n5_; have NB284_277 := n6_; clear n0_ n1_ n2_ n3_ n4_ n5_ n6_; clear hb hbox hg; have hnb36 := NB284_277.out; have hnc36 := NB277_284.out; obtain ⟨hcz37_0, hcz37_1, hfz37_0, hfz37_1⟩ := bc2 BK284))
                go_roundg k1
                case measure => have := HK1.out; omega
                case rel => exact ⟨(x3_1 ++ ((⟨#[32, 114]⟩ : ByteArray) ++ ((rd_T85 l0_8 x32_1).f0))), (wrap64 (x32_1 + 1)), (by first | rfl | (simp; done) | (simp [*]; done)), (by first | rfl | (simp; done) | (simp [*]; done)), H', ⟨by have := HK1.out; omega⟩, ⟨by (with_reducible repeat (first | refine kn ?_ _ | refine kd ?_ | refine ka ?_ _)); refine blk_far ?_ NB277_284.out _; (with_reducible repeat (first | refine kn ?_ _ | refine kd ?_ | refine ka ?_ _)); refine blk_far ?_ NB277_284.out _; (with_reducible repeat (first | refine kn ?_ _ | refine kd ?_ | refine ka ?_ _)); exact BK277.out⟩, ⟨by repeat (with_reducible first | exact HB.out | apply ba | apply bd | apply b1 | refine bs ?_ GE277.out | refine bs ?_ GE284.out)⟩⟩
               ·rw [if_neg c34] at H
                exact absurd H (by simp)
              ·rw [if_neg c33] at H
               exact absurd H (by simp)
            ·rw [if_neg c25] at H
             exact absurd H (by simp)
           ·rw [if_neg c24] at H
            exact absurd H (by simp)
          ·rw [if_neg c23] at H
           have c23b0 : decide (x32_1 < (l0_8.length : Int)) = false := decide_eq_false c23
           clear c23
           by_cases c38 : x3_1.size + 1 ≤ 9223372036854775807
           ·rw [if_pos c38] at H
            have c38b0 := eq_true c38
            have c38b1 : decide (x3_1.size + 1 ≤ 9223372036854775807) = true := decide_eq_true c38
            try have c38b2 : (9223372036854775807 < x3_1.size + 1) = False := eq_false (Nat.not_lt.2 c38)
            obtain rfl := Option.some.inj H
            go_wp2
            go_ret
            exact ⟨by first | rfl | (simp [errW_none, errW_some] <;> rfl) | (simp [*, errW_none, errW_some] <;> rfl), by repeat (with_reducible first | exact HB.out | apply ba | apply bd | apply b1 | refine bs ?_ GE277.out)⟩
           ·rw [if_neg c38] at H
            exact absurd H (by simp)
       ·rw [if_neg c13] at H
        exact absurd H (by simp)
      ·rw [if_neg c12] at H
       exact absurd H (by simp)
     ·rw [if_neg c10] at H
      exact absurd H (by simp)
    ·rw [if_neg c8] at H
     exact absurd H (by simp)
   ·rw [if_neg c7] at H
    exact absurd H (by simp)
  ·rw [if_neg c5] at H
   exact absurd H (by simp)
 ·replace c3 := Bool.eq_false_iff.mpr c3
  subst c3
  have H1 : (some (⟨#[]⟩ : ByteArray)) = some r := by rw [if_neg (show ¬ (false = true) by decide)] at H; exact H
  clear H
  have H := H1
  clear H1
  obtain rfl := Option.some.inj H
  go_enter Tryd.func23, Tryd.ntmps23
  go_wp2_with (first | ((with_reducible refine gate_dst (N := 1) rfl ?_); refine box_event ?hg (N := 1) ?hd (cs := #[.int .i64 a0_0, .string a0_1, .string a0_2, .int .i64 a0_3, .int .i64 a0_4, .int .i64 a0_5, .slice A0_6 l0_6.length c0_6, .slice A0_7 l0_7.length c0_7, .slice A0_8 l0_8.length c0_8]) (t := 29) ?hr ?_; (case hd => rfl); (case hg => rfl); (case hr => first | (go_simp; done) | (go_simp; rfl)); intro gb277 hg w39 hbox hb; have n0_ := Aside0.mk (below_step (bl HB) hb); have n1_ := Aside0.mk (hbox); have n2_ := Aside0.mk ((by rw [hg]; exact (below_size (bl HB)) : w.heap.size ≤ gb277)); have n3_ := Aside0.mk ((by rw [hg]; exact (below_size (bl HB)) : w.heap.size ≤ gb277)); clear HB; have HB := n0_; have BK277 := n1_; have GW277 := n2_; have GE277 := n3_; clear n0_ n1_ n2_ n3_; clear hb hbox hg; obtain ⟨hcz40_0, hcz40_1, hcz40_2, hcz40_3, hcz40_4, hcz40_5, hcz40_6, hcz40_7, hcz40_8, hfz40_0, hfz40_1, hfz40_2, hfz40_3, hfz40_4, hfz40_5, hfz40_6, hfz40_7, hfz40_8⟩ := bc9 BK277) | ((with_reducible refine gate_callee (f := 51) rfl ?_); refine goesL_ (some 7) rfl rfl Tryd.func51 (by kernel_rfl) rfl #[.agg #[.int .i64 a0_0, .string a0_1, .string a0_2, .int .i64 a0_3, .int .i64 a0_4, .int .i64 a0_5, .slice A0_6 l0_6.length c0_6, .slice A0_7 l0_7.length c0_7, .slice A0_8 l0_8.length c0_8]] rfl (by first | rfl | (simp only [List.map_toArray, List.map_cons, List.map_nil, List.length_drop, List.length_take]; first | done | rfl)) ?_; (with_reducible refine (impl_paidOk.calls k a0_0 a0_1 a0_2 a0_3 a0_4 a0_5 _ _ l0_6 _ _ l0_7 _ _ l0_8 false _ ?side1 ?side2 ?side3 ?side4 ?side5 ?side6 A2.out).mono ?_); (case side1 => exact cb HR0_6 HB); (case side2 => exact HC0_6.out); (case side3 => exact cb HR0_7 HB); (case side4 => exact HC0_7.out); (case side5 => exact cb HR0_8 HB); (case side6 => exact HC0_8.out); rintro e w41 ⟨rfl, hb⟩; refine ⟨_, rfl, ?_⟩; have n0_ := Aside0.mk (bb BK277 hb); have n1_ := Aside0.mk (below_step (by repeat (with_reducible first | exact HB.out | apply ba | apply bd | apply b1 | refine bs ?_ GE277.out)) hb); clear BK277; clear HB; have BK277 := n0_; have HB := n1_; clear n0_ n1_; (try clear hb); (try clear hb2); (try clear hk); (try clear hi)))
  go_ret
  exact ⟨by first | rfl | (simp [errW_none, errW_some] <;> rfl) | (simp [*, errW_none, errW_some] <;> rfl), by repeat (with_reducible first | exact HB.out | apply ba | apply bd | apply b1 | refine bs ?_ GE277.out)⟩

end Go.Proofs.YtgjljbaadglpnaaDoor.PFnExactPaidPut
