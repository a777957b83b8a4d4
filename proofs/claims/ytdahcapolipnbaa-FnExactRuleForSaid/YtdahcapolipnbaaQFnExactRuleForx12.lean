/- What some Go functions answer, each as a Lean function, and that the machine answers so: written by a program of this session out of the translation. -/
import Derived.Test.YtdahcapolipnbaaQFnExactRuleForx0
import Derived.Test.YtdahcapolipnbaaQFnExactRuleForx11
namespace Go.Proofs.Ytdahcapolipnbaa.QFnExactRuleFor
open Go.RowKit Go.Proofs.YtdahcapolipnbaaW.PrintWords Go.Proofs.YtdahcapolipnbaaW.PrintLast Go.Proofs.YtdahcapolipnbaaW.PrintMore Go.Proofs.Ytdahcapolipnbaa.Rp
attribute [local go_sem] max2_int min2_int max_two min_two max_three min_three max_four min_four   -- for this text's walks alone
set_option linter.unusedVariables false
set_option linter.unusedSimpArgs false

/-! ### impl_applies: function 77 -/
abbrev mkimpl_applies_0 : Array Bool := #[ff,ff,ff,ff,ff,ff,ff,ff,ff,ff,ff,ff,ff,ff,ff,ff,ff,ff,ff,ff,ff,ff,ff,ff,ff,ff,ff,ff,ff,ff,ff,ff,ff,ff,ff,ff]
abbrev mkimpl_applies_1 : Array Bool := #[tt,ff,ff,ff,ff,ff,ff,ff,ff,ff,ff,ff,ff,ff,ff,ff,ff,ff,ff,ff,ff,ff,ff,ff,ff,ff,ff,ff,ff,ff,ff,ff,ff,ff,ff,ff]
abbrev mkimpl_applies_2 : Array Bool := #[tt,tt,ff,ff,ff,ff,ff,ff,ff,ff,ff,ff,ff,ff,ff,ff,ff,ff,ff,ff,ff,ff,ff,ff,ff,ff,ff,ff,ff,ff,ff,ff,ff,ff,ff,ff]
abbrev mkimpl_applies_3 : Array Bool := #[tt,tt,tt,ff,ff,ff,ff,ff,ff,ff,ff,ff,ff,ff,ff,ff,ff,ff,ff,ff,ff,ff,ff,ff,ff,ff,ff,ff,ff,ff,ff,ff,ff,ff,ff,ff]
abbrev mkimpl_applies_4 : Array Bool := #[tt,tt,tt,tt,ff,ff,ff,ff,ff,ff,ff,ff,ff,ff,ff,ff,ff,ff,ff,ff,ff,ff,ff,ff,ff,ff,ff,ff,ff,ff,ff,ff,ff,ff,ff,ff]
abbrev mkimpl_applies_5 : Array Bool := #[tt,tt,tt,tt,tt,ff,ff,ff,ff,ff,ff,ff,ff,ff,ff,ff,ff,ff,ff,ff,ff,ff,ff,ff,ff,ff,ff,ff,ff,ff,ff,ff,ff,ff,ff,ff]
abbrev mkimpl_applies_6 : Array Bool := #[tt,tt,tt,tt,tt,tt,ff,ff,ff,ff,ff,ff,ff,ff,ff,ff,ff,ff,ff,ff,ff,ff,ff,ff,ff,ff,ff,ff,ff,ff,ff,ff,ff,ff,ff,ff]
abbrev mkimpl_applies_7 : Array Bool := #[tt,tt,tt,tt,tt,tt,tt,ff,ff,ff,ff,ff,ff,ff,ff,ff,ff,ff,ff,ff,ff,ff,ff,ff,ff,ff,ff,ff,ff,ff,ff,ff,ff,ff,ff,ff]
abbrev mkimpl_applies_8 : Array Bool := #[tt,tt,tt,tt,tt,tt,tt,tt,ff,ff,ff,ff,ff,ff,ff,ff,ff,ff,ff,ff,ff,ff,ff,ff,ff,ff,ff,ff,ff,ff,ff,ff,ff,ff,ff,ff]
abbrev mkimpl_applies_9 : Array Bool := #[tt,tt,tt,tt,tt,tt,tt,tt,tt,ff,ff,ff,ff,ff,ff,ff,ff,ff,ff,ff,ff,ff,ff,ff,ff,ff,ff,ff,ff,ff,ff,ff,ff,ff,ff,ff]
abbrev mkimpl_applies_10 : Array Bool := #[tt,tt,tt,tt,tt,tt,tt,tt,tt,tt,ff,ff,ff,ff,ff,ff,ff,ff,ff,ff,ff,ff,ff,ff,ff,ff,ff,ff,ff,ff,ff,ff,ff,ff,ff,ff]
abbrev mkimpl_applies_11 : Array Bool := #[tt,tt,tt,tt,tt,tt,tt,tt,tt,tt,ff,tt,ff,ff,ff,ff,ff,ff,ff,ff,ff,ff,ff,ff,ff,ff,ff,ff,ff,ff,ff,ff,ff,ff,ff,ff]
abbrev mkimpl_applies_12 : Array Bool := #[tt,tt,tt,tt,tt,tt,tt,tt,tt,tt,tt,ff,ff,ff,ff,ff,ff,ff,ff,ff,ff,ff,ff,ff,ff,ff,ff,ff,ff,ff,ff,ff,ff,ff,ff,ff]
abbrev mkimpl_applies_13 : Array Bool := #[tt,tt,tt,tt,tt,tt,tt,tt,tt,tt,ff,tt,tt,ff,ff,ff,ff,ff,ff,ff,ff,ff,ff,ff,ff,ff,ff,ff,ff,ff,ff,ff,ff,ff,ff,ff]
abbrev mkimpl_applies_14 : Array Bool := #[tt,tt,tt,tt,tt,tt,tt,tt,tt,tt,tt,tt,ff,ff,ff,ff,ff,ff,ff,ff,ff,ff,ff,ff,ff,ff,ff,ff,ff,ff,ff,ff,ff,ff,ff,ff]
abbrev mkimpl_applies_15 : Array Bool := #[tt,tt,tt,tt,tt,tt,tt,tt,tt,tt,ff,tt,tt,tt,ff,ff,ff,ff,ff,ff,ff,ff,ff,ff,ff,ff,ff,ff,ff,ff,ff,ff,ff,ff,ff,ff]
abbrev mkimpl_applies_16 : Array Bool := #[tt,tt,tt,tt,tt,tt,tt,tt,tt,tt,tt,tt,tt,ff,ff,ff,ff,ff,ff,ff,ff,ff,ff,ff,ff,ff,ff,ff,ff,ff,ff,ff,ff,ff,ff,ff]
abbrev mkimpl_applies_17 : Array Bool := #[tt,tt,tt,tt,tt,tt,tt,tt,tt,tt,ff,tt,tt,tt,tt,ff,ff,ff,ff,ff,ff,ff,ff,ff,ff,ff,ff,ff,ff,ff,ff,ff,ff,ff,ff,ff]
abbrev mkimpl_applies_18 : Array Bool := #[tt,tt,tt,tt,tt,tt,tt,tt,tt,tt,tt,tt,tt,tt,ff,ff,ff,ff,ff,ff,ff,ff,ff,ff,ff,ff,ff,ff,ff,ff,ff,ff,ff,ff,ff,ff]
abbrev mkimpl_applies_19 : Array Bool := #[tt,tt,tt,tt,tt,tt,tt,tt,tt,tt,tt,tt,tt,tt,tt,ff,ff,ff,ff,ff,ff,ff,ff,ff,ff,ff,ff,ff,ff,ff,ff,ff,ff,ff,ff,ff]
abbrev mkimpl_applies_20 : Array Bool := #[tt,tt,tt,tt,tt,tt,tt,tt,tt,tt,tt,tt,tt,tt,tt,tt,ff,ff,ff,ff,ff,ff,ff,ff,ff,ff,ff,ff,ff,ff,ff,ff,ff,ff,ff,ff]
abbrev mkimpl_applies_21 : Array Bool := #[tt,tt,tt,tt,tt,tt,tt,tt,tt,tt,tt,tt,tt,tt,tt,tt,tt,ff,ff,ff,ff,ff,ff,ff,ff,ff,ff,ff,ff,ff,ff,ff,ff,ff,ff,ff]
abbrev mkimpl_applies_22 : Array Bool := #[tt,tt,tt,tt,tt,tt,tt,tt,tt,tt,tt,tt,tt,tt,tt,tt,tt,tt,ff,ff,ff,ff,ff,ff,ff,ff,ff,ff,ff,ff,ff,ff,ff,ff,ff,ff]
abbrev mkimpl_applies_23 : Array Bool := #[tt,tt,tt,tt,tt,tt,tt,tt,tt,tt,tt,tt,tt,tt,tt,tt,tt,tt,tt,ff,ff,ff,ff,ff,ff,ff,ff,ff,ff,ff,ff,ff,ff,ff,ff,ff]
abbrev mkimpl_applies_24 : Array Bool := #[tt,tt,tt,tt,tt,tt,tt,tt,tt,tt,tt,tt,tt,tt,tt,tt,tt,tt,tt,ff,tt,ff,ff,ff,ff,ff,ff,ff,ff,ff,ff,ff,ff,ff,ff,ff]
abbrev mkimpl_applies_25 : Array Bool := #[tt,tt,tt,tt,tt,tt,tt,tt,tt,tt,tt,tt,tt,tt,tt,tt,tt,tt,tt,tt,ff,ff,ff,ff,ff,ff,ff,ff,ff,ff,ff,ff,ff,ff,ff,ff]
abbrev mkimpl_applies_26 : Array Bool := #[tt,tt,tt,tt,tt,tt,tt,tt,tt,tt,tt,tt,tt,tt,tt,tt,tt,tt,tt,ff,tt,tt,ff,ff,ff,ff,ff,ff,ff,ff,ff,ff,ff,ff,ff,ff]
abbrev mkimpl_applies_27 : Array Bool := #[tt,tt,tt,tt,tt,tt,tt,tt,tt,tt,tt,tt,tt,tt,tt,tt,tt,tt,tt,tt,tt,ff,ff,ff,ff,ff,ff,ff,ff,ff,ff,ff,ff,ff,ff,ff]
abbrev mkimpl_applies_28 : Array Bool := #[tt,tt,tt,tt,tt,tt,tt,tt,tt,tt,tt,tt,tt,tt,tt,tt,tt,tt,tt,ff,tt,tt,tt,ff,ff,ff,ff,ff,ff,ff,ff,ff,ff,ff,ff,ff]
abbrev mkimpl_applies_29 : Array Bool := #[tt,tt,tt,tt,tt,tt,tt,tt,tt,tt,tt,tt,tt,tt,tt,tt,tt,tt,tt,tt,tt,tt,ff,ff,ff,ff,ff,ff,ff,ff,ff,ff,ff,ff,ff,ff]
abbrev mkimpl_applies_30 : Array Bool := #[tt,tt,tt,tt,tt,tt,tt,tt,tt,tt,tt,tt,tt,tt,tt,tt,tt,tt,tt,ff,tt,tt,tt,tt,ff,ff,ff,ff,ff,ff,ff,ff,ff,ff,ff,ff]
abbrev mkimpl_applies_31 : Array Bool := #[tt,tt,tt,tt,tt,tt,tt,tt,tt,tt,tt,tt,tt,tt,tt,tt,tt,tt,tt,tt,tt,tt,tt,ff,ff,ff,ff,ff,ff,ff,ff,ff,ff,ff,ff,ff]
abbrev mkimpl_applies_32 : Array Bool := #[tt,tt,tt,tt,tt,tt,tt,tt,tt,tt,tt,tt,tt,tt,tt,tt,tt,tt,tt,tt,tt,tt,tt,tt,ff,ff,ff,ff,ff,ff,ff,ff,ff,ff,ff,ff]
abbrev mkimpl_applies_33 : Array Bool := #[tt,tt,tt,tt,tt,tt,tt,tt,tt,tt,tt,tt,tt,tt,tt,tt,tt,tt,tt,tt,tt,tt,tt,tt,tt,ff,ff,ff,ff,ff,ff,ff,ff,ff,ff,ff]
abbrev mkimpl_applies_34 : Array Bool := #[tt,tt,tt,tt,tt,tt,tt,tt,tt,tt,tt,tt,tt,tt,tt,tt,tt,tt,tt,tt,tt,tt,tt,tt,tt,tt,ff,ff,ff,ff,ff,ff,ff,ff,ff,ff]
abbrev mkimpl_applies_35 : Array Bool := #[tt,tt,tt,tt,tt,tt,tt,tt,tt,tt,tt,tt,tt,tt,tt,tt,tt,tt,tt,tt,tt,tt,tt,tt,tt,tt,tt,ff,ff,ff,ff,ff,ff,ff,ff,ff]
abbrev mkimpl_applies_36 : Array Bool := #[tt,tt,tt,tt,tt,tt,tt,tt,tt,tt,tt,tt,tt,tt,tt,tt,tt,tt,tt,tt,tt,tt,tt,tt,tt,tt,tt,tt,ff,ff,ff,ff,ff,ff,ff,ff]
abbrev mkimpl_applies_37 : Array Bool := #[tt,tt,tt,tt,tt,tt,tt,tt,tt,tt,tt,tt,tt,tt,tt,tt,tt,tt,tt,tt,tt,tt,tt,tt,tt,tt,tt,tt,ff,tt,ff,ff,ff,ff,ff,ff]
abbrev mkimpl_applies_38 : Array Bool := #[tt,tt,tt,tt,tt,tt,tt,tt,tt,tt,tt,tt,tt,tt,tt,tt,tt,tt,tt,tt,tt,tt,tt,tt,tt,tt,tt,tt,tt,ff,ff,ff,ff,ff,ff,ff]
abbrev mkimpl_applies_39 : Array Bool := #[tt,tt,tt,tt,tt,tt,tt,tt,tt,tt,tt,tt,tt,tt,tt,tt,tt,tt,tt,tt,tt,tt,tt,tt,tt,tt,tt,tt,ff,tt,tt,ff,ff,ff,ff,ff]
abbrev mkimpl_applies_40 : Array Bool := #[tt,tt,tt,tt,tt,tt,tt,tt,tt,tt,tt,tt,tt,tt,tt,tt,tt,tt,tt,tt,tt,tt,tt,tt,tt,tt,tt,tt,tt,tt,ff,ff,ff,ff,ff,ff]
abbrev mkimpl_applies_41 : Array Bool := #[tt,tt,tt,tt,tt,tt,tt,tt,tt,tt,tt,tt,tt,tt,tt,tt,tt,tt,tt,tt,tt,tt,tt,tt,tt,tt,tt,tt,ff,tt,tt,tt,ff,ff,ff,ff]
abbrev mkimpl_applies_42 : Array Bool := #[tt,tt,tt,tt,tt,tt,tt,tt,tt,tt,tt,tt,tt,tt,tt,tt,tt,tt,tt,tt,tt,tt,tt,tt,tt,tt,tt,tt,tt,tt,tt,ff,ff,ff,ff,ff]
abbrev mkimpl_applies_43 : Array Bool := #[tt,tt,tt,tt,tt,tt,tt,tt,tt,tt,tt,tt,tt,tt,tt,tt,tt,tt,tt,tt,tt,tt,tt,tt,tt,tt,tt,tt,ff,tt,tt,tt,tt,ff,ff,ff]
abbrev mkimpl_applies_44 : Array Bool := #[tt,tt,tt,tt,tt,tt,tt,tt,tt,tt,tt,tt,tt,tt,tt,tt,tt,tt,tt,tt,tt,tt,tt,tt,tt,tt,tt,tt,tt,tt,tt,tt,ff,ff,ff,ff]
abbrev mkimpl_applies_45 : Array Bool := #[tt,tt,tt,tt,tt,tt,tt,tt,tt,tt,tt,tt,tt,tt,tt,tt,tt,tt,tt,tt,tt,tt,tt,tt,tt,tt,tt,tt,tt,tt,tt,tt,tt,ff,ff,ff]
abbrev mkimpl_applies_46 : Array Bool := #[tt,tt,tt,tt,tt,tt,tt,tt,tt,tt,tt,tt,tt,tt,tt,tt,tt,tt,tt,tt,tt,tt,tt,tt,tt,tt,tt,tt,tt,tt,tt,tt,tt,tt,ff,ff]
abbrev mkimpl_applies_47 : Array Bool := #[tt,tt,tt,tt,tt,tt,tt,tt,tt,tt,tt,tt,tt,tt,tt,tt,tt,tt,tt,tt,tt,tt,tt,tt,tt,tt,tt,tt,tt,tt,tt,tt,tt,tt,tt,ff]
abbrev mkimpl_applies_48 : Array Bool := #[tt,tt,tt,tt,tt,tt,tt,tt,tt,tt,tt,tt,tt,tt,tt,tt,tt,tt,tt,tt,tt,tt,tt,tt,tt,tt,tt,tt,tt,tt,tt,tt,tt,tt,tt,tt]
abbrev mkimpl_applies_49 : Array Bool := #[ff,ff,ff,ff,ff,ff,ff,ff,ff,ff,ff,ff]
abbrev mkimpl_applies_50 : Array Bool := #[tt,ff,ff,ff,ff,ff,ff,ff,ff,ff,ff,ff]
abbrev mkimpl_applies_51 : Array Bool := #[tt,tt,ff,ff,ff,ff,ff,ff,ff,ff,ff,ff]
abbrev mkimpl_applies_52 : Array Bool := #[tt,tt,ff,ff,ff,tt,ff,ff,ff,ff,ff,ff]
abbrev mkimpl_applies_53 : Array Bool := #[tt,tt,ff,ff,ff,tt,tt,ff,ff,ff,ff,ff]
abbrev mkimpl_applies_54 : Array Bool := #[tt,tt,tt,ff,ff,tt,tt,ff,ff,ff,ff,ff]
abbrev mkimpl_applies_55 : Array Bool := #[tt,tt,tt,tt,ff,tt,tt,ff,ff,ff,ff,ff]
abbrev mkimpl_applies_56 : Array Bool := #[tt,tt,tt,tt,tt,tt,tt,ff,ff,ff,ff,ff]
abbrev mkimpl_applies_57 : Array Bool := #[tt,tt,tt,tt,tt,tt,tt,ff,ff,ff,tt,ff]
abbrev mkimpl_applies_58 : Array Bool := #[tt,tt,tt,tt,tt,tt,tt,tt,ff,ff,tt,ff]
abbrev mkimpl_applies_59 : Array Bool := #[tt,tt,tt,tt,tt,tt,tt,tt,tt,ff,tt,ff]
abbrev mkimpl_applies_60 : Array Bool := #[tt,tt,tt,tt,tt,tt,tt,tt,tt,tt,tt,ff]
abbrev mkimpl_applies_61 : Array Bool := #[tt,tt,tt,tt,tt,tt,tt,tt,tt,tt,tt,tt]
def impl_applies.f (k : Nat) (l0_0 : List (List Int)) (l0_1 : List (List Int)) (l0_2 : List (List Int)) (l0_3 : List Int) (l1 : List (S107)) (a2 : Int) : Option (Bool) := if (wrap64 (a2 - (l0_0.length : Int))) ≥ 0 then (if (wrap64 ((wrap64 (a2 + (l0_1.length : Int))) + (l0_2.length : Int))) ≤ (l1.length : Int) then (if 0 ≤ (wrap64 (a2 - (l0_0.length : Int))) then (if (wrap64 (a2 - (l0_0.length : Int))) ≤ a2 then (if a2 ≤ (l1.length : Int) then ((impl_inClasses.f k l0_0 ((l1.take (a2 : Int).toNat).drop ((wrap64 (a2 - (l0_0.length : Int))) : Int).toNat)).bind fun t293 => (if t293 = true then (if 0 ≤ a2 then (if a2 ≤ (wrap64 (a2 + (l0_1.length : Int))) then (if (wrap64 (a2 + (l0_1.length : Int))) ≤ (l1.length : Int) then ((impl_inClasses.f k l0_1 ((l1.take ((wrap64 (a2 + (l0_1.length : Int))) : Int).toNat).drop (a2 : Int).toNat)).bind fun t298 => (if t298 = true then (if 0 ≤ (wrap64 (a2 + (l0_1.length : Int))) then (if (wrap64 (a2 + (l0_1.length : Int))) ≤ (wrap64 ((wrap64 (a2 + (l0_1.length : Int))) + (l0_2.length : Int))) then ((impl_inClasses.f k l0_2 ((l1.take ((wrap64 ((wrap64 (a2 + (l0_1.length : Int))) + (l0_2.length : Int))) : Int).toNat).drop ((wrap64 (a2 + (l0_1.length : Int))) : Int).toNat)).bind fun t303 => (some t303)) else (none)) else (none)) else (some false))) else (none)) else (none)) else (none)) else (some false))) else (none)) else (none)) else (none)) else (some false)) else (some false)
theorem impl_applies.mono : ∀ a0 a1 a2 a3 a4 a5 k, LeO (impl_applies.f k a0 a1 a2 a3 a4 a5) (impl_applies.f (k + 1) a0 a1 a2 a3 a4 a5) := by
 intro a0 a1 a2 a3 a4 a5 k
 unfold impl_applies.f
 repeat' first
   | (with_reducible exact impl_inClasses.mono _ _ _)
   | (with_reducible exact LeO.refl _)
   | (with_reducible exact LeO.none _)
   | (with_reducible refine LeO.ite ?_ ?_)
   | (with_reducible refine LeO.bind ?_ (fun _ => ?_))
   | exact impl_inClasses.mono _ _ _
   | exact LeO.none _
   | refine LeO.ite ?_ ?_
   | refine LeO.bind ?_ (fun _ => ?_)
def impl_applies.T1 : Bool × List (List Nat × List Nat) := (true, [([], []), ([], []), ([1], [1]), ([2], [2]), ([0, 3], [0, 3]), ([], []), ([], []), ([6], [6]), ([7], [7]), ([5, 8], [5, 8]), ([4, 0, 1, 2, 3, 4], [4]), ([9, 10, 0, 1, 2, 3, 4, 5, 6, 7, 8, 9, 10], [9])])
def impl_applies.B1 : List Nat := [0, 0, 2, 6, 15, 0, 0, 64, 192, 480, 31, 2047]
theorem impl_applies.tab1 : rtab .any (opsOf Try.f77 1) = impl_applies.T1 := by kernel_rfl
theorem impl_applies.bits1 : waitsOk impl_applies.T1.2 impl_applies.B1 = true := by kernel_rfl
def impl_applies.T3 : Bool × List (List Nat × List Nat) := (true, [([], []), ([0], [0]), ([1], [1]), ([2], [2]), ([2], [2]), ([4, 2], [2, 4]), ([3, 5, 2], [2, 3, 5]), ([2, 6], [2, 6]), ([7, 2], [7]), ([8], [8]), ([9, 8], [8, 9]), ([8], [8]), ([8], [8]), ([8], [8]), ([11, 12, 13, 8], [8, 11, 12, 13]), ([10, 14, 8, 8], [8, 10, 14]), ([8, 15], [8, 15]), ([16, 15], [16]), ([17], [17]), ([18, 17], [17, 18]), ([17], [17]), ([17], [17]), ([17], [17]), ([20, 21, 22, 17], [17, 20, 21, 22]), ([19, 23, 17, 17], [17, 19, 23]), ([17, 24], [17, 24]), ([25, 24], [25]), ([26], [26]), ([27, 26], [26, 27]), ([26], [26]), ([26], [26]), ([26], [26]), ([29, 30, 31, 26], [26, 29, 30, 31]), ([28, 32, 26, 26], [26, 28, 32]), ([26, 33], [26, 33]), ([34, 33, 0, 1, 2, 3, 4, 5, 6, 7, 8, 9, 10, 11, 12, 13, 14, 15, 16, 17, 18, 19, 20, 21, 22, 23, 24, 25, 26, 27, 28, 29, 30, 31, 32, 33, 34], [34])])
def impl_applies.B3 : List Nat := [0, 1, 3, 7, 7, 23, 63, 127, 255, 511, 1023, 511, 511, 511, 14847, 32767, 65535, 131071, 262143, 524287, 262143, 262143, 262143, 7602175, 16777215, 33554431, 67108863, 134217727, 268435455, 134217727, 134217727, 134217727, 3892314111, 8589934591, 17179869183, 34359738367]
theorem impl_applies.tab3 : rtab .any (opsOf Try.f77 3) = impl_applies.T3 := by kernel_rfl
theorem impl_applies.bits3 : waitsOk impl_applies.T3.2 impl_applies.B3 = true := by kernel_rfl
set_option maxHeartbeats 8000000 in
set_option maxRecDepth 100000 in
theorem impl_applies.calls (k : Nat) (A0_0 : Option Addr) (c0_0 : Nat) (l0_0 : List (List Int)) (A0_1 : Option Addr) (c0_1 : Nat) (l0_1 : List (List Int)) (A0_2 : Option Addr) (c0_2 : Nat) (l0_2 : List (List Int)) (A0_3 : Option Addr) (c0_3 : Nat) (l0_3 : List Int) (A1 : Option Addr) (c1 : Nat) (l1 : List (S107)) (a2 : Int) (r : Bool) (w : World) (hr0_0 : Kd.C (Kd.slice 2 (Kd.int .i64)) w A0_0 l0_0.length l0_0) (hc0_0 : l0_0.length ≤ c0_0) (hr0_1 : Kd.C (Kd.slice 2 (Kd.int .i64)) w A0_1 l0_1.length l0_1) (hc0_1 : l0_1.length ≤ c0_1) (hr0_2 : Kd.C (Kd.slice 2 (Kd.int .i64)) w A0_2 l0_2.length l0_2) (hc0_2 : l0_2.length ≤ c0_2) (hr0_3 : Kd.C (Kd.int .i64) w A0_3 l0_3.length l0_3) (hc0_3 : l0_3.length ≤ c0_3) (hr1 : Kd.C k107 w A1 l1.length l1) (hc1 : l1.length ≤ c1) (h : impl_applies.f k l0_0 l0_1 l0_2 l0_3 l1 a2 = some r) :
  Calls Try.prog 77 #[.agg #[.slice A0_0 l0_0.length c0_0, .slice A0_1 l0_1.length c0_1, .slice A0_2 l0_2.length c0_2, .slice A0_3 l0_3.length c0_3], .slice A1 l1.length c1, .int .i64 a2] w fun e w' => e = .returned (.bool r) ∧ Below w.heap.size w w' := by
 have hu38 := Try.underlying38
 have HR0_0 := aM hr0_0
 have HC0_0 := aM hc0_0
 clear hr0_0 hc0_0
 have HR0_1 := aM hr0_1
 have HC0_1 := aM hc0_1
 clear hr0_1 hc0_1
 have HR0_2 := aM hr0_2
 have HC0_2 := aM hc0_2
 clear hr0_2 hc0_2
 have HR0_3 := aM hr0_3
 have HC0_3 := aM hc0_3
 clear hr0_3 hc0_3
 have HR1 := aM hr1
 have HC1 := aM hc1
 clear hr1 hc1
 have HB := aM (Below.refl w.heap.size w)
 have H : (if (wrap64 (a2 - (l0_0.length : Int))) ≥ 0 then (if (wrap64 ((wrap64 (a2 + (l0_1.length : Int))) + (l0_2.length : Int))) ≤ (l1.length : Int) then (if 0 ≤ (wrap64 (a2 - (l0_0.length : Int))) then (if (wrap64 (a2 - (l0_0.length : Int))) ≤ a2 then (if a2 ≤ (l1.length : Int) then ((impl_inClasses.f k l0_0 ((l1.take (a2 : Int).toNat).drop ((wrap64 (a2 - (l0_0.length : Int))) : Int).toNat)).bind fun t293 => (if t293 = true then (if 0 ≤ a2 then (if a2 ≤ (wrap64 (a2 + (l0_1.length : Int))) then (if (wrap64 (a2 + (l0_1.length : Int))) ≤ (l1.length : Int) then ((impl_inClasses.f k l0_1 ((l1.take ((wrap64 (a2 + (l0_1.length : Int))) : Int).toNat).drop (a2 : Int).toNat)).bind fun t298 => (if t298 = true then (if 0 ≤ (wrap64 (a2 + (l0_1.length : Int))) then (if (wrap64 (a2 + (l0_1.length : Int))) ≤ (wrap64 ((wrap64 (a2 + (l0_1.length : Int))) + (l0_2.length : Int))) then ((impl_inClasses.f k l0_2 ((l1.take ((wrap64 ((wrap64 (a2 + (l0_1.length : Int))) + (l0_2.length : Int))) : Int).toNat).drop ((wrap64 (a2 + (l0_1.length : Int))) : Int).toNat)).bind fun t303 => (some t303)) else (none)) else (none)) else (some false))) else (none)) else (none)) else (none)) else (some false))) else (none)) else (none)) else (none)) else (some false)) else (some false)) = some r := h
 clear h
 by_cases c4 : (wrap64 (a2 - (l0_0.length : Int))) ≥ 0
 ·rw [if_pos c4] at H
  have c4b0 : decide (0 ≤ (wrap64 (a2 - (l0_0.length : Int)))) = true := decide_eq_true c4
  clear c4
  by_cases c5 : (wrap64 ((wrap64 (a2 + (l0_1.length : Int))) + (l0_2.length : Int))) ≤ (l1.length : Int)
  ·rw [if_pos c5] at H
   have c5b0 : decide ((wrap64 ((wrap64 (a2 + (l0_1.length : Int))) + (l0_2.length : Int))) ≤ (l1.length : Int)) = true := decide_eq_true c5
   clear c5
   obtain ⟨ji6, hji6⟩ : ∃ j_ : Int, (wrap64 (a2 - (l0_0.length : Int))) = j_ := ⟨_, rfl⟩
   replace H : (if 0 ≤ (ji6) then (if (ji6) ≤ a2 then (if a2 ≤ (l1.length : Int) then ((impl_inClasses.f k l0_0 ((l1.take (a2 : Int).toNat).drop ((ji6) : Int).toNat)).bind fun t293 => (if t293 = true then (if 0 ≤ a2 then (if a2 ≤ (wrap64 (a2 + (l0_1.length : Int))) then (if (wrap64 (a2 + (l0_1.length : Int))) ≤ (l1.length : Int) then ((impl_inClasses.f k l0_1 ((l1.take ((wrap64 (a2 + (l0_1.length : Int))) : Int).toNat).drop (a2 : Int).toNat)).bind fun t298 => (if t298 = true then (if 0 ≤ (wrap64 (a2 + (l0_1.length : Int))) then (if (wrap64 (a2 + (l0_1.length : Int))) ≤ (wrap64 ((wrap64 (a2 + (l0_1.length : Int))) + (l0_2.length : Int))) then ((impl_inClasses.f k l0_2 ((l1.take ((wrap64 ((wrap64 (a2 + (l0_1.length : Int))) + (l0_2.length : Int))) : Int).toNat).drop ((wrap64 (a2 + (l0_1.length : Int))) : Int).toNat)).bind fun t303 => (some t303)) else (none)) else (none)) else (some false))) else (none)) else (none)) else (none)) else (some false))) else (none)) else (none)) else (none)) = some r := by first | (rw [hji6] at H; exact H) | (simp only [hji6] at H ⊢; exact H)
   (try rw [hji6] at c4b0)
   have hji6w : (IntKind.i64.wrap (a2 - (l0_0.length : Int))) = ji6 := (i64_w _).trans hji6
   by_cases c7 : 0 ≤ (ji6)
   ·rw [if_pos c7] at H
    have c7b0 := eq_true c7
    have c7b1 : decide (0 ≤ (ji6)) = true := decide_eq_true c7
    clear c7
    by_cases c8 : (ji6) ≤ a2
    ·rw [if_pos c8] at H
     have c8b0 := eq_true c8
     have c8b1 : decide ((ji6) ≤ a2) = true := decide_eq_true c8
     clear c8
     by_cases c9 : a2 ≤ (l1.length : Int)
     ·rw [if_pos c9] at H
      have c9b0 := eq_true c9
      have c9b1 : decide (a2 ≤ (l1.length : Int)) = true := decide_eq_true c9
      clear c9
      obtain ⟨y289, hy289⟩ : ∃ y_ : List (S107), y_ = ((l1.take (a2 : Int).toNat).drop ((ji6) : Int).toNat) := ⟨_, rfl⟩
      replace H : ((impl_inClasses.f k l0_0 y289).bind fun t293 => (if t293 = true then (if 0 ≤ a2 then (if a2 ≤ (wrap64 (a2 + (l0_1.length : Int))) then (if (wrap64 (a2 + (l0_1.length : Int))) ≤ (l1.length : Int) then ((impl_inClasses.f k l0_1 ((l1.take ((wrap64 (a2 + (l0_1.length : Int))) : Int).toNat).drop (a2 : Int).toNat)).bind fun t298 => (if t298 = true then (if 0 ≤ (wrap64 (a2 + (l0_1.length : Int))) then (if (wrap64 (a2 + (l0_1.length : Int))) ≤ (wrap64 ((wrap64 (a2 + (l0_1.length : Int))) + (l0_2.length : Int))) then ((impl_inClasses.f k l0_2 ((l1.take ((wrap64 ((wrap64 (a2 + (l0_1.length : Int))) + (l0_2.length : Int))) : Int).toNat).drop ((wrap64 (a2 + (l0_1.length : Int))) : Int).toNat)).bind fun t303 => (some t303)) else (none)) else (none)) else (some false))) else (none)) else (none)) else (none)) else (some false))) = some r := by first | (rw [hy289]; with_reducible exact H) | (have H2_ := bS H; rw [hy289]; with_reducible exact H2_) | (have H2_ := bS H; with_reducible exact H2_) | with_reducible exact H | (rw [hy289]; exact H) | exact H
      have Ny289 := aM hy289
      clear hy289
      replace H := Option.bind_eq_some_iff.mp H
      obtain ⟨t293, A100, H⟩ := H
      replace H : (if t293 = true then (if 0 ≤ a2 then (if a2 ≤ (wrap64 (a2 + (l0_1.length : Int))) then (if (wrap64 (a2 + (l0_1.length : Int))) ≤ (l1.length : Int) then ((impl_inClasses.f k l0_1 ((l1.take ((wrap64 (a2 + (l0_1.length : Int))) : Int).toNat).drop (a2 : Int).toNat)).bind fun t298 => (if t298 = true then (if 0 ≤ (wrap64 (a2 + (l0_1.length : Int))) then (if (wrap64 (a2 + (l0_1.length : Int))) ≤ (wrap64 ((wrap64 (a2 + (l0_1.length : Int))) + (l0_2.length : Int))) then ((impl_inClasses.f k l0_2 ((l1.take ((wrap64 ((wrap64 (a2 + (l0_1.length : Int))) + (l0_2.length : Int))) : Int).toNat).drop ((wrap64 (a2 + (l0_1.length : Int))) : Int).toNat)).bind fun t303 => (some t303)) else (none)) else (none)) else (some false))) else (none)) else (none)) else (none)) else (some false)) = some r := H
      have A10 := aM A100
      clear A100
      by_cases c11 : t293 = true
      ·subst c11
       have H1 : (if 0 ≤ a2 then (if a2 ≤ (wrap64 (a2 + (l0_1.length : Int))) then (if (wrap64 (a2 + (l0_1.length : Int))) ≤ (l1.length : Int) then ((impl_inClasses.f k l0_1 ((l1.take ((wrap64 (a2 + (l0_1.length : Int))) : Int).toNat).drop (a2 : Int).toNat)).bind fun t298 => (if t298 = true then (if 0 ≤ (wrap64 (a2 + (l0_1.length : Int))) then (if (wrap64 (a2 + (l0_1.length : Int))) ≤ (wrap64 ((wrap64 (a2 + (l0_1.length : Int))) + (l0_2.length : Int))) then ((impl_inClasses.f k l0_2 ((l1.take ((wrap64 ((wrap64 (a2 + (l0_1.length : Int))) + (l0_2.length : Int))) : Int).toNat).drop ((wrap64 (a2 + (l0_1.length : Int))) : Int).toNat)).bind fun t303 => (some t303)) else (none)) else (none)) else (some false))) else (none)) else (none)) else (none)) = some r := by rw [if_pos rfl] at H; exact H
       clear H
       have H := H1
       clear H1
       by_cases c12 : 0 ≤ a2
       ·rw [if_pos c12] at H
        have c12b0 := eq_true c12
        have c12b1 : decide (0 ≤ a2) = true := decide_eq_true c12
        clear c12
        by_cases c13 : a2 ≤ (wrap64 (a2 + (l0_1.length : Int)))
        ·rw [if_pos c13] at H
         have c13b0 := eq_true c13
         have c13b1 : decide (a2 ≤ (wrap64 (a2 + (l0_1.length : Int)))) = true := decide_eq_true c13
         by_cases c14 : (wrap64 (a2 + (l0_1.length : Int))) ≤ (l1.length : Int)
         ·rw [if_pos c14] at H
          have c14b0 := eq_true c14
          have c14b1 : decide ((wrap64 (a2 + (l0_1.length : Int))) ≤ (l1.length : Int)) = true := decide_eq_true c14
          obtain ⟨y294, hy294⟩ : ∃ y_ : List (S107), y_ = ((l1.take ((wrap64 (a2 + (l0_1.length : Int))) : Int).toNat).drop (a2 : Int).toNat) := ⟨_, rfl⟩
          replace H : ((impl_inClasses.f k l0_1 y294).bind fun t298 => (if t298 = true then (if 0 ≤ (wrap64 (a2 + (l0_1.length : Int))) then (if (wrap64 (a2 + (l0_1.length : Int))) ≤ (wrap64 ((wrap64 (a2 + (l0_1.length : Int))) + (l0_2.length : Int))) then ((impl_inClasses.f k l0_2 ((l1.take ((wrap64 ((wrap64 (a2 + (l0_1.length : Int))) + (l0_2.length : Int))) : Int).toNat).drop ((wrap64 (a2 + (l0_1.length : Int))) : Int).toNat)).bind fun t303 => (some t303)) else (none)) else (none)) else (some false))) = some r := by first | (rw [hy294]; with_reducible exact H) | (have H2_ := bS H; rw [hy294]; with_reducible exact H2_) | (have H2_ := bS H; with_reducible exact H2_) | with_reducible exact H | (rw [hy294]; exact H) | exact H
          have Ny294 := aM hy294
          clear hy294
          replace H := Option.bind_eq_some_iff.mp H
          obtain ⟨t298, A150, H⟩ := H
          replace H : (if t298 = true then (if 0 ≤ (wrap64 (a2 + (l0_1.length : Int))) then (if (wrap64 (a2 + (l0_1.length : Int))) ≤ (wrap64 ((wrap64 (a2 + (l0_1.length : Int))) + (l0_2.length : Int))) then ((impl_inClasses.f k l0_2 ((l1.take ((wrap64 ((wrap64 (a2 + (l0_1.length : Int))) + (l0_2.length : Int))) : Int).toNat).drop ((wrap64 (a2 + (l0_1.length : Int))) : Int).toNat)).bind fun t303 => (some t303)) else (none)) else (none)) else (some false)) = some r := H
          have A15 := aM A150
          clear A150
          by_cases c16 : t298 = true
          ·subst c16
           have H1 : (if 0 ≤ (wrap64 (a2 + (l0_1.length : Int))) then (if (wrap64 (a2 + (l0_1.length : Int))) ≤ (wrap64 ((wrap64 (a2 + (l0_1.length : Int))) + (l0_2.length : Int))) then ((impl_inClasses.f k l0_2 ((l1.take ((wrap64 ((wrap64 (a2 + (l0_1.length : Int))) + (l0_2.length : Int))) : Int).toNat).drop ((wrap64 (a2 + (l0_1.length : Int))) : Int).toNat)).bind fun t303 => (some t303)) else (none)) else (none)) = some r := by rw [if_pos rfl] at H; exact H
           clear H
           have H := H1
           clear H1
           obtain ⟨ji17, hji17⟩ : ∃ j_ : Int, (wrap64 (a2 + (l0_1.length : Int))) = j_ := ⟨_, rfl⟩
           replace H : (if 0 ≤ (ji17) then (if (ji17) ≤ (wrap64 ((ji17) + (l0_2.length : Int))) then ((impl_inClasses.f k l0_2 ((l1.take ((wrap64 ((ji17) + (l0_2.length : Int))) : Int).toNat).drop ((ji17) : Int).toNat)).bind fun t303 => (some t303)) else (none)) else (none)) = some r := by first | (rw [hji17] at H; exact H) | (simp only [hji17] at H ⊢; exact H)
           (try rw [hji17] at c5b0)
           (try rw [hji17] at c13b0)
           (try rw [hji17] at c13b1)
           (try rw [hji17] at c13)
           (try rw [hji17] at c14b0)
           (try rw [hji17] at c14b1)
           (try rw [hji17] at c14)
           (try rw [hji17] at A10)
           (try rw [hji17] at Ny294)
           (try rw [hji17] at A15)
           have hji17w : (IntKind.i64.wrap (a2 + (l0_1.length : Int))) = ji17 := (i64_w _).trans hji17
           by_cases c18 : 0 ≤ (ji17)
           ·rw [if_pos c18] at H
            have c18b0 := eq_true c18
            have c18b1 : decide (0 ≤ (ji17)) = true := decide_eq_true c18
            clear c18
            by_cases c19 : (ji17) ≤ (wrap64 ((ji17) + (l0_2.length : Int)))
            ·rw [if_pos c19] at H
             have c19b0 := eq_true c19
             have c19b1 : decide ((ji17) ≤ (wrap64 ((ji17) + (l0_2.length : Int)))) = true := decide_eq_true c19
             have c20b0 := eq_true (dA : (wrap64 ((ji17) + (l0_2.length : Int))) ≤ (l1.length : Int))
             obtain ⟨y299, hy299⟩ : ∃ y_ : List (S107), y_ = ((l1.take ((wrap64 ((ji17) + (l0_2.length : Int))) : Int).toNat).drop ((ji17) : Int).toNat) := ⟨_, rfl⟩
             replace H : ((impl_inClasses.f k l0_2 y299).bind fun t303 => (some t303)) = some r := by first | (rw [hy299]; with_reducible exact H) | (have H2_ := bS H; rw [hy299]; with_reducible exact H2_) | (have H2_ := bS H; with_reducible exact H2_) | with_reducible exact H | (rw [hy299]; exact H) | exact H
             have Ny299 := aM hy299
             clear hy299
             replace H := Option.bind_eq_some_iff.mp H
             obtain ⟨t303, A210, H⟩ := H
             replace H : (some t303) = some r := H
             have A21 := aM A210
             clear A210
             obtain rfl := Option.some.inj H
             go_enter Try.func77, Try.ntmps77
             try go_wp2_with (first | ((with_reducible refine gate_dst (N := 3) rfl ?_); (try (refine gate_guard (by rfl) ?_; dsimp only)); refine box_event ?hg (N := 3) ?hd (cs := #[.slice A0_0 l0_0.length c0_0, .slice A0_1 l0_1.length c0_1, .slice A0_2 l0_2.length c0_2, .slice A0_3 l0_3.length c0_3]) (t := 38) ?hr ?_; (case hd => rfl); (case hg => rfl); (case hr => first | (go_simp; done) | (go_simp; rfl)); intro gb288 hg w22 hbox hb; have n0_ := aM (below_step bQ hb); have n1_ := aM (hbox); have n2_ := aM ((by rw [hg]; exact (below_size bQ) : w.heap.size ≤ gb288)); have n3_ := aM ((by rw [hg]; exact (below_size bQ) : w.heap.size ≤ gb288)); clear HB; have HB := n0_; have BK288 := n1_; have GW288 := n2_; have GE288 := n3_; clear n0_ n1_ n2_ n3_; clear hb hbox hg))
             have n0_ := aM (blk_drew BK288.out)
             have n1_ := aM (below_drew1 HB.out)
             clear BK288
             clear HB
             have BK288 := n0_
             have HB := n1_
             clear n0_ n1_
             refine start_ (n := 12) (S := fun w' => w'.cell? ⟨gb288, 0, none⟩ = some (.slice A0_0 l0_0.length c0_0) ∧ w'.cell? ⟨gb288, 1, none⟩ = some (.slice A0_1 l0_1.length c0_1) ∧ w'.cell? ⟨gb288, 2, none⟩ = some (.slice A0_2 l0_2.length c0_2) ∧ w'.cell? ⟨gb288, 3, none⟩ = some (.slice A0_3 l0_3.length c0_3)) (ds := []) mkimpl_applies_49 (by kernel_rfl) rfl rfl ⟨(blk_cell BK288.out 0).trans rfl, (blk_cell BK288.out 1).trans rfl, (blk_cell BK288.out 2).trans rfl, (blk_cell BK288.out 3).trans rfl⟩ (fun hHeld => ?_); refine with_tabW impl_applies.tab1 impl_applies.bits1 (fun HT_ HW_ => ?_)
             generalize w22.drew = w23 at BK288 HB hHeld ⊢
             refine pure_ (i := 0) (N := some 10) (v := ?_) (a' := ?_) mkimpl_applies_50 rfl rfl (any_of HT_.out (by kernel_rfl)) (fun _ _ _ h => h) (Or.inl ⟨by rfl, ?_⟩) ?_ ?_
             rotate_left
             ·intro w'
              go_simp
              with_reducible rfl
             rotate_left
             ·simp only [Act.put, sI, sZ, sS, i64_w, i32_w]
              rfl
             refine pure_ (i := 1) (N := some 11) (v := ?_) (a' := ?_) mkimpl_applies_51 rfl rfl (any_of HT_.out (by kernel_rfl)) (fun _ _ _ h => h) (Or.inl ⟨by rfl, ?_⟩) ?_ ?_
             rotate_left
             ·intro w'
              go_simp
              with_reducible rfl
             rotate_left
             ·simp only [Act.put, sI, sZ, sS, i64_w, i32_w]
              rfl
             refine pure_ (i := 5) (N := some 15) (v := ?_) (a' := ?_) mkimpl_applies_52 rfl rfl (any_of HT_.out (by kernel_rfl)) (fun _ _ _ h => h) (Or.inl ⟨by rfl, ?_⟩) ?_ ?_
             rotate_left
             ·intro w'
              go_simp
              with_reducible rfl
             rotate_left
             ·simp only [Act.put, sI, sZ, sS, i64_w, i32_w]
              rfl
             refine pure_ (i := 6) (N := some 16) (v := ?_) (a' := ?_) mkimpl_applies_53 rfl rfl (any_of HT_.out (by kernel_rfl)) (fun _ _ _ h => h) (Or.inl ⟨by rfl, ?_⟩) ?_ ?_
             rotate_left
             ·intro w'
              go_simp
              with_reducible rfl
             rotate_left
             ·simp only [Act.put, sI, sZ, sS, i64_w, i32_w]
              rfl
             refine take_ (i := 2) (N := some 12) (v := ?_) (a' := ?_) mkimpl_applies_54 rfl rfl (take_ofW HT_.out HW_.out (by kernel_rfl)) (fun _ _ _ h => h) (Or.inl ⟨by rfl, ?_⟩) hHeld ?_ ?_
             rotate_left
             ·rintro w' ⟨s0, s1, s2, s3⟩
              go_simp
              with_reducible rfl
             rotate_left
             ·simp only [Act.put, sI, sZ, sS, i64_w, i32_w]
              rfl
             refine pure_ (i := 3) (N := some 13) (v := ?_) (a' := ?_) mkimpl_applies_55 rfl rfl (any_of HT_.out (by kernel_rfl)) (fun _ _ _ h => h) (Or.inl ⟨by rfl, ?_⟩) ?_ ?_
             rotate_left
             ·intro w'
              go_simp
              with_reducible rfl
             rotate_left
             ·simp only [Act.put, sI, sZ, sS, i64_w, i32_w]
              rfl
             refine pure_ (i := 4) (N := some 14) (v := ?_) (a' := ?_) mkimpl_applies_56 rfl rfl (any_of HT_.out (by kernel_rfl)) (fun _ _ _ h => h) (Or.inl ⟨by rfl, ?_⟩) ?_ ?_
             rotate_left
             ·intro w'
              go_simp
              with_reducible rfl
             rotate_left
             ·simp only [Act.put, sI, sZ, sS, i64_w, i32_w]
              rfl
             refine pure_ (i := 10) (N := some 7) (v := ?_) (a' := ?_) mkimpl_applies_57 rfl rfl (any_of HT_.out (by kernel_rfl)) (fun _ _ _ h => h) (Or.inl ⟨by rfl, ?_⟩) ?_ ?_
             rotate_left
             ·intro w'
              go_simp
              with_reducible rfl
             rotate_left
             ·simp only [Act.put, sI, sZ, sS, i64_w, i32_w]
              rfl
             refine take_ (i := 7) (N := some 17) (v := ?_) (a' := ?_) mkimpl_applies_58 rfl rfl (take_ofW HT_.out HW_.out (by kernel_rfl)) (fun _ _ _ h => h) (Or.inl ⟨by rfl, ?_⟩) hHeld ?_ ?_
             rotate_left
             ·rintro w' ⟨s0, s1, s2, s3⟩
              go_simp
              with_reducible rfl
             rotate_left
             ·simp only [Act.put, sI, sZ, sS, i64_w, i32_w]
              rfl
             refine pure_ (i := 8) (N := some 18) (v := ?_) (a' := ?_) mkimpl_applies_59 rfl rfl (any_of HT_.out (by kernel_rfl)) (fun _ _ _ h => h) (Or.inl ⟨by rfl, ?_⟩) ?_ ?_
             rotate_left
             ·intro w'
              go_simp
              with_reducible rfl
             rotate_left
             ·simp only [Act.put, sI, sZ, sS, i64_w, i32_w]
              rfl
             refine pure_ (i := 9) (N := some 19) (v := ?_) (a' := ?_) mkimpl_applies_60 rfl rfl (any_of HT_.out (by kernel_rfl)) (fun _ _ _ h => h) (Or.inl ⟨by rfl, ?_⟩) ?_ ?_
             rotate_left
             ·intro w'
              go_simp
              with_reducible rfl
             rotate_left
             ·simp only [Act.put, sI, sZ, sS, i64_w, i32_w]
              rfl
             refine pure_ (i := 11) (N := some 8) (v := ?_) (a' := ?_) mkimpl_applies_61 rfl rfl (any_of HT_.out (by kernel_rfl)) (fun _ _ _ h => h) (Or.inl ⟨by rfl, ?_⟩) ?_ ?_
             rotate_left
             ·intro w'
              go_simp
              with_reducible rfl
             rotate_left
             ·simp only [Act.put, sI, sZ, sS, i64_w, i32_w]
              rfl
             refine done_ (done_of HT_.out (by kernel_rfl)) ?_
             have hcz24_0 : w23.cell? ⟨gb288, 0, none⟩ = some (.slice A0_0 l0_0.length c0_0) := (blk_cell BK288.out 0).trans rfl
             have hcz24_1 : w23.cell? ⟨gb288, 1, none⟩ = some (.slice A0_1 l0_1.length c0_1) := (blk_cell BK288.out 1).trans rfl
             have hcz24_2 : w23.cell? ⟨gb288, 2, none⟩ = some (.slice A0_2 l0_2.length c0_2) := (blk_cell BK288.out 2).trans rfl
             have hcz24_3 : w23.cell? ⟨gb288, 3, none⟩ = some (.slice A0_3 l0_3.length c0_3) := (blk_cell BK288.out 3).trans rfl
             have hfz24_0 := blk_frozen BK288.out 0
             have hfz24_1 := blk_frozen BK288.out 1
             have hfz24_2 := blk_frozen BK288.out 2
             have hfz24_3 := blk_frozen BK288.out 3
             try go_wp2
             have n0_ := aM (blk_drew BK288.out)
             have n1_ := aM (below_drew1 HB.out)
             clear BK288
             clear HB
             have BK288 := n0_
             have HB := n1_
             clear n0_ n1_
             have q26 : (a2 : Int) ≤ ((l1.length : Int) : Int) := dA
             obtain ⟨i026, hi026, _, hsz26, _⟩ := info_parts info107
             have hroom26 : l1.length ≤ c1 := HC1.out
             have hC26 : Kd.C k107 _ A1 l1.length l1 := HR1.out
             have ql26 : ((ji6) : Int) ≤ (a2 : Int) := dA
             have q026 : (0 : Int) ≤ ((ji6) : Int) := dA
             have hcut26 := cut_mid (P := Try.prog) 45 107 .i64 .i64 Try.underlying45 hi026 3 hsz26 A1 l1.length c1 (ji6) a2 q026 ql26 q26 hroom26
             have hr26 := Kd.C_mid (lo := ((ji6) : Int).toNat) (hi := (a2 : Int).toNat) (c := c1) hC26 (by omega) (by omega) hroom26
             obtain ⟨A26, hA26⟩ : ∃ A_, A_ = (if c1 = ((ji6) : Int).toNat then A1 else (A1 : Option Addr).map (·.add (((ji6) : Int).toNat * 3))) := ⟨_, rfl⟩
             obtain ⟨c26, hc26⟩ : ∃ c_, c_ = c1 - ((ji6) : Int).toNat := ⟨_, rfl⟩
             have hy26 : y289.length = (a2 : Int).toNat - ((ji6) : Int).toNat := (by rw [Ny289.out, List.length_drop, List.length_take] <;> omega)
             rw [show ((l1).take (a2 : Int).toNat).drop ((ji6) : Int).toNat = y289 from Ny289.out.symm] at hr26
             replace hr26 : Kd.C k107 _ A26 y289.length y289 := (by rw [hA26]; exact hr26)
             rw [← hy26, ← hA26, ← hc26] at hcut26
             have HR292 := aM hr26
             have HC292 := aM (show y289.length ≤ c26 from by rw [hy26, hc26]; exact Nat.sub_le_sub_right (Nat.le_trans (by omega) hroom26) _)
             clear hr26 hC26 hroom26 hi026 hsz26 hc26
             have KY26 := aM hy26
             have KA26 := aM hA26
             clear hy26 hA26
             replace q26 := eq_true q26
             refine start_ (n := 36) (S := fun w' => w'.cell? ⟨gb288, 0, none⟩ = some (.slice A0_0 l0_0.length c0_0) ∧ w'.cell? ⟨gb288, 1, none⟩ = some (.slice A0_1 l0_1.length c0_1) ∧ w'.cell? ⟨gb288, 2, none⟩ = some (.slice A0_2 l0_2.length c0_2) ∧ w'.cell? ⟨gb288, 3, none⟩ = some (.slice A0_3 l0_3.length c0_3)) (ds := []) mkimpl_applies_0 (by kernel_rfl) rfl rfl ⟨(blk_cell BK288.out 0).trans rfl, (blk_cell BK288.out 1).trans rfl, (blk_cell BK288.out 2).trans rfl, (blk_cell BK288.out 3).trans rfl⟩ (fun hHeld => ?_); refine with_tabW impl_applies.tab3 impl_applies.bits3 (fun HT_ HW_ => ?_)
             generalize w23.drew = w25 at BK288 HB HR292 hHeld ⊢
             refine pure_ (i := 0) (N := some 25) (v := ?_) (a' := ?_) mkimpl_applies_1 rfl rfl (any_of HT_.out (by kernel_rfl)) (fun _ _ _ h => h) (Or.inl ⟨by rfl, ?_⟩) ?_ ?_
             rotate_left
             ·intro w'
              go_simp
              with_reducible rfl
             rotate_left
             ·simp only [Act.put, sI, sZ, sS, i64_w, i32_w]
              rfl
             refine pure_ (i := 1) (N := some 26) (v := ?_) (a' := ?_) mkimpl_applies_2 rfl rfl (any_of HT_.out (by kernel_rfl)) (fun _ _ _ h => h) (Or.inl ⟨by rfl, ?_⟩) ?_ ?_
             rotate_left
             ·intro w'
              go_simp
              with_reducible rfl
             rotate_left
             ·simp only [Act.put, sI, sZ, sS, i64_w, i32_w]
              rfl
             refine pure_ (i := 2) (N := some 27) (v := ?_) (a' := ?_) mkimpl_applies_3 rfl rfl (any_of HT_.out (by kernel_rfl)) (fun _ _ _ h => h) (Or.inl ⟨by rfl, ?_⟩) ?_ ?_
             rotate_left
             ·intro w'
              go_simp
              with_reducible rfl
             rotate_left
             ·simp only [Act.put, sI, sZ, sS, i64_w, i32_w]
              rfl
             refine pure_ (i := 3) (N := some 28) (v := ?_) (a' := ?_) mkimpl_applies_4 rfl rfl (any_of HT_.out (by kernel_rfl)) (fun _ _ _ h => h) (Or.inl ⟨by rfl, ?_⟩) ?_ ?_
             rotate_left
             ·intro w'
              go_simp
              with_reducible rfl
             rotate_left
             ·simp only [Act.put, sI, sZ, sS, i64_w, i32_w]
              rfl
             refine pure_ (i := 4) (N := some 29) (v := ?_) (a' := ?_) mkimpl_applies_5 rfl rfl (any_of HT_.out (by kernel_rfl)) (fun _ _ _ h => h) (Or.inl ⟨by rfl, ?_⟩) ?_ ?_
             rotate_left
             ·intro w'
              go_simp
              with_reducible rfl
             rotate_left
             ·simp only [Act.put, sI, sZ, sS, i64_w, i32_w]
              rfl
             refine pure_ (i := 5) (N := some 30) (v := ?_) (a' := ?_) mkimpl_applies_6 rfl rfl (any_of HT_.out (by kernel_rfl)) (fun _ _ _ h => h) (Or.inl ⟨by rfl, ?_⟩) ?_ ?_
             rotate_left
             ·intro w'
              go_simp
              with_reducible rfl
             rotate_left
             ·simp only [Act.put, sI, sZ, sS, i64_w, i32_w]
              rfl
             refine pure_ (i := 6) (N := some 31) (v := ?_) (a' := ?_) mkimpl_applies_7 rfl rfl (any_of HT_.out (by kernel_rfl)) (fun _ _ _ h => h) (Or.inl ⟨by rfl, ?_⟩) ?_ ?_
             rotate_left
             ·intro w'
              go_simp
              with_reducible rfl
             rotate_left
             ·simp only [Act.put, sI, sZ, sS, i64_w, i32_w]
              rfl
             refine pure_ (i := 7) (N := some 32) (v := ?_) (a' := ?_) mkimpl_applies_8 rfl rfl (any_of HT_.out (by kernel_rfl)) (fun _ _ _ h => h) (Or.inl ⟨by rfl, ?_⟩) ?_ ?_
             rotate_left
             ·intro w'
              go_simp
              with_reducible rfl
             rotate_left
             ·simp only [Act.put, sI, sZ, sS, i64_w, i32_w]
              rfl
             refine pure_ (i := 8) (N := some 33) (v := ?_) (a' := ?_) mkimpl_applies_9 rfl rfl (any_of HT_.out (by kernel_rfl)) (fun _ _ _ h => h) (Or.inl ⟨by rfl, ?_⟩) ?_ ?_
             rotate_left
             ·intro w'
              go_simp
              with_reducible rfl
             rotate_left
             ·simp only [Act.put, sI, sZ, sS, i64_w, i32_w]
              rfl
             refine pure_ (i := 9) (N := some 34) (v := ?_) (a' := ?_) mkimpl_applies_10 rfl rfl (any_of HT_.out (by kernel_rfl)) (fun _ _ _ h => h) (Or.inl ⟨by rfl, ?_⟩) ?_ ?_
             rotate_left
             ·intro w'
              go_simp
              with_reducible rfl
             rotate_left
             ·simp only [Act.put, sI, sZ, sS, i64_w, i32_w]
              rfl
             refine pure_ (i := 11) (N := some 36) (v := ?_) (a' := ?_) mkimpl_applies_11 rfl rfl (any_of HT_.out (by kernel_rfl)) (fun _ _ _ h => h) (Or.inl ⟨by rfl, ?_⟩) ?_ ?_
             rotate_left
             ·intro w'
              go_simp
              with_reducible rfl
             rotate_left
             ·simp only [Act.put, sI, sZ, sS, i64_w, i32_w]
              rfl
             refine pure_ (i := 12) (N := some 37) (v := ?_) (a' := ?_) mkimpl_applies_13 rfl rfl (any_of HT_.out (by kernel_rfl)) (fun _ _ _ h => h) (Or.inl ⟨by rfl, ?_⟩) ?_ ?_
             rotate_left
             ·intro w'
              go_simp
              with_reducible rfl
             rotate_left
             ·simp only [Act.put, sI, sZ, sS, i64_w, i32_w]
              rfl
             refine pure_ (i := 13) (N := some 38) (v := ?_) (a' := ?_) mkimpl_applies_15 rfl rfl (any_of HT_.out (by kernel_rfl)) (fun _ _ _ h => h) (Or.inl ⟨by rfl, ?_⟩) ?_ ?_
             rotate_left
             ·intro w'
              go_simp
              with_reducible rfl
             rotate_left
             ·simp only [Act.put, sI, sZ, sS, i64_w, i32_w]
              rfl
             refine pure_ (i := 14) (N := some 39) (v := ?_) (a' := ?_) mkimpl_applies_17 rfl rfl (any_of HT_.out (by kernel_rfl)) (fun _ _ _ h => h) (Or.inl ⟨by rfl, ?_⟩) ?_ ?_
             rotate_left
             ·intro w'
              go_simp
              with_reducible rfl
             rotate_left
             ·simp only [Act.put, sI, sZ, sS, i64_w, i32_w]
              rfl
             refine take_ (i := 10) (N := some 35) (v := ?_) (a' := ?_) mkimpl_applies_19 rfl rfl (take_ofW HT_.out HW_.out (by kernel_rfl)) (fun _ _ _ h => h) (Or.inl ⟨by rfl, ?_⟩) hHeld ?_ ?_
             rotate_left
             ·rintro w' ⟨s0, s1, s2, s3⟩
              go_simp
              with_reducible rfl
             rotate_left
             ·simp only [Act.put, sI, sZ, sS, i64_w, i32_w]
              rfl
             refine one_ (i := 15) (N := some 40) mkimpl_applies_20 rfl rfl (one_of HT_.out (by kernel_rfl)) (by decide) (fun K hK => ?_)
             refine goes_ Try.func139 (by kernel_rfl) rfl #[.slice A0_0 l0_0.length c0_0, .slice A26 y289.length c26] (by rfl) rfl rfl gQ ?_
             with_reducible refine (impl_inClasses.calls k _ _ l0_0 _ _ y289 true _ ?side1 ?side2 ?side3 ?side4 A10.out).mono ?_
             (case side1 => exact cQ HR0_0.out)
             (case side2 => exact HC0_0.out)
             (case side3 => exact cQ HR292.out)
             (case side4 => exact HC292.out)
             rintro e w' ⟨rfl, ⟨nd, rfl⟩⟩
             refine ⟨_, rfl, ?_⟩
             have q27 : ((ji17) : Int) ≤ ((l1.length : Int) : Int) := dA
             obtain ⟨i027, hi027, _, hsz27, _⟩ := info_parts info107
             have hroom27 : l1.length ≤ c1 := HC1.out
             have hC27 : Kd.C k107 _ A1 l1.length l1 := HR1.out
             have ql27 : (a2 : Int) ≤ ((ji17) : Int) := dA
             have q027 : (0 : Int) ≤ (a2 : Int) := dA
             have hcut27 := cut_mid (P := Try.prog) 45 107 .i64 .i64 Try.underlying45 hi027 3 hsz27 A1 l1.length c1 a2 (ji17) q027 ql27 q27 hroom27
             have hr27 := Kd.C_mid (lo := (a2 : Int).toNat) (hi := ((ji17) : Int).toNat) (c := c1) hC27 (by omega) (by omega) hroom27
             obtain ⟨A27, hA27⟩ : ∃ A_, A_ = (if c1 = (a2 : Int).toNat then A1 else (A1 : Option Addr).map (·.add ((a2 : Int).toNat * 3))) := ⟨_, rfl⟩
             obtain ⟨c27, hc27⟩ : ∃ c_, c_ = c1 - (a2 : Int).toNat := ⟨_, rfl⟩
             have hy27 : y294.length = ((ji17) : Int).toNat - (a2 : Int).toNat := (by rw [Ny294.out, List.length_drop, List.length_take] <;> omega)
             rw [show ((l1).take ((ji17) : Int).toNat).drop (a2 : Int).toNat = y294 from Ny294.out.symm] at hr27
             replace hr27 : Kd.C k107 _ A27 y294.length y294 := (by rw [hA27]; exact hr27)
             rw [← hy27, ← hA27, ← hc27] at hcut27
             have HR297 := aM hr27
             have HC297 := aM (show y294.length ≤ c27 from by rw [hy27, hc27]; exact Nat.sub_le_sub_right (Nat.le_trans (by omega) hroom27) _)
             clear hr27 hC27 hroom27 hi027 hsz27 hc27
             have KY27 := aM hy27
             have KA27 := aM hA27
             clear hy27 hA27
             replace q27 := eq_true q27
             refine hK.out _ _ ⟨(blk_cell BK288.out 0).trans rfl, (blk_cell BK288.out 1).trans rfl, (blk_cell BK288.out 2).trans rfl, (blk_cell BK288.out 3).trans rfl⟩ (fun hHeld => ?_)
             clear hK K
             refine norm_ (a' := ?_) ?_ ?_
             rotate_left
             ·show Act.put _ (some 40) _ = _
              simp only [Act.put, sI, sZ, sS, i64_w, i32_w]
              rfl
             refine pure_ (i := 16) (N := some 41) (v := ?_) (a' := ?_) mkimpl_applies_21 rfl rfl (any_of HT_.out (by kernel_rfl)) (fun _ _ _ h => h) (Or.inl ⟨by rfl, ?_⟩) ?_ ?_
             rotate_left
             ·intro w'
              go_simp
              with_reducible rfl
             rotate_left
             ·simp only [Act.put, sI, sZ, sS, i64_w, i32_w]
              rfl
             refine pure_ (i := 17) (N := some 42) (v := ?_) (a' := ?_) mkimpl_applies_22 rfl rfl (any_of HT_.out (by kernel_rfl)) (fun _ _ _ h => h) (Or.inl ⟨by rfl, ?_⟩) ?_ ?_
             rotate_left
             ·intro w'
              go_simp
              with_reducible rfl
             rotate_left
             ·simp only [Act.put, sI, sZ, sS, i64_w, i32_w]
              rfl
             refine pure_ (i := 18) (N := some 43) (v := ?_) (a' := ?_) mkimpl_applies_23 rfl rfl (any_of HT_.out (by kernel_rfl)) (fun _ _ _ h => h) (Or.inl ⟨by rfl, ?_⟩) ?_ ?_
             rotate_left
             ·intro w'
              go_simp
              with_reducible rfl
             rotate_left
             ·simp only [Act.put, sI, sZ, sS, i64_w, i32_w]
              rfl
             refine pure_ (i := 20) (N := some 45) (v := ?_) (a' := ?_) mkimpl_applies_24 rfl rfl (any_of HT_.out (by kernel_rfl)) (fun _ _ _ h => h) (Or.inl ⟨by rfl, ?_⟩) ?_ ?_
             rotate_left
             ·intro w'
              go_simp
              with_reducible rfl
             rotate_left
             ·simp only [Act.put, sI, sZ, sS, i64_w, i32_w]
              rfl
             refine pure_ (i := 21) (N := some 46) (v := ?_) (a' := ?_) mkimpl_applies_26 rfl rfl (any_of HT_.out (by kernel_rfl)) (fun _ _ _ h => h) (Or.inl ⟨by rfl, ?_⟩) ?_ ?_
             rotate_left
             ·intro w'
              go_simp
              with_reducible rfl
             rotate_left
             ·simp only [Act.put, sI, sZ, sS, i64_w, i32_w]
              rfl
             refine pure_ (i := 22) (N := some 47) (v := ?_) (a' := ?_) mkimpl_applies_28 rfl rfl (any_of HT_.out (by kernel_rfl)) (fun _ _ _ h => h) (Or.inl ⟨by rfl, ?_⟩) ?_ ?_
             rotate_left
             ·intro w'
              go_simp
              with_reducible rfl
             rotate_left
             ·simp only [Act.put, sI, sZ, sS, i64_w, i32_w]
              rfl
             refine pure_ (i := 23) (N := some 48) (v := ?_) (a' := ?_) mkimpl_applies_30 rfl rfl (any_of HT_.out (by kernel_rfl)) (fun _ _ _ h => h) (Or.inl ⟨by rfl, ?_⟩) ?_ ?_
             rotate_left
             ·intro w'
              go_simp
              with_reducible rfl
             rotate_left
             ·simp only [Act.put, sI, sZ, sS, i64_w, i32_w]
              rfl
             refine take_ (i := 19) (N := some 44) (v := ?_) (a' := ?_) mkimpl_applies_32 rfl rfl (take_ofW HT_.out HW_.out (by kernel_rfl)) (fun _ _ _ h => h) (Or.inl ⟨by rfl, ?_⟩) hHeld ?_ ?_
             rotate_left
             ·rintro w' ⟨s0, s1, s2, s3⟩
              go_simp
              with_reducible rfl
             rotate_left
             ·simp only [Act.put, sI, sZ, sS, i64_w, i32_w]
              rfl
             refine one_ (i := 24) (N := some 49) mkimpl_applies_33 rfl rfl (one_of HT_.out (by kernel_rfl)) (by decide) (fun K hK => ?_)
             refine goes_ Try.func139 (by kernel_rfl) rfl #[.slice A0_1 l0_1.length c0_1, .slice A27 y294.length c27] (by rfl) rfl rfl gQ ?_
             with_reducible refine (impl_inClasses.calls k _ _ l0_1 _ _ y294 true _ ?side1 ?side2 ?side3 ?side4 A15.out).mono ?_
             (case side1 => repeat (first | exact (Kd.C_below HR0_1.out (by repeat (first | (with_reducible first | exact HB.out | apply bA | apply bN | apply bD | refine below_set ?_ GE288.out) | exact HB.out))) | (with_reducible first | refine cA ?_ _ | refine cN ?_ _ | refine cD ?_)))
             (case side2 => exact HC0_1.out)
             (case side3 => repeat (first | exact (Kd.C_below HR297.out (by repeat (first | (with_reducible first | exact HB.out | apply bA | apply bN | apply bD | refine below_set ?_ GE288.out) | exact HB.out))) | (with_reducible first | refine cA ?_ _ | refine cN ?_ _ | refine cD ?_)))
             (case side4 => exact HC297.out)
             rintro e w' ⟨rfl, ⟨nd, rfl⟩⟩
             refine ⟨_, rfl, ?_⟩
             have q28 : ((wrap64 ((ji17) + (l0_2.length : Int))) : Int) ≤ ((l1.length : Int) : Int) := dA
             obtain ⟨i028, hi028, _, hsz28, _⟩ := info_parts info107
             have hroom28 : l1.length ≤ c1 := HC1.out
             have hC28 : Kd.C k107 _ A1 l1.length l1 := HR1.out
             have ql28 : ((ji17) : Int) ≤ ((wrap64 ((ji17) + (l0_2.length : Int))) : Int) := dA
             have q028 : (0 : Int) ≤ ((ji17) : Int) := dA
             have hcut28 := cut_mid (P := Try.prog) 45 107 .i64 .i64 Try.underlying45 hi028 3 hsz28 A1 l1.length c1 (ji17) (wrap64 ((ji17) + (l0_2.length : Int))) q028 ql28 q28 hroom28
             have hr28 := Kd.C_mid (lo := ((ji17) : Int).toNat) (hi := ((wrap64 ((ji17) + (l0_2.length : Int))) : Int).toNat) (c := c1) hC28 (by omega) (by omega) hroom28
             obtain ⟨A28, hA28⟩ : ∃ A_, A_ = (if c1 = ((ji17) : Int).toNat then A1 else (A1 : Option Addr).map (·.add (((ji17) : Int).toNat * 3))) := ⟨_, rfl⟩
             obtain ⟨c28, hc28⟩ : ∃ c_, c_ = c1 - ((ji17) : Int).toNat := ⟨_, rfl⟩
             have hy28 : y299.length = ((wrap64 ((ji17) + (l0_2.length : Int))) : Int).toNat - ((ji17) : Int).toNat := (by rw [Ny299.out, List.length_drop, List.length_take] <;> omega)
             rw [show ((l1).take ((wrap64 ((ji17) + (l0_2.length : Int))) : Int).toNat).drop ((ji17) : Int).toNat = y299 from Ny299.out.symm] at hr28
             replace hr28 : Kd.C k107 _ A28 y299.length y299 := (by rw [hA28]; exact hr28)
             rw [← hy28, ← hA28, ← hc28] at hcut28
             have HR302 := aM hr28
             have HC302 := aM (show y299.length ≤ c28 from by rw [hy28, hc28]; exact Nat.sub_le_sub_right (Nat.le_trans (by omega) hroom28) _)
             clear hr28 hC28 hroom28 hi028 hsz28 hc28
             have KY28 := aM hy28
             have KA28 := aM hA28
             clear hy28 hA28
             replace q28 := eq_true q28
             refine hK.out _ _ ⟨(blk_cell BK288.out 0).trans rfl, (blk_cell BK288.out 1).trans rfl, (blk_cell BK288.out 2).trans rfl, (blk_cell BK288.out 3).trans rfl⟩ (fun hHeld => ?_)
             clear hK K
             refine norm_ (a' := ?_) ?_ ?_
             rotate_left
             ·show Act.put _ (some 49) _ = _
              simp only [Act.put, sI, sZ, sS, i64_w, i32_w]
              rfl
             refine pure_ (i := 25) (N := some 50) (v := ?_) (a' := ?_) mkimpl_applies_34 rfl rfl (any_of HT_.out (by kernel_rfl)) (fun _ _ _ h => h) (Or.inl ⟨by rfl, ?_⟩) ?_ ?_
             rotate_left
             ·intro w'
              go_simp
              with_reducible rfl
             rotate_left
             ·simp only [Act.put, sI, sZ, sS, i64_w, i32_w]
              rfl
             refine pure_ (i := 26) (N := some 51) (v := ?_) (a' := ?_) mkimpl_applies_35 rfl rfl (any_of HT_.out (by kernel_rfl)) (fun _ _ _ h => h) (Or.inl ⟨by rfl, ?_⟩) ?_ ?_
             rotate_left
             ·intro w'
              go_simp
              with_reducible rfl
             rotate_left
             ·simp only [Act.put, sI, sZ, sS, i64_w, i32_w]
              rfl
             refine pure_ (i := 27) (N := some 52) (v := ?_) (a' := ?_) mkimpl_applies_36 rfl rfl (any_of HT_.out (by kernel_rfl)) (fun _ _ _ h => h) (Or.inl ⟨by rfl, ?_⟩) ?_ ?_
             rotate_left
             ·intro w'
              go_simp
              with_reducible rfl
             rotate_left
             ·simp only [Act.put, sI, sZ, sS, i64_w, i32_w]
              rfl
             refine pure_ (i := 29) (N := some 54) (v := ?_) (a' := ?_) mkimpl_applies_37 rfl rfl (any_of HT_.out (by kernel_rfl)) (fun _ _ _ h => h) (Or.inl ⟨by rfl, ?_⟩) ?_ ?_
             rotate_left
             ·intro w'
              go_simp
              with_reducible rfl
             rotate_left
             ·simp only [Act.put, sI, sZ, sS, i64_w, i32_w]
              rfl
             refine pure_ (i := 30) (N := some 55) (v := ?_) (a' := ?_) mkimpl_applies_39 rfl rfl (any_of HT_.out (by kernel_rfl)) (fun _ _ _ h => h) (Or.inl ⟨by rfl, ?_⟩) ?_ ?_
             rotate_left
             ·intro w'
              go_simp
              with_reducible rfl
             rotate_left
             ·simp only [Act.put, sI, sZ, sS, i64_w, i32_w]
              rfl
             refine pure_ (i := 31) (N := some 56) (v := ?_) (a' := ?_) mkimpl_applies_41 rfl rfl (any_of HT_.out (by kernel_rfl)) (fun _ _ _ h => h) (Or.inl ⟨by rfl, ?_⟩) ?_ ?_
             rotate_left
             ·intro w'
              go_simp
              with_reducible rfl
             rotate_left
             ·simp only [Act.put, sI, sZ, sS, i64_w, i32_w]
              rfl
             refine pure_ (i := 32) (N := some 57) (v := ?_) (a' := ?_) mkimpl_applies_43 rfl rfl (any_of HT_.out (by kernel_rfl)) (fun _ _ _ h => h) (Or.inl ⟨by rfl, ?_⟩) ?_ ?_
             rotate_left
             ·intro w'
              go_simp
              with_reducible rfl
             rotate_left
             ·simp only [Act.put, sI, sZ, sS, i64_w, i32_w]
              rfl
             refine take_ (i := 28) (N := some 53) (v := ?_) (a' := ?_) mkimpl_applies_45 rfl rfl (take_ofW HT_.out HW_.out (by kernel_rfl)) (fun _ _ _ h => h) (Or.inl ⟨by rfl, ?_⟩) hHeld ?_ ?_
             rotate_left
             ·rintro w' ⟨s0, s1, s2, s3⟩
              go_simp
              with_reducible rfl
             rotate_left
             ·simp only [Act.put, sI, sZ, sS, i64_w, i32_w]
              rfl
             refine one_ (i := 33) (N := some 58) mkimpl_applies_46 rfl rfl (one_of HT_.out (by kernel_rfl)) (by decide) (fun K hK => ?_)
             refine goes_ Try.func139 (by kernel_rfl) rfl #[.slice A0_2 l0_2.length c0_2, .slice A28 y299.length c28] (by rfl) rfl rfl gQ ?_
             with_reducible refine (impl_inClasses.calls k _ _ l0_2 _ _ y299 t303 _ ?side1 ?side2 ?side3 ?side4 A21.out).mono ?_
             (case side1 => repeat (first | exact (Kd.C_below HR0_2.out (by repeat (first | (with_reducible first | exact HB.out | apply bA | apply bN | apply bD | refine below_set ?_ GE288.out) | exact HB.out))) | (with_reducible first | refine cA ?_ _ | refine cN ?_ _ | refine cD ?_)))
             (case side2 => exact HC0_2.out)
             (case side3 => repeat (first | exact (Kd.C_below HR302.out (by repeat (first | (with_reducible first | exact HB.out | apply bA | apply bN | apply bD | refine below_set ?_ GE288.out) | exact HB.out))) | (with_reducible first | refine cA ?_ _ | refine cN ?_ _ | refine cD ?_)))
             (case side4 => exact HC302.out)
             rintro e w' ⟨rfl, ⟨nd, rfl⟩⟩
             refine ⟨_, rfl, ?_⟩
             refine hK.out _ _ ⟨(blk_cell BK288.out 0).trans rfl, (blk_cell BK288.out 1).trans rfl, (blk_cell BK288.out 2).trans rfl, (blk_cell BK288.out 3).trans rfl⟩ (fun hHeld => ?_)
             clear hK K
             refine norm_ (a' := ?_) ?_ ?_
             rotate_left
             ·show Act.put _ (some 58) _ = _
              simp only [Act.put, sI, sZ, sS, i64_w, i32_w]
              rfl
             refine pure_ (i := 34) (N := some 59) (v := ?_) (a' := ?_) mkimpl_applies_47 rfl rfl (any_of HT_.out (by kernel_rfl)) (fun _ _ _ h => h) (Or.inl ⟨by rfl, ?_⟩) ?_ ?_
             rotate_left
             ·intro w'
              go_simp
              with_reducible rfl
             rotate_left
             ·simp only [Act.put, sI, sZ, sS, i64_w, i32_w]
              rfl
             refine pure_ (i := 35) (N := some 6) (v := ?_) (a' := ?_) mkimpl_applies_48 rfl rfl (any_of HT_.out (by kernel_rfl)) (fun _ _ _ h => h) (Or.inl ⟨by rfl, ?_⟩) ?_ ?_
             rotate_left
             ·intro w'
              go_simp
              with_reducible rfl
             rotate_left
             ·simp only [Act.put, sI, sZ, sS, i64_w, i32_w]
              rfl
             refine done_ (done_of HT_.out (by kernel_rfl)) ?_
             try go_wp2
             go_ret
             exact ⟨by first | rfl | (simp [errW_none, errW_some] <;> rfl) | (simp only [← hji6, ← hji17]; first | rfl | (simp [errW_none, errW_some] <;> rfl)) | (simp [*, errW_none, errW_some] <;> rfl), by repeat (first | (with_reducible first | exact HB.out | apply bA | apply bN | apply bD | refine below_set ?_ GE288.out) | exact HB.out)⟩
            ·rw [if_neg c19] at H
             exact absurd H (by simp)
           ·rw [if_neg c18] at H
            exact absurd H (by simp)
          ·replace c16 := Bool.eq_false_iff.mpr c16
           subst c16
           have H1 : (some false) = some r := by rw [if_neg (show ¬ (false = true) by decide)] at H; exact H
           clear H
           have H := H1
           clear H1
           obtain rfl := Option.some.inj H
           go_enter Try.func77, Try.ntmps77
           try go_wp2_with (first | ((with_reducible refine gate_dst (N := 3) rfl ?_); (try (refine gate_guard (by rfl) ?_; dsimp only)); refine box_event ?hg (N := 3) ?hd (cs := #[.slice A0_0 l0_0.length c0_0, .slice A0_1 l0_1.length c0_1, .slice A0_2 l0_2.length c0_2, .slice A0_3 l0_3.length c0_3]) (t := 38) ?hr ?_; (case hd => rfl); (case hg => rfl); (case hr => first | (go_simp; done) | (go_simp; rfl)); intro gb288 hg w29 hbox hb; have n0_ := aM (below_step bQ hb); have n1_ := aM (hbox); have n2_ := aM ((by rw [hg]; exact (below_size bQ) : w.heap.size ≤ gb288)); have n3_ := aM ((by rw [hg]; exact (below_size bQ) : w.heap.size ≤ gb288)); clear HB; have HB := n0_; have BK288 := n1_; have GW288 := n2_; have GE288 := n3_; clear n0_ n1_ n2_ n3_; clear hb hbox hg))
           have n0_ := aM (blk_drew BK288.out)
           have n1_ := aM (below_drew1 HB.out)
           clear BK288
           clear HB
           have BK288 := n0_
           have HB := n1_
           clear n0_ n1_
           refine start_ (n := 12) (S := fun w' => w'.cell? ⟨gb288, 0, none⟩ = some (.slice A0_0 l0_0.length c0_0) ∧ w'.cell? ⟨gb288, 1, none⟩ = some (.slice A0_1 l0_1.length c0_1) ∧ w'.cell? ⟨gb288, 2, none⟩ = some (.slice A0_2 l0_2.length c0_2) ∧ w'.cell? ⟨gb288, 3, none⟩ = some (.slice A0_3 l0_3.length c0_3)) (ds := []) mkimpl_applies_49 (by kernel_rfl) rfl rfl ⟨(blk_cell BK288.out 0).trans rfl, (blk_cell BK288.out 1).trans rfl, (blk_cell BK288.out 2).trans rfl, (blk_cell BK288.out 3).trans rfl⟩ (fun hHeld => ?_); refine with_tabW impl_applies.tab1 impl_applies.bits1 (fun HT_ HW_ => ?_)
           generalize w29.drew = w30 at BK288 HB hHeld ⊢
           refine pure_ (i := 0) (N := some 10) (v := ?_) (a' := ?_) mkimpl_applies_50 rfl rfl (any_of HT_.out (by kernel_rfl)) (fun _ _ _ h => h) (Or.inl ⟨by rfl, ?_⟩) ?_ ?_
           rotate_left
           ·intro w'
            go_simp
            with_reducible rfl
           rotate_left
           ·simp only [Act.put, sI, sZ, sS, i64_w, i32_w]
            rfl
           refine pure_ (i := 1) (N := some 11) (v := ?_) (a' := ?_) mkimpl_applies_51 rfl rfl (any_of HT_.out (by kernel_rfl)) (fun _ _ _ h => h) (Or.inl ⟨by rfl, ?_⟩) ?_ ?_
           rotate_left
           ·intro w'
            go_simp
            with_reducible rfl
           rotate_left
           ·simp only [Act.put, sI, sZ, sS, i64_w, i32_w]
            rfl
           refine pure_ (i := 5) (N := some 15) (v := ?_) (a' := ?_) mkimpl_applies_52 rfl rfl (any_of HT_.out (by kernel_rfl)) (fun _ _ _ h => h) (Or.inl ⟨by rfl, ?_⟩) ?_ ?_
           rotate_left
           ·intro w'
            go_simp
            with_reducible rfl
           rotate_left
           ·simp only [Act.put, sI, sZ, sS, i64_w, i32_w]
            rfl
           refine pure_ (i := 6) (N := some 16) (v := ?_) (a' := ?_) mkimpl_applies_53 rfl rfl (any_of HT_.out (by kernel_rfl)) (fun _ _ _ h => h) (Or.inl ⟨by rfl, ?_⟩) ?_ ?_
           rotate_left
           ·intro w'
            go_simp
            with_reducible rfl
           rotate_left
           ·simp only [Act.put, sI, sZ, sS, i64_w, i32_w]
            rfl
           refine take_ (i := 2) (N := some 12) (v := ?_) (a' := ?_) mkimpl_applies_54 rfl rfl (take_ofW HT_.out HW_.out (by kernel_rfl)) (fun _ _ _ h => h) (Or.inl ⟨by rfl, ?_⟩) hHeld ?_ ?_
           rotate_left
           ·rintro w' ⟨s0, s1, s2, s3⟩
            go_simp
            with_reducible rfl
           rotate_left
           ·simp only [Act.put, sI, sZ, sS, i64_w, i32_w]
            rfl
           refine pure_ (i := 3) (N := some 13) (v := ?_) (a' := ?_) mkimpl_applies_55 rfl rfl (any_of HT_.out (by kernel_rfl)) (fun _ _ _ h => h) (Or.inl ⟨by rfl, ?_⟩) ?_ ?_
           rotate_left
           ·intro w'
            go_simp
            with_reducible rfl
           rotate_left
           ·simp only [Act.put, sI, sZ, sS, i64_w, i32_w]
            rfl
           refine pure_ (i := 4) (N := some 14) (v := ?_) (a' := ?_) mkimpl_applies_56 rfl rfl (any_of HT_.out (by kernel_rfl)) (fun _ _ _ h => h) (Or.inl ⟨by rfl, ?_⟩) ?_ ?_
           rotate_left
           ·intro w'
            go_simp
            with_reducible rfl
           rotate_left
           ·simp only [Act.put, sI, sZ, sS, i64_w, i32_w]
            rfl
           refine pure_ (i := 10) (N := some 7) (v := ?_) (a' := ?_) mkimpl_applies_57 rfl rfl (any_of HT_.out (by kernel_rfl)) (fun _ _ _ h => h) (Or.inl ⟨by rfl, ?_⟩) ?_ ?_
           rotate_left
           ·intro w'
            go_simp
            with_reducible rfl
           rotate_left
           ·simp only [Act.put, sI, sZ, sS, i64_w, i32_w]
            rfl
           refine take_ (i := 7) (N := some 17) (v := ?_) (a' := ?_) mkimpl_applies_58 rfl rfl (take_ofW HT_.out HW_.out (by kernel_rfl)) (fun _ _ _ h => h) (Or.inl ⟨by rfl, ?_⟩) hHeld ?_ ?_
           rotate_left
           ·rintro w' ⟨s0, s1, s2, s3⟩
            go_simp
            with_reducible rfl
           rotate_left
           ·simp only [Act.put, sI, sZ, sS, i64_w, i32_w]
            rfl
           refine pure_ (i := 8) (N := some 18) (v := ?_) (a' := ?_) mkimpl_applies_59 rfl rfl (any_of HT_.out (by kernel_rfl)) (fun _ _ _ h => h) (Or.inl ⟨by rfl, ?_⟩) ?_ ?_
           rotate_left
           ·intro w'
            go_simp
            with_reducible rfl
           rotate_left
           ·simp only [Act.put, sI, sZ, sS, i64_w, i32_w]
            rfl
           refine pure_ (i := 9) (N := some 19) (v := ?_) (a' := ?_) mkimpl_applies_60 rfl rfl (any_of HT_.out (by kernel_rfl)) (fun _ _ _ h => h) (Or.inl ⟨by rfl, ?_⟩) ?_ ?_
           rotate_left
           ·intro w'
            go_simp
            with_reducible rfl
           rotate_left
           ·simp only [Act.put, sI, sZ, sS, i64_w, i32_w]
            rfl
           refine pure_ (i := 11) (N := some 8) (v := ?_) (a' := ?_) mkimpl_applies_61 rfl rfl (any_of HT_.out (by kernel_rfl)) (fun _ _ _ h => h) (Or.inl ⟨by rfl, ?_⟩) ?_ ?_
           rotate_left
           ·intro w'
            go_simp
            with_reducible rfl
           rotate_left
           ·simp only [Act.put, sI, sZ, sS, i64_w, i32_w]
            rfl
           refine done_ (done_of HT_.out (by kernel_rfl)) ?_
           have hcz31_0 : w30.cell? ⟨gb288, 0, none⟩ = some (.slice A0_0 l0_0.length c0_0) := (blk_cell BK288.out 0).trans rfl
           have hcz31_1 : w30.cell? ⟨gb288, 1, none⟩ = some (.slice A0_1 l0_1.length c0_1) := (blk_cell BK288.out 1).trans rfl
           have hcz31_2 : w30.cell? ⟨gb288, 2, none⟩ = some (.slice A0_2 l0_2.length c0_2) := (blk_cell BK288.out 2).trans rfl
           have hcz31_3 : w30.cell? ⟨gb288, 3, none⟩ = some (.slice A0_3 l0_3.length c0_3) := (blk_cell BK288.out 3).trans rfl
           have hfz31_0 := blk_frozen BK288.out 0
           have hfz31_1 := blk_frozen BK288.out 1
           have hfz31_2 := blk_frozen BK288.out 2
           have hfz31_3 := blk_frozen BK288.out 3
           try go_wp2
           have n0_ := aM (blk_drew BK288.out)
           have n1_ := aM (below_drew1 HB.out)
           clear BK288
           clear HB
           have BK288 := n0_
           have HB := n1_
           clear n0_ n1_
           have q33 : (a2 : Int) ≤ ((l1.length : Int) : Int) := dA
           obtain ⟨i033, hi033, _, hsz33, _⟩ := info_parts info107
           have hroom33 : l1.length ≤ c1 := HC1.out
           have hC33 : Kd.C k107 _ A1 l1.length l1 := HR1.out
           have ql33 : ((ji6) : Int) ≤ (a2 : Int) := dA
           have q033 : (0 : Int) ≤ ((ji6) : Int) := dA
           have hcut33 := cut_mid (P := Try.prog) 45 107 .i64 .i64 Try.underlying45 hi033 3 hsz33 A1 l1.length c1 (ji6) a2 q033 ql33 q33 hroom33
           have hr33 := Kd.C_mid (lo := ((ji6) : Int).toNat) (hi := (a2 : Int).toNat) (c := c1) hC33 (by omega) (by omega) hroom33
           obtain ⟨A33, hA33⟩ : ∃ A_, A_ = (if c1 = ((ji6) : Int).toNat then A1 else (A1 : Option Addr).map (·.add (((ji6) : Int).toNat * 3))) := ⟨_, rfl⟩
           obtain ⟨c33, hc33⟩ : ∃ c_, c_ = c1 - ((ji6) : Int).toNat := ⟨_, rfl⟩
           have hy33 : y289.length = (a2 : Int).toNat - ((ji6) : Int).toNat := (by rw [Ny289.out, List.length_drop, List.length_take] <;> omega)
           rw [show ((l1).take (a2 : Int).toNat).drop ((ji6) : Int).toNat = y289 from Ny289.out.symm] at hr33
           replace hr33 : Kd.C k107 _ A33 y289.length y289 := (by rw [hA33]; exact hr33)
           rw [← hy33, ← hA33, ← hc33] at hcut33
           have HR292 := aM hr33
           have HC292 := aM (show y289.length ≤ c33 from by rw [hy33, hc33]; exact Nat.sub_le_sub_right (Nat.le_trans (by omega) hroom33) _)
           clear hr33 hC33 hroom33 hi033 hsz33 hc33
           have KY33 := aM hy33
           have KA33 := aM hA33
           clear hy33 hA33
           replace q33 := eq_true q33
           refine start_ (n := 36) (S := fun w' => w'.cell? ⟨gb288, 0, none⟩ = some (.slice A0_0 l0_0.length c0_0) ∧ w'.cell? ⟨gb288, 1, none⟩ = some (.slice A0_1 l0_1.length c0_1) ∧ w'.cell? ⟨gb288, 2, none⟩ = some (.slice A0_2 l0_2.length c0_2) ∧ w'.cell? ⟨gb288, 3, none⟩ = some (.slice A0_3 l0_3.length c0_3)) (ds := []) mkimpl_applies_0 (by kernel_rfl) rfl rfl ⟨(blk_cell BK288.out 0).trans rfl, (blk_cell BK288.out 1).trans rfl, (blk_cell BK288.out 2).trans rfl, (blk_cell BK288.out 3).trans rfl⟩ (fun hHeld => ?_); refine with_tabW impl_applies.tab3 impl_applies.bits3 (fun HT_ HW_ => ?_)
           generalize w30.drew = w32 at BK288 HB HR292 hHeld ⊢
           refine pure_ (i := 0) (N := some 25) (v := ?_) (a' := ?_) mkimpl_applies_1 rfl rfl (any_of HT_.out (by kernel_rfl)) (fun _ _ _ h => h) (Or.inl ⟨by rfl, ?_⟩) ?_ ?_
           rotate_left
           ·intro w'
            go_simp
            with_reducible rfl
           rotate_left
           ·simp only [Act.put, sI, sZ, sS, i64_w, i32_w]
            rfl
           refine pure_ (i := 1) (N := some 26) (v := ?_) (a' := ?_) mkimpl_applies_2 rfl rfl (any_of HT_.out (by kernel_rfl)) (fun _ _ _ h => h) (Or.inl ⟨by rfl, ?_⟩) ?_ ?_
           rotate_left
           ·intro w'
            go_simp
            with_reducible rfl
           rotate_left
           ·simp only [Act.put, sI, sZ, sS, i64_w, i32_w]
            rfl
           refine pure_ (i := 2) (N := some 27) (v := ?_) (a' := ?_) mkimpl_applies_3 rfl rfl (any_of HT_.out (by kernel_rfl)) (fun _ _ _ h => h) (Or.inl ⟨by rfl, ?_⟩) ?_ ?_
           rotate_left
           ·intro w'
            go_simp
            with_reducible rfl
           rotate_left
           ·simp only [Act.put, sI, sZ, sS, i64_w, i32_w]
            rfl
           refine pure_ (i := 3) (N := some 28) (v := ?_) (a' := ?_) mkimpl_applies_4 rfl rfl (any_of HT_.out (by kernel_rfl)) (fun _ _ _ h => h) (Or.inl ⟨by rfl, ?_⟩) ?_ ?_
           rotate_left
           ·intro w'
            go_simp
            with_reducible rfl
           rotate_left
           ·simp only [Act.put, sI, sZ, sS, i64_w, i32_w]
            rfl
           refine pure_ (i := 4) (N := some 29) (v := ?_) (a' := ?_) mkimpl_applies_5 rfl rfl (any_of HT_.out (by kernel_rfl)) (fun _ _ _ h => h) (Or.inl ⟨by rfl, ?_⟩) ?_ ?_
           rotate_left
           ·intro w'
            go_simp
            with_reducible rfl
           rotate_left
           ·simp only [Act.put, sI, sZ, sS, i64_w, i32_w]
            rfl
           refine pure_ (i := 5) (N := some 30) (v := ?_) (a' := ?_) mkimpl_applies_6 rfl rfl (any_of HT_.out (by kernel_rfl)) (fun _ _ _ h => h) (Or.inl ⟨by rfl, ?_⟩) ?_ ?_
           rotate_left
           ·intro w'
            go_simp
            with_reducible rfl
           rotate_left
           ·simp only [Act.put, sI, sZ, sS, i64_w, i32_w]
            rfl
           refine pure_ (i := 6) (N := some 31) (v := ?_) (a' := ?_) mkimpl_applies_7 rfl rfl (any_of HT_.out (by kernel_rfl)) (fun _ _ _ h => h) (Or.inl ⟨by rfl, ?_⟩) ?_ ?_
           rotate_left
           ·intro w'
            go_simp
            with_reducible rfl
           rotate_left
           ·simp only [Act.put, sI, sZ, sS, i64_w, i32_w]
            rfl
           refine pure_ (i := 7) (N := some 32) (v := ?_) (a' := ?_) mkimpl_applies_8 rfl rfl (any_of HT_.out (by kernel_rfl)) (fun _ _ _ h => h) (Or.inl ⟨by rfl, ?_⟩) ?_ ?_
           rotate_left
           ·intro w'
            go_simp
            with_reducible rfl
           rotate_left
           ·simp only [Act.put, sI, sZ, sS, i64_w, i32_w]
            rfl
           refine pure_ (i := 8) (N := some 33) (v := ?_) (a' := ?_) mkimpl_applies_9 rfl rfl (any_of HT_.out (by kernel_rfl)) (fun _ _ _ h => h) (Or.inl ⟨by rfl, ?_⟩) ?_ ?_
           rotate_left
           ·intro w'
            go_simp
            with_reducible rfl
           rotate_left
           ·simp only [Act.put, sI, sZ, sS, i64_w, i32_w]
            rfl
           refine pure_ (i := 9) (N := some 34) (v := ?_) (a' := ?_) mkimpl_applies_10 rfl rfl (any_of HT_.out (by kernel_rfl)) (fun _ _ _ h => h) (Or.inl ⟨by rfl, ?_⟩) ?_ ?_
           rotate_left
           ·intro w'
            go_simp
            with_reducible rfl
           rotate_left
           ·simp only [Act.put, sI, sZ, sS, i64_w, i32_w]
            rfl
           refine pure_ (i := 11) (N := some 36) (v := ?_) (a' := ?_) mkimpl_applies_11 rfl rfl (any_of HT_.out (by kernel_rfl)) (fun _ _ _ h => h) (Or.inl ⟨by rfl, ?_⟩) ?_ ?_
           rotate_left
           ·intro w'
            go_simp
            with_reducible rfl
           rotate_left
           ·simp only [Act.put, sI, sZ, sS, i64_w, i32_w]
            rfl
           refine pure_ (i := 12) (N := some 37) (v := ?_) (a' := ?_) mkimpl_applies_13 rfl rfl (any_of HT_.out (by kernel_rfl)) (fun _ _ _ h => h) (Or.inl ⟨by rfl, ?_⟩) ?_ ?_
           rotate_left
           ·intro w'
            go_simp
            with_reducible rfl
           rotate_left
           ·simp only [Act.put, sI, sZ, sS, i64_w, i32_w]
            rfl
           refine pure_ (i := 13) (N := some 38) (v := ?_) (a' := ?_) mkimpl_applies_15 rfl rfl (any_of HT_.out (by kernel_rfl)) (fun _ _ _ h => h) (Or.inl ⟨by rfl, ?_⟩) ?_ ?_
           rotate_left
           ·intro w'
            go_simp
            with_reducible rfl
           rotate_left
           ·simp only [Act.put, sI, sZ, sS, i64_w, i32_w]
            rfl
           refine pure_ (i := 14) (N := some 39) (v := ?_) (a' := ?_) mkimpl_applies_17 rfl rfl (any_of HT_.out (by kernel_rfl)) (fun _ _ _ h => h) (Or.inl ⟨by rfl, ?_⟩) ?_ ?_
           rotate_left
           ·intro w'
            go_simp
            with_reducible rfl
           rotate_left
           ·simp only [Act.put, sI, sZ, sS, i64_w, i32_w]
            rfl
           refine take_ (i := 10) (N := some 35) (v := ?_) (a' := ?_) mkimpl_applies_19 rfl rfl (take_ofW HT_.out HW_.out (by kernel_rfl)) (fun _ _ _ h => h) (Or.inl ⟨by rfl, ?_⟩) hHeld ?_ ?_
           rotate_left
           ·rintro w' ⟨s0, s1, s2, s3⟩
            go_simp
            with_reducible rfl
           rotate_left
           ·simp only [Act.put, sI, sZ, sS, i64_w, i32_w]
            rfl
           refine one_ (i := 15) (N := some 40) mkimpl_applies_20 rfl rfl (one_of HT_.out (by kernel_rfl)) (by decide) (fun K hK => ?_)
           refine goes_ Try.func139 (by kernel_rfl) rfl #[.slice A0_0 l0_0.length c0_0, .slice A33 y289.length c33] (by rfl) rfl rfl gQ ?_
           with_reducible refine (impl_inClasses.calls k _ _ l0_0 _ _ y289 true _ ?side1 ?side2 ?side3 ?side4 A10.out).mono ?_
           (case side1 => exact cQ HR0_0.out)
           (case side2 => exact HC0_0.out)
           (case side3 => exact cQ HR292.out)
           (case side4 => exact HC292.out)
           rintro e w' ⟨rfl, ⟨nd, rfl⟩⟩
           refine ⟨_, rfl, ?_⟩
           have q34 : ((wrap64 (a2 + (l0_1.length : Int))) : Int) ≤ ((l1.length : Int) : Int) := dA
           obtain ⟨i034, hi034, _, hsz34, _⟩ := info_parts info107
           have hroom34 : l1.length ≤ c1 := HC1.out
           have hC34 : Kd.C k107 _ A1 l1.length l1 := HR1.out
           have ql34 : (a2 : Int) ≤ ((wrap64 (a2 + (l0_1.length : Int))) : Int) := dA
           have q034 : (0 : Int) ≤ (a2 : Int) := dA
           have hcut34 := cut_mid (P := Try.prog) 45 107 .i64 .i64 Try.underlying45 hi034 3 hsz34 A1 l1.length c1 a2 (wrap64 (a2 + (l0_1.length : Int))) q034 ql34 q34 hroom34
           have hr34 := Kd.C_mid (lo := (a2 : Int).toNat) (hi := ((wrap64 (a2 + (l0_1.length : Int))) : Int).toNat) (c := c1) hC34 (by omega) (by omega) hroom34
           obtain ⟨A34, hA34⟩ : ∃ A_, A_ = (if c1 = (a2 : Int).toNat then A1 else (A1 : Option Addr).map (·.add ((a2 : Int).toNat * 3))) := ⟨_, rfl⟩
           obtain ⟨c34, hc34⟩ : ∃ c_, c_ = c1 - (a2 : Int).toNat := ⟨_, rfl⟩
           have hy34 : y294.length = ((wrap64 (a2 + (l0_1.length : Int))) : Int).toNat - (a2 : Int).toNat := (by rw [Ny294.out, List.length_drop, List.length_take] <;> omega)
           rw [show ((l1).take ((wrap64 (a2 + (l0_1.length : Int))) : Int).toNat).drop (a2 : Int).toNat = y294 from Ny294.out.symm] at hr34
           replace hr34 : Kd.C k107 _ A34 y294.length y294 := (by rw [hA34]; exact hr34)
           rw [← hy34, ← hA34, ← hc34] at hcut34
           have HR297 := aM hr34
           have HC297 := aM (show y294.length ≤ c34 from by rw [hy34, hc34]; exact Nat.sub_le_sub_right (Nat.le_trans (by omega) hroom34) _)
           clear hr34 hC34 hroom34 hi034 hsz34 hc34
           have KY34 := aM hy34
           have KA34 := aM hA34
           clear hy34 hA34
           replace q34 := eq_true q34
           refine hK.out _ _ ⟨(blk_cell BK288.out 0).trans rfl, (blk_cell BK288.out 1).trans rfl, (blk_cell BK288.out 2).trans rfl, (blk_cell BK288.out 3).trans rfl⟩ (fun hHeld => ?_)
           clear hK K
           refine norm_ (a' := ?_) ?_ ?_
           rotate_left
           ·show Act.put _ (some 40) _ = _
            simp only [Act.put, sI, sZ, sS, i64_w, i32_w]
            rfl
           refine pure_ (i := 16) (N := some 41) (v := ?_) (a' := ?_) mkimpl_applies_21 rfl rfl (any_of HT_.out (by kernel_rfl)) (fun _ _ _ h => h) (Or.inl ⟨by rfl, ?_⟩) ?_ ?_
           rotate_left
           ·intro w'
            go_simp
            with_reducible rfl
           rotate_left
           ·simp only [Act.put, sI, sZ, sS, i64_w, i32_w]
            rfl
           refine pure_ (i := 17) (N := some 42) (v := ?_) (a' := ?_) mkimpl_applies_22 rfl rfl (any_of HT_.out (by kernel_rfl)) (fun _ _ _ h => h) (Or.inl ⟨by rfl, ?_⟩) ?_ ?_
           rotate_left
           ·intro w'
            go_simp
            with_reducible rfl
           rotate_left
           ·simp only [Act.put, sI, sZ, sS, i64_w, i32_w]
            rfl
           refine pure_ (i := 18) (N := some 43) (v := ?_) (a' := ?_) mkimpl_applies_23 rfl rfl (any_of HT_.out (by kernel_rfl)) (fun _ _ _ h => h) (Or.inl ⟨by rfl, ?_⟩) ?_ ?_
           rotate_left
           ·intro w'
            go_simp
            with_reducible rfl
           rotate_left
           ·simp only [Act.put, sI, sZ, sS, i64_w, i32_w]
            rfl
           refine pure_ (i := 20) (N := some 45) (v := ?_) (a' := ?_) mkimpl_applies_24 rfl rfl (any_of HT_.out (by kernel_rfl)) (fun _ _ _ h => h) (Or.inl ⟨by rfl, ?_⟩) ?_ ?_
           rotate_left
           ·intro w'
            go_simp
            with_reducible rfl
           rotate_left
           ·simp only [Act.put, sI, sZ, sS, i64_w, i32_w]
            rfl
           refine pure_ (i := 21) (N := some 46) (v := ?_) (a' := ?_) mkimpl_applies_26 rfl rfl (any_of HT_.out (by kernel_rfl)) (fun _ _ _ h => h) (Or.inl ⟨by rfl, ?_⟩) ?_ ?_
           rotate_left
           ·intro w'
            go_simp
            with_reducible rfl
           rotate_left
           ·simp only [Act.put, sI, sZ, sS, i64_w, i32_w]
            rfl
           refine pure_ (i := 22) (N := some 47) (v := ?_) (a' := ?_) mkimpl_applies_28 rfl rfl (any_of HT_.out (by kernel_rfl)) (fun _ _ _ h => h) (Or.inl ⟨by rfl, ?_⟩) ?_ ?_
           rotate_left
           ·intro w'
            go_simp
            with_reducible rfl
           rotate_left
           ·simp only [Act.put, sI, sZ, sS, i64_w, i32_w]
            rfl
           refine pure_ (i := 23) (N := some 48) (v := ?_) (a' := ?_) mkimpl_applies_30 rfl rfl (any_of HT_.out (by kernel_rfl)) (fun _ _ _ h => h) (Or.inl ⟨by rfl, ?_⟩) ?_ ?_
           rotate_left
           ·intro w'
            go_simp
            with_reducible rfl
           rotate_left
           ·simp only [Act.put, sI, sZ, sS, i64_w, i32_w]
            rfl
           refine take_ (i := 19) (N := some 44) (v := ?_) (a' := ?_) mkimpl_applies_32 rfl rfl (take_ofW HT_.out HW_.out (by kernel_rfl)) (fun _ _ _ h => h) (Or.inl ⟨by rfl, ?_⟩) hHeld ?_ ?_
           rotate_left
           ·rintro w' ⟨s0, s1, s2, s3⟩
            go_simp
            with_reducible rfl
           rotate_left
           ·simp only [Act.put, sI, sZ, sS, i64_w, i32_w]
            rfl
           refine one_ (i := 24) (N := some 49) mkimpl_applies_33 rfl rfl (one_of HT_.out (by kernel_rfl)) (by decide) (fun K hK => ?_)
           refine goes_ Try.func139 (by kernel_rfl) rfl #[.slice A0_1 l0_1.length c0_1, .slice A34 y294.length c34] (by rfl) rfl rfl gQ ?_
           with_reducible refine (impl_inClasses.calls k _ _ l0_1 _ _ y294 false _ ?side1 ?side2 ?side3 ?side4 A15.out).mono ?_
           (case side1 => repeat (first | exact (Kd.C_below HR0_1.out (by repeat (first | (with_reducible first | exact HB.out | apply bA | apply bN | apply bD | refine below_set ?_ GE288.out) | exact HB.out))) | (with_reducible first | refine cA ?_ _ | refine cN ?_ _ | refine cD ?_)))
           (case side2 => exact HC0_1.out)
           (case side3 => repeat (first | exact (Kd.C_below HR297.out (by repeat (first | (with_reducible first | exact HB.out | apply bA | apply bN | apply bD | refine below_set ?_ GE288.out) | exact HB.out))) | (with_reducible first | refine cA ?_ _ | refine cN ?_ _ | refine cD ?_)))
           (case side4 => exact HC297.out)
           rintro e w' ⟨rfl, ⟨nd, rfl⟩⟩
           refine ⟨_, rfl, ?_⟩
           refine hK.out _ _ ⟨(blk_cell BK288.out 0).trans rfl, (blk_cell BK288.out 1).trans rfl, (blk_cell BK288.out 2).trans rfl, (blk_cell BK288.out 3).trans rfl⟩ (fun hHeld => ?_)
           clear hK K
           refine norm_ (a' := ?_) ?_ ?_
           rotate_left
           ·show Act.put _ (some 49) _ = _
            simp only [Act.put, sI, sZ, sS, i64_w, i32_w]
            rfl
           refine pure_ (i := 25) (N := some 50) (v := ?_) (a' := ?_) mkimpl_applies_34 rfl rfl (any_of HT_.out (by kernel_rfl)) (fun _ _ _ h => h) (Or.inl ⟨by rfl, ?_⟩) ?_ ?_
           rotate_left
           ·intro w'
            go_simp
            with_reducible rfl
           rotate_left
           ·simp only [Act.put, sI, sZ, sS, i64_w, i32_w]
            rfl
           refine pure_ (i := 26) (N := some 51) (v := ?_) (a' := ?_) mkimpl_applies_35 rfl rfl (any_of HT_.out (by kernel_rfl)) (fun _ _ _ h => h) (Or.inl ⟨by rfl, ?_⟩) ?_ ?_
           rotate_left
           ·intro w'
            go_simp
            with_reducible rfl
           rotate_left
           ·simp only [Act.put, sI, sZ, sS, i64_w, i32_w]
            rfl
           refine pure_ (i := 27) (N := some 52) (v := undef) (a' := ?_) mkimpl_applies_36 rfl rfl (any_of HT_.out (by kernel_rfl)) (fun _ _ _ h => h) (Or.inr ⟨by rfl, rfl⟩) ?_ ?_
           rotate_left
           ·simp only [Act.put, sI, sZ, sS, i64_w, i32_w]
            rfl
           refine pure_ (i := 28) (N := some 53) (v := undef) (a' := ?_) mkimpl_applies_38 rfl rfl (any_of HT_.out (by kernel_rfl)) (fun _ _ _ h => h) (Or.inr ⟨by rfl, rfl⟩) ?_ ?_
           rotate_left
           ·simp only [Act.put, sI, sZ, sS, i64_w, i32_w]
            rfl
           refine pure_ (i := 29) (N := some 54) (v := undef) (a' := ?_) mkimpl_applies_40 rfl rfl (any_of HT_.out (by kernel_rfl)) (fun _ _ _ h => h) (Or.inr ⟨by rfl, rfl⟩) ?_ ?_
           rotate_left
           ·simp only [Act.put, sI, sZ, sS, i64_w, i32_w]
            rfl
           refine pure_ (i := 30) (N := some 55) (v := undef) (a' := ?_) mkimpl_applies_42 rfl rfl (any_of HT_.out (by kernel_rfl)) (fun _ _ _ h => h) (Or.inr ⟨by rfl, rfl⟩) ?_ ?_
           rotate_left
           ·simp only [Act.put, sI, sZ, sS, i64_w, i32_w]
            rfl
           refine pure_ (i := 31) (N := some 56) (v := undef) (a' := ?_) mkimpl_applies_44 rfl rfl (any_of HT_.out (by kernel_rfl)) (fun _ _ _ h => h) (Or.inr ⟨by rfl, rfl⟩) ?_ ?_
           rotate_left
           ·simp only [Act.put, sI, sZ, sS, i64_w, i32_w]
            rfl
           refine pure_ (i := 32) (N := some 57) (v := undef) (a' := ?_) mkimpl_applies_45 rfl rfl (any_of HT_.out (by kernel_rfl)) (fun _ _ _ h => h) (Or.inr ⟨by rfl, rfl⟩) ?_ ?_
           rotate_left
           ·simp only [Act.put, sI, sZ, sS, i64_w, i32_w]
            rfl
           refine pure_ (i := 33) (N := some 58) (v := undef) (a' := ?_) mkimpl_applies_46 rfl rfl (any_of HT_.out (by kernel_rfl)) (fun _ _ _ h => h) (Or.inr ⟨by rfl, rfl⟩) ?_ ?_
           rotate_left
           ·simp only [Act.put, sI, sZ, sS, i64_w, i32_w]
            rfl
           refine pure_ (i := 34) (N := some 59) (v := ?_) (a' := ?_) mkimpl_applies_47 rfl rfl (any_of HT_.out (by kernel_rfl)) (fun _ _ _ h => h) (Or.inl ⟨by rfl, ?_⟩) ?_ ?_
           rotate_left
           ·intro w'
            go_simp
            with_reducible rfl
           rotate_left
           ·simp only [Act.put, sI, sZ, sS, i64_w, i32_w]
            rfl
           refine pure_ (i := 35) (N := some 6) (v := ?_) (a' := ?_) mkimpl_applies_48 rfl rfl (any_of HT_.out (by kernel_rfl)) (fun _ _ _ h => h) (Or.inl ⟨by rfl, ?_⟩) ?_ ?_
           rotate_left
           ·intro w'
            go_simp
            with_reducible rfl
           rotate_left
           ·simp only [Act.put, sI, sZ, sS, i64_w, i32_w]
            rfl
           refine done_ (done_of HT_.out (by kernel_rfl)) ?_
           try go_wp2
           go_ret
           exact ⟨by first | rfl | (simp [errW_none, errW_some] <;> rfl) | (simp only [← hji6]; first | rfl | (simp [errW_none, errW_some] <;> rfl)) | (simp [*, errW_none, errW_some] <;> rfl), by repeat (first | (with_reducible first | exact HB.out | apply bA | apply bN | apply bD | refine below_set ?_ GE288.out) | exact HB.out)⟩
         ·rw [if_neg c14] at H
          exact absurd H (by simp)
        ·rw [if_neg c13] at H
         exact absurd H (by simp)
       ·rw [if_neg c12] at H
        exact absurd H (by simp)
      ·replace c11 := Bool.eq_false_iff.mpr c11
       subst c11
       have H1 : (some false) = some r := by rw [if_neg (show ¬ (false = true) by decide)] at H; exact H
       clear H
       have H := H1
       clear H1
       obtain rfl := Option.some.inj H
       go_enter Try.func77, Try.ntmps77
       try go_wp2_with (first | ((with_reducible refine gate_dst (N := 3) rfl ?_); (try (refine gate_guard (by rfl) ?_; dsimp only)); refine box_event ?hg (N := 3) ?hd (cs := #[.slice A0_0 l0_0.length c0_0, .slice A0_1 l0_1.length c0_1, .slice A0_2 l0_2.length c0_2, .slice A0_3 l0_3.length c0_3]) (t := 38) ?hr ?_; (case hd => rfl); (case hg => rfl); (case hr => first | (go_simp; done) | (go_simp; rfl)); intro gb288 hg w35 hbox hb; have n0_ := aM (below_step bQ hb); have n1_ := aM (hbox); have n2_ := aM ((by rw [hg]; exact (below_size bQ) : w.heap.size ≤ gb288)); have n3_ := aM ((by rw [hg]; exact (below_size bQ) : w.heap.size ≤ gb288)); clear HB; have HB := n0_; have BK288 := n1_; have GW288 := n2_; have GE288 := n3_; clear n0_ n1_ n2_ n3_; clear hb hbox hg))
       have n0_ := aM (blk_drew BK288.out)
       have n1_ := aM (below_drew1 HB.out)
       clear BK288
       clear HB
       have BK288 := n0_
       have HB := n1_
       clear n0_ n1_
       refine start_ (n := 12) (S := fun w' => w'.cell? ⟨gb288, 0, none⟩ = some (.slice A0_0 l0_0.length c0_0) ∧ w'.cell? ⟨gb288, 1, none⟩ = some (.slice A0_1 l0_1.length c0_1) ∧ w'.cell? ⟨gb288, 2, none⟩ = some (.slice A0_2 l0_2.length c0_2) ∧ w'.cell? ⟨gb288, 3, none⟩ = some (.slice A0_3 l0_3.length c0_3)) (ds := []) mkimpl_applies_49 (by kernel_rfl) rfl rfl ⟨(blk_cell BK288.out 0).trans rfl, (blk_cell BK288.out 1).trans rfl, (blk_cell BK288.out 2).trans rfl, (blk_cell BK288.out 3).trans rfl⟩ (fun hHeld => ?_); refine with_tabW impl_applies.tab1 impl_applies.bits1 (fun HT_ HW_ => ?_)
       generalize w35.drew = w36 at BK288 HB hHeld ⊢
       refine pure_ (i := 0) (N := some 10) (v := ?_) (a' := ?_) mkimpl_applies_50 rfl rfl (any_of HT_.out (by kernel_rfl)) (fun _ _ _ h => h) (Or.inl ⟨by rfl, ?_⟩) ?_ ?_
       rotate_left
       ·intro w'
        go_simp
        with_reducible rfl
       rotate_left
       ·simp only [Act.put, sI, sZ, sS, i64_w, i32_w]
        rfl
       refine pure_ (i := 1) (N := some 11) (v := ?_) (a' := ?_) mkimpl_applies_51 rfl rfl (any_of HT_.out (by kernel_rfl)) (fun _ _ _ h => h) (Or.inl ⟨by rfl, ?_⟩) ?_ ?_
       rotate_left
       ·intro w'
        go_simp
        with_reducible rfl
       rotate_left
       ·simp only [Act.put, sI, sZ, sS, i64_w, i32_w]
        rfl
       refine pure_ (i := 5) (N := some 15) (v := ?_) (a' := ?_) mkimpl_applies_52 rfl rfl (any_of HT_.out (by kernel_rfl)) (fun _ _ _ h => h) (Or.inl ⟨by rfl, ?_⟩) ?_ ?_
       rotate_left
       ·intro w'
        go_simp
        with_reducible rfl
       rotate_left
       ·simp only [Act.put, sI, sZ, sS, i64_w, i32_w]
        rfl
       refine pure_ (i := 6) (N := some 16) (v := ?_) (a' := ?_) mkimpl_applies_53 rfl rfl (any_of HT_.out (by kernel_rfl)) (fun _ _ _ h => h) (Or.inl ⟨by rfl, ?_⟩) ?_ ?_
       rotate_left
       ·intro w'
        go_simp
        with_reducible rfl
       rotate_left
       ·simp only [Act.put, sI, sZ, sS, i64_w, i32_w]
        rfl
       refine take_ (i := 2) (N := some 12) (v := ?_) (a' := ?_) mkimpl_applies_54 rfl rfl (take_ofW HT_.out HW_.out (by kernel_rfl)) (fun _ _ _ h => h) (Or.inl ⟨by rfl, ?_⟩) hHeld ?_ ?_
       rotate_left
       ·rintro w' ⟨s0, s1, s2, s3⟩
        go_simp
        with_reducible rfl
       rotate_left
       ·simp only [Act.put, sI, sZ, sS, i64_w, i32_w]
        rfl
       refine pure_ (i := 3) (N := some 13) (v := ?_) (a' := ?_) mkimpl_applies_55 rfl rfl (any_of HT_.out (by kernel_rfl)) (fun _ _ _ h => h) (Or.inl ⟨by rfl, ?_⟩) ?_ ?_
       rotate_left
       ·intro w'
        go_simp
        with_reducible rfl
       rotate_left
       ·simp only [Act.put, sI, sZ, sS, i64_w, i32_w]
        rfl
       refine pure_ (i := 4) (N := some 14) (v := ?_) (a' := ?_) mkimpl_applies_56 rfl rfl (any_of HT_.out (by kernel_rfl)) (fun _ _ _ h => h) (Or.inl ⟨by rfl, ?_⟩) ?_ ?_
       rotate_left
       ·intro w'
        go_simp
        with_reducible rfl
       rotate_left
       ·simp only [Act.put, sI, sZ, sS, i64_w, i32_w]
        rfl
       refine pure_ (i := 10) (N := some 7) (v := ?_) (a' := ?_) mkimpl_applies_57 rfl rfl (any_of HT_.out (by kernel_rfl)) (fun _ _ _ h => h) (Or.inl ⟨by rfl, ?_⟩) ?_ ?_
       rotate_left
       ·intro w'
        go_simp
        with_reducible rfl
       rotate_left
       ·simp only [Act.put, sI, sZ, sS, i64_w, i32_w]
        rfl
       refine take_ (i := 7) (N := some 17) (v := ?_) (a' := ?_) mkimpl_applies_58 rfl rfl (take_ofW HT_.out HW_.out (by kernel_rfl)) (fun _ _ _ h => h) (Or.inl ⟨by rfl, ?_⟩) hHeld ?_ ?_
       rotate_left
       ·rintro w' ⟨s0, s1, s2, s3⟩
        go_simp
        with_reducible rfl
       rotate_left
       ·simp only [Act.put, sI, sZ, sS, i64_w, i32_w]
        rfl
       refine pure_ (i := 8) (N := some 18) (v := ?_) (a' := ?_) mkimpl_applies_59 rfl rfl (any_of HT_.out (by kernel_rfl)) (fun _ _ _ h => h) (Or.inl ⟨by rfl, ?_⟩) ?_ ?_
       rotate_left
       ·intro w'
        go_simp
        with_reducible rfl
       rotate_left
       ·simp only [Act.put, sI, sZ, sS, i64_w, i32_w]
        rfl
       refine pure_ (i := 9) (N := some 19) (v := ?_) (a' := ?_) mkimpl_applies_60 rfl rfl (any_of HT_.out (by kernel_rfl)) (fun _ _ _ h => h) (Or.inl ⟨by rfl, ?_⟩) ?_ ?_
       rotate_left
       ·intro w'
        go_simp
        with_reducible rfl
       rotate_left
       ·simp only [Act.put, sI, sZ, sS, i64_w, i32_w]
        rfl
       refine pure_ (i := 11) (N := some 8) (v := ?_) (a' := ?_) mkimpl_applies_61 rfl rfl (any_of HT_.out (by kernel_rfl)) (fun _ _ _ h => h) (Or.inl ⟨by rfl, ?_⟩) ?_ ?_
       rotate_left
       ·intro w'
        go_simp
        with_reducible rfl
       rotate_left
       ·simp only [Act.put, sI, sZ, sS, i64_w, i32_w]
        rfl
       refine done_ (done_of HT_.out (by kernel_rfl)) ?_
       have hcz37_0 : w36.cell? ⟨gb288, 0, none⟩ = some (.slice A0_0 l0_0.length c0_0) := (blk_cell BK288.out 0).trans rfl
       have hcz37_1 : w36.cell? ⟨gb288, 1, none⟩ = some (.slice A0_1 l0_1.length c0_1) := (blk_cell BK288.out 1).trans rfl
       have hcz37_2 : w36.cell? ⟨gb288, 2, none⟩ = some (.slice A0_2 l0_2.length c0_2) := (blk_cell BK288.out 2).trans rfl
       have hcz37_3 : w36.cell? ⟨gb288, 3, none⟩ = some (.slice A0_3 l0_3.length c0_3) := (blk_cell BK288.out 3).trans rfl
       have hfz37_0 := blk_frozen BK288.out 0
       have hfz37_1 := blk_frozen BK288.out 1
       have hfz37_2 := blk_frozen BK288.out 2
       have hfz37_3 := blk_frozen BK288.out 3
       try go_wp2
       have n0_ := aM (blk_drew BK288.out)
       have n1_ := aM (below_drew1 HB.out)
       clear BK288
       clear HB
       have BK288 := n0_
       have HB := n1_
       clear n0_ n1_
       have q39 : (a2 : Int) ≤ ((l1.length : Int) : Int) := dA
       obtain ⟨i039, hi039, _, hsz39, _⟩ := info_parts info107
       have hroom39 : l1.length ≤ c1 := HC1.out
       have hC39 : Kd.C k107 _ A1 l1.length l1 := HR1.out
       have ql39 : ((ji6) : Int) ≤ (a2 : Int) := dA
       have q039 : (0 : Int) ≤ ((ji6) : Int) := dA
       have hcut39 := cut_mid (P := Try.prog) 45 107 .i64 .i64 Try.underlying45 hi039 3 hsz39 A1 l1.length c1 (ji6) a2 q039 ql39 q39 hroom39
       have hr39 := Kd.C_mid (lo := ((ji6) : Int).toNat) (hi := (a2 : Int).toNat) (c := c1) hC39 (by omega) (by omega) hroom39
       obtain ⟨A39, hA39⟩ : ∃ A_, A_ = (if c1 = ((ji6) : Int).toNat then A1 else (A1 : Option Addr).map (·.add (((ji6) : Int).toNat * 3))) := ⟨_, rfl⟩
       obtain ⟨c39, hc39⟩ : ∃ c_, c_ = c1 - ((ji6) : Int).toNat := ⟨_, rfl⟩
       have hy39 : y289.length = (a2 : Int).toNat - ((ji6) : Int).toNat := (by rw [Ny289.out, List.length_drop, List.length_take] <;> omega)
       rw [show ((l1).take (a2 : Int).toNat).drop ((ji6) : Int).toNat = y289 from Ny289.out.symm] at hr39
       replace hr39 : Kd.C k107 _ A39 y289.length y289 := (by rw [hA39]; exact hr39)
       rw [← hy39, ← hA39, ← hc39] at hcut39
       have HR292 := aM hr39
       have HC292 := aM (show y289.length ≤ c39 from by rw [hy39, hc39]; exact Nat.sub_le_sub_right (Nat.le_trans (by omega) hroom39) _)
       clear hr39 hC39 hroom39 hi039 hsz39 hc39
       have KY39 := aM hy39
       have KA39 := aM hA39
       clear hy39 hA39
       replace q39 := eq_true q39
       refine start_ (n := 36) (S := fun w' => w'.cell? ⟨gb288, 0, none⟩ = some (.slice A0_0 l0_0.length c0_0) ∧ w'.cell? ⟨gb288, 1, none⟩ = some (.slice A0_1 l0_1.length c0_1) ∧ w'.cell? ⟨gb288, 2, none⟩ = some (.slice A0_2 l0_2.length c0_2) ∧ w'.cell? ⟨gb288, 3, none⟩ = some (.slice A0_3 l0_3.length c0_3)) (ds := []) mkimpl_applies_0 (by kernel_rfl) rfl rfl ⟨(blk_cell BK288.out 0).trans rfl, (blk_cell BK288.out 1).trans rfl, (blk_cell BK288.out 2).trans rfl, (blk_cell BK288.out 3).trans rfl⟩ (fun hHeld => ?_); refine with_tabW impl_applies.tab3 impl_applies.bits3 (fun HT_ HW_ => ?_)
       generalize w36.drew = w38 at BK288 HB HR292 hHeld ⊢
       refine pure_ (i := 0) (N := some 25) (v := ?_) (a' := ?_) mkimpl_applies_1 rfl rfl (any_of HT_.out (by kernel_rfl)) (fun _ _ _ h => h) (Or.inl ⟨by rfl, ?_⟩) ?_ ?_
       rotate_left
       ·intro w'
        go_simp
        with_reducible rfl
       rotate_left
       ·simp only [Act.put, sI, sZ, sS, i64_w, i32_w]
        rfl
       refine pure_ (i := 1) (N := some 26) (v := ?_) (a' := ?_) mkimpl_applies_2 rfl rfl (any_of HT_.out (by kernel_rfl)) (fun _ _ _ h => h) (Or.inl ⟨by rfl, ?_⟩) ?_ ?_
       rotate_left
       ·intro w'
        go_simp
        with_reducible rfl
       rotate_left
       ·simp only [Act.put, sI, sZ, sS, i64_w, i32_w]
        rfl
       refine pure_ (i := 2) (N := some 27) (v := ?_) (a' := ?_) mkimpl_applies_3 rfl rfl (any_of HT_.out (by kernel_rfl)) (fun _ _ _ h => h) (Or.inl ⟨by rfl, ?_⟩) ?_ ?_
       rotate_left
       ·intro w'
        go_simp
        with_reducible rfl
       rotate_left
       ·simp only [Act.put, sI, sZ, sS, i64_w, i32_w]
        rfl
       refine pure_ (i := 3) (N := some 28) (v := ?_) (a' := ?_) mkimpl_applies_4 rfl rfl (any_of HT_.out (by kernel_rfl)) (fun _ _ _ h => h) (Or.inl ⟨by rfl, ?_⟩) ?_ ?_
       rotate_left
       ·intro w'
        go_simp
        with_reducible rfl
       rotate_left
       ·simp only [Act.put, sI, sZ, sS, i64_w, i32_w]
        rfl
       refine pure_ (i := 4) (N := some 29) (v := ?_) (a' := ?_) mkimpl_applies_5 rfl rfl (any_of HT_.out (by kernel_rfl)) (fun _ _ _ h => h) (Or.inl ⟨by rfl, ?_⟩) ?_ ?_
       rotate_left
       ·intro w'
        go_simp
        with_reducible rfl
       rotate_left
       ·simp only [Act.put, sI, sZ, sS, i64_w, i32_w]
        rfl
       refine pure_ (i := 5) (N := some 30) (v := ?_) (a' := ?_) mkimpl_applies_6 rfl rfl (any_of HT_.out (by kernel_rfl)) (fun _ _ _ h => h) (Or.inl ⟨by rfl, ?_⟩) ?_ ?_
       rotate_left
       ·intro w'
        go_simp
        with_reducible rfl
       rotate_left
       ·simp only [Act.put, sI, sZ, sS, i64_w, i32_w]
        rfl
       refine pure_ (i := 6) (N := some 31) (v := ?_) (a' := ?_) mkimpl_applies_7 rfl rfl (any_of HT_.out (by kernel_rfl)) (fun _ _ _ h => h) (Or.inl ⟨by rfl, ?_⟩) ?_ ?_
       rotate_left
       ·intro w'
        go_simp
        with_reducible rfl
       rotate_left
       ·simp only [Act.put, sI, sZ, sS, i64_w, i32_w]
        rfl
       refine pure_ (i := 7) (N := some 32) (v := ?_) (a' := ?_) mkimpl_applies_8 rfl rfl (any_of HT_.out (by kernel_rfl)) (fun _ _ _ h => h) (Or.inl ⟨by rfl, ?_⟩) ?_ ?_
       rotate_left
       ·intro w'
        go_simp
        with_reducible rfl
       rotate_left
       ·simp only [Act.put, sI, sZ, sS, i64_w, i32_w]
        rfl
       refine pure_ (i := 8) (N := some 33) (v := ?_) (a' := ?_) mkimpl_applies_9 rfl rfl (any_of HT_.out (by kernel_rfl)) (fun _ _ _ h => h) (Or.inl ⟨by rfl, ?_⟩) ?_ ?_
       rotate_left
       ·intro w'
        go_simp
        with_reducible rfl
       rotate_left
       ·simp only [Act.put, sI, sZ, sS, i64_w, i32_w]
        rfl
       refine pure_ (i := 9) (N := some 34) (v := ?_) (a' := ?_) mkimpl_applies_10 rfl rfl (any_of HT_.out (by kernel_rfl)) (fun _ _ _ h => h) (Or.inl ⟨by rfl, ?_⟩) ?_ ?_
       rotate_left
       ·intro w'
        go_simp
        with_reducible rfl
       rotate_left
       ·simp only [Act.put, sI, sZ, sS, i64_w, i32_w]
        rfl
       refine pure_ (i := 11) (N := some 36) (v := ?_) (a' := ?_) mkimpl_applies_11 rfl rfl (any_of HT_.out (by kernel_rfl)) (fun _ _ _ h => h) (Or.inl ⟨by rfl, ?_⟩) ?_ ?_
       rotate_left
       ·intro w'
        go_simp
        with_reducible rfl
       rotate_left
       ·simp only [Act.put, sI, sZ, sS, i64_w, i32_w]
        rfl
       refine pure_ (i := 12) (N := some 37) (v := ?_) (a' := ?_) mkimpl_applies_13 rfl rfl (any_of HT_.out (by kernel_rfl)) (fun _ _ _ h => h) (Or.inl ⟨by rfl, ?_⟩) ?_ ?_
       rotate_left
       ·intro w'
        go_simp
        with_reducible rfl
       rotate_left
       ·simp only [Act.put, sI, sZ, sS, i64_w, i32_w]
        rfl
       refine pure_ (i := 13) (N := some 38) (v := ?_) (a' := ?_) mkimpl_applies_15 rfl rfl (any_of HT_.out (by kernel_rfl)) (fun _ _ _ h => h) (Or.inl ⟨by rfl, ?_⟩) ?_ ?_
       rotate_left
       ·intro w'
        go_simp
        with_reducible rfl
       rotate_left
       ·simp only [Act.put, sI, sZ, sS, i64_w, i32_w]
        rfl
       refine pure_ (i := 14) (N := some 39) (v := ?_) (a' := ?_) mkimpl_applies_17 rfl rfl (any_of HT_.out (by kernel_rfl)) (fun _ _ _ h => h) (Or.inl ⟨by rfl, ?_⟩) ?_ ?_
       rotate_left
       ·intro w'
        go_simp
        with_reducible rfl
       rotate_left
       ·simp only [Act.put, sI, sZ, sS, i64_w, i32_w]
        rfl
       refine take_ (i := 10) (N := some 35) (v := ?_) (a' := ?_) mkimpl_applies_19 rfl rfl (take_ofW HT_.out HW_.out (by kernel_rfl)) (fun _ _ _ h => h) (Or.inl ⟨by rfl, ?_⟩) hHeld ?_ ?_
       rotate_left
       ·rintro w' ⟨s0, s1, s2, s3⟩
        go_simp
        with_reducible rfl
       rotate_left
       ·simp only [Act.put, sI, sZ, sS, i64_w, i32_w]
        rfl
       refine one_ (i := 15) (N := some 40) mkimpl_applies_20 rfl rfl (one_of HT_.out (by kernel_rfl)) (by decide) (fun K hK => ?_)
       refine goes_ Try.func139 (by kernel_rfl) rfl #[.slice A0_0 l0_0.length c0_0, .slice A39 y289.length c39] (by rfl) rfl rfl gQ ?_
       with_reducible refine (impl_inClasses.calls k _ _ l0_0 _ _ y289 false _ ?side1 ?side2 ?side3 ?side4 A10.out).mono ?_
       (case side1 => exact cQ HR0_0.out)
       (case side2 => exact HC0_0.out)
       (case side3 => exact cQ HR292.out)
       (case side4 => exact HC292.out)
       rintro e w' ⟨rfl, ⟨nd, rfl⟩⟩
       refine ⟨_, rfl, ?_⟩
       refine hK.out _ _ ⟨(blk_cell BK288.out 0).trans rfl, (blk_cell BK288.out 1).trans rfl, (blk_cell BK288.out 2).trans rfl, (blk_cell BK288.out 3).trans rfl⟩ (fun hHeld => ?_)
       clear hK K
       refine norm_ (a' := ?_) ?_ ?_
       rotate_left
       ·show Act.put _ (some 40) _ = _
        simp only [Act.put, sI, sZ, sS, i64_w, i32_w]
        rfl
       refine pure_ (i := 16) (N := some 41) (v := ?_) (a' := ?_) mkimpl_applies_21 rfl rfl (any_of HT_.out (by kernel_rfl)) (fun _ _ _ h => h) (Or.inl ⟨by rfl, ?_⟩) ?_ ?_
       rotate_left
       ·intro w'
        go_simp
        with_reducible rfl
       rotate_left
       ·simp only [Act.put, sI, sZ, sS, i64_w, i32_w]
        rfl
       refine pure_ (i := 17) (N := some 42) (v := ?_) (a' := ?_) mkimpl_applies_22 rfl rfl (any_of HT_.out (by kernel_rfl)) (fun _ _ _ h => h) (Or.inl ⟨by rfl, ?_⟩) ?_ ?_
       rotate_left
       ·intro w'
        go_simp
        with_reducible rfl
       rotate_left
       ·simp only [Act.put, sI, sZ, sS, i64_w, i32_w]
        rfl
       refine pure_ (i := 18) (N := some 43) (v := undef) (a' := ?_) mkimpl_applies_23 rfl rfl (any_of HT_.out (by kernel_rfl)) (fun _ _ _ h => h) (Or.inr ⟨by rfl, rfl⟩) ?_ ?_
       rotate_left
       ·simp only [Act.put, sI, sZ, sS, i64_w, i32_w]
        rfl
       refine pure_ (i := 19) (N := some 44) (v := undef) (a' := ?_) mkimpl_applies_25 rfl rfl (any_of HT_.out (by kernel_rfl)) (fun _ _ _ h => h) (Or.inr ⟨by rfl, rfl⟩) ?_ ?_
       rotate_left
       ·simp only [Act.put, sI, sZ, sS, i64_w, i32_w]
        rfl
       refine pure_ (i := 20) (N := some 45) (v := undef) (a' := ?_) mkimpl_applies_27 rfl rfl (any_of HT_.out (by kernel_rfl)) (fun _ _ _ h => h) (Or.inr ⟨by rfl, rfl⟩) ?_ ?_
       rotate_left
       ·simp only [Act.put, sI, sZ, sS, i64_w, i32_w]
        rfl
       refine pure_ (i := 21) (N := some 46) (v := undef) (a' := ?_) mkimpl_applies_29 rfl rfl (any_of HT_.out (by kernel_rfl)) (fun _ _ _ h => h) (Or.inr ⟨by rfl, rfl⟩) ?_ ?_
       rotate_left
       ·simp only [Act.put, sI, sZ, sS, i64_w, i32_w]
        rfl
       refine pure_ (i := 22) (N := some 47) (v := undef) (a' := ?_) mkimpl_applies_31 rfl rfl (any_of HT_.out (by kernel_rfl)) (fun _ _ _ h => h) (Or.inr ⟨by rfl, rfl⟩) ?_ ?_
       rotate_left
       ·simp only [Act.put, sI, sZ, sS, i64_w, i32_w]
        rfl
       refine pure_ (i := 23) (N := some 48) (v := undef) (a' := ?_) mkimpl_applies_32 rfl rfl (any_of HT_.out (by kernel_rfl)) (fun _ _ _ h => h) (Or.inr ⟨by rfl, rfl⟩) ?_ ?_
       rotate_left
       ·simp only [Act.put, sI, sZ, sS, i64_w, i32_w]
        rfl
       refine pure_ (i := 24) (N := some 49) (v := undef) (a' := ?_) mkimpl_applies_33 rfl rfl (any_of HT_.out (by kernel_rfl)) (fun _ _ _ h => h) (Or.inr ⟨by rfl, rfl⟩) ?_ ?_
       rotate_left
       ·simp only [Act.put, sI, sZ, sS, i64_w, i32_w]
        rfl
       refine pure_ (i := 25) (N := some 50) (v := ?_) (a' := ?_) mkimpl_applies_34 rfl rfl (any_of HT_.out (by kernel_rfl)) (fun _ _ _ h => h) (Or.inl ⟨by rfl, ?_⟩) ?_ ?_
       rotate_left
       ·intro w'
        go_simp
        with_reducible rfl
       rotate_left
       ·simp only [Act.put, sI, sZ, sS, i64_w, i32_w]
        rfl
       refine pure_ (i := 26) (N := some 51) (v := ?_) (a' := ?_) mkimpl_applies_35 rfl rfl (any_of HT_.out (by kernel_rfl)) (fun _ _ _ h => h) (Or.inl ⟨by rfl, ?_⟩) ?_ ?_
       rotate_left
       ·intro w'
        go_simp
        with_reducible rfl
       rotate_left
       ·simp only [Act.put, sI, sZ, sS, i64_w, i32_w]
        rfl
       refine pure_ (i := 27) (N := some 52) (v := undef) (a' := ?_) mkimpl_applies_36 rfl rfl (any_of HT_.out (by kernel_rfl)) (fun _ _ _ h => h) (Or.inr ⟨by rfl, rfl⟩) ?_ ?_
       rotate_left
       ·simp only [Act.put, sI, sZ, sS, i64_w, i32_w]
        rfl
       refine pure_ (i := 28) (N := some 53) (v := undef) (a' := ?_) mkimpl_applies_38 rfl rfl (any_of HT_.out (by kernel_rfl)) (fun _ _ _ h => h) (Or.inr ⟨by rfl, rfl⟩) ?_ ?_
       rotate_left
       ·simp only [Act.put, sI, sZ, sS, i64_w, i32_w]
        rfl
       refine pure_ (i := 29) (N := some 54) (v := undef) (a' := ?_) mkimpl_applies_40 rfl rfl (any_of HT_.out (by kernel_rfl)) (fun _ _ _ h => h) (Or.inr ⟨by rfl, rfl⟩) ?_ ?_
       rotate_left
       ·simp only [Act.put, sI, sZ, sS, i64_w, i32_w]
        rfl
       refine pure_ (i := 30) (N := some 55) (v := undef) (a' := ?_) mkimpl_applies_42 rfl rfl (any_of HT_.out (by kernel_rfl)) (fun _ _ _ h => h) (Or.inr ⟨by rfl, rfl⟩) ?_ ?_
       rotate_left
       ·simp only [Act.put, sI, sZ, sS, i64_w, i32_w]
        rfl
       refine pure_ (i := 31) (N := some 56) (v := undef) (a' := ?_) mkimpl_applies_44 rfl rfl (any_of HT_.out (by kernel_rfl)) (fun _ _ _ h => h) (Or.inr ⟨by rfl, rfl⟩) ?_ ?_
       rotate_left
       ·simp only [Act.put, sI, sZ, sS, i64_w, i32_w]
        rfl
       refine pure_ (i := 32) (N := some 57) (v := undef) (a' := ?_) mkimpl_applies_45 rfl rfl (any_of HT_.out (by kernel_rfl)) (fun _ _ _ h => h) (Or.inr ⟨by rfl, rfl⟩) ?_ ?_
       rotate_left
       ·simp only [Act.put, sI, sZ, sS, i64_w, i32_w]
        rfl
       refine pure_ (i := 33) (N := some 58) (v := undef) (a' := ?_) mkimpl_applies_46 rfl rfl (any_of HT_.out (by kernel_rfl)) (fun _ _ _ h => h) (Or.inr ⟨by rfl, rfl⟩) ?_ ?_
       rotate_left
       ·simp only [Act.put, sI, sZ, sS, i64_w, i32_w]
        rfl
       refine pure_ (i := 34) (N := some 59) (v := ?_) (a' := ?_) mkimpl_applies_47 rfl rfl (any_of HT_.out (by kernel_rfl)) (fun _ _ _ h => h) (Or.inl ⟨by rfl, ?_⟩) ?_ ?_
       rotate_left
       ·intro w'
        go_simp
        with_reducible rfl
       rotate_left
       ·simp only [Act.put, sI, sZ, sS, i64_w, i32_w]
        rfl
       refine pure_ (i := 35) (N := some 6) (v := ?_) (a' := ?_) mkimpl_applies_48 rfl rfl (any_of HT_.out (by kernel_rfl)) (fun _ _ _ h => h) (Or.inl ⟨by rfl, ?_⟩) ?_ ?_
       rotate_left
       ·intro w'
        go_simp
        with_reducible rfl
       rotate_left
       ·simp only [Act.put, sI, sZ, sS, i64_w, i32_w]
        rfl
       refine done_ (done_of HT_.out (by kernel_rfl)) ?_
       try go_wp2
       go_ret
       exact ⟨by first | rfl | (simp [errW_none, errW_some] <;> rfl) | (simp only [← hji6]; first | rfl | (simp [errW_none, errW_some] <;> rfl)) | (simp [*, errW_none, errW_some] <;> rfl), by repeat (first | (with_reducible first | exact HB.out | apply bA | apply bN | apply bD | refine below_set ?_ GE288.out) | exact HB.out)⟩
     ·rw [if_neg c9] at H
      exact absurd H (by simp)
    ·rw [if_neg c8] at H
     exact absurd H (by simp)
   ·rw [if_neg c7] at H
    exact absurd H (by simp)
  ·rw [if_neg c5] at H
   have c5b0 : decide ((wrap64 ((wrap64 (a2 + (l0_1.length : Int))) + (l0_2.length : Int))) ≤ (l1.length : Int)) = false := decide_eq_false c5
   clear c5
   obtain rfl := Option.some.inj H
   go_enter Try.func77, Try.ntmps77
   try go_wp2_with (first | ((with_reducible refine gate_dst (N := 3) rfl ?_); (try (refine gate_guard (by rfl) ?_; dsimp only)); refine box_event ?hg (N := 3) ?hd (cs := #[.slice A0_0 l0_0.length c0_0, .slice A0_1 l0_1.length c0_1, .slice A0_2 l0_2.length c0_2, .slice A0_3 l0_3.length c0_3]) (t := 38) ?hr ?_; (case hd => rfl); (case hg => rfl); (case hr => first | (go_simp; done) | (go_simp; rfl)); intro gb288 hg w40 hbox hb; have n0_ := aM (below_step bQ hb); have n1_ := aM (hbox); have n2_ := aM ((by rw [hg]; exact (below_size bQ) : w.heap.size ≤ gb288)); have n3_ := aM ((by rw [hg]; exact (below_size bQ) : w.heap.size ≤ gb288)); clear HB; have HB := n0_; have BK288 := n1_; have GW288 := n2_; have GE288 := n3_; clear n0_ n1_ n2_ n3_; clear hb hbox hg))
   have n0_ := aM (blk_drew BK288.out)
   have n1_ := aM (below_drew1 HB.out)
   clear BK288
   clear HB
   have BK288 := n0_
   have HB := n1_
   clear n0_ n1_
   refine start_ (n := 12) (S := fun w' => w'.cell? ⟨gb288, 0, none⟩ = some (.slice A0_0 l0_0.length c0_0) ∧ w'.cell? ⟨gb288, 1, none⟩ = some (.slice A0_1 l0_1.length c0_1) ∧ w'.cell? ⟨gb288, 2, none⟩ = some (.slice A0_2 l0_2.length c0_2) ∧ w'.cell? ⟨gb288, 3, none⟩ = some (.slice A0_3 l0_3.length c0_3)) (ds := []) mkimpl_applies_49 (by kernel_rfl) rfl rfl ⟨(blk_cell BK288.out 0).trans rfl, (blk_cell BK288.out 1).trans rfl, (blk_cell BK288.out 2).trans rfl, (blk_cell BK288.out 3).trans rfl⟩ (fun hHeld => ?_); refine with_tabW impl_applies.tab1 impl_applies.bits1 (fun HT_ HW_ => ?_)
   generalize w40.drew = w41 at BK288 HB hHeld ⊢
   refine pure_ (i := 0) (N := some 10) (v := ?_) (a' := ?_) mkimpl_applies_50 rfl rfl (any_of HT_.out (by kernel_rfl)) (fun _ _ _ h => h) (Or.inl ⟨by rfl, ?_⟩) ?_ ?_
   rotate_left
   ·intro w'
    go_simp
    with_reducible rfl
   rotate_left
   ·simp only [Act.put, sI, sZ, sS, i64_w, i32_w]
    rfl
   refine pure_ (i := 1) (N := some 11) (v := ?_) (a' := ?_) mkimpl_applies_51 rfl rfl (any_of HT_.out (by kernel_rfl)) (fun _ _ _ h => h) (Or.inl ⟨by rfl, ?_⟩) ?_ ?_
   rotate_left
   ·intro w'
    go_simp
    with_reducible rfl
   rotate_left
   ·simp only [Act.put, sI, sZ, sS, i64_w, i32_w]
    rfl
   refine pure_ (i := 5) (N := some 15) (v := ?_) (a' := ?_) mkimpl_applies_52 rfl rfl (any_of HT_.out (by kernel_rfl)) (fun _ _ _ h => h) (Or.inl ⟨by rfl, ?_⟩) ?_ ?_
   rotate_left
   ·intro w'
    go_simp
    with_reducible rfl
   rotate_left
   ·simp only [Act.put, sI, sZ, sS, i64_w, i32_w]
    rfl
   refine pure_ (i := 6) (N := some 16) (v := ?_) (a' := ?_) mkimpl_applies_53 rfl rfl (any_of HT_.out (by kernel_rfl)) (fun _ _ _ h => h) (Or.inl ⟨by rfl, ?_⟩) ?_ ?_
   rotate_left
   ·intro w'
    go_simp
    with_reducible rfl
   rotate_left
   ·simp only [Act.put, sI, sZ, sS, i64_w, i32_w]
    rfl
   refine take_ (i := 2) (N := some 12) (v := ?_) (a' := ?_) mkimpl_applies_54 rfl rfl (take_ofW HT_.out HW_.out (by kernel_rfl)) (fun _ _ _ h => h) (Or.inl ⟨by rfl, ?_⟩) hHeld ?_ ?_
   rotate_left
   ·rintro w' ⟨s0, s1, s2, s3⟩
    go_simp
    with_reducible rfl
   rotate_left
   ·simp only [Act.put, sI, sZ, sS, i64_w, i32_w]
    rfl
   refine pure_ (i := 3) (N := some 13) (v := ?_) (a' := ?_) mkimpl_applies_55 rfl rfl (any_of HT_.out (by kernel_rfl)) (fun _ _ _ h => h) (Or.inl ⟨by rfl, ?_⟩) ?_ ?_
   rotate_left
   ·intro w'
    go_simp
    with_reducible rfl
   rotate_left
   ·simp only [Act.put, sI, sZ, sS, i64_w, i32_w]
    rfl
   refine pure_ (i := 4) (N := some 14) (v := ?_) (a' := ?_) mkimpl_applies_56 rfl rfl (any_of HT_.out (by kernel_rfl)) (fun _ _ _ h => h) (Or.inl ⟨by rfl, ?_⟩) ?_ ?_
   rotate_left
   ·intro w'
    go_simp
    with_reducible rfl
   rotate_left
   ·simp only [Act.put, sI, sZ, sS, i64_w, i32_w]
    rfl
   refine pure_ (i := 10) (N := some 7) (v := ?_) (a' := ?_) mkimpl_applies_57 rfl rfl (any_of HT_.out (by kernel_rfl)) (fun _ _ _ h => h) (Or.inl ⟨by rfl, ?_⟩) ?_ ?_
   rotate_left
   ·intro w'
    go_simp
    with_reducible rfl
   rotate_left
   ·simp only [Act.put, sI, sZ, sS, i64_w, i32_w]
    rfl
   refine take_ (i := 7) (N := some 17) (v := ?_) (a' := ?_) mkimpl_applies_58 rfl rfl (take_ofW HT_.out HW_.out (by kernel_rfl)) (fun _ _ _ h => h) (Or.inl ⟨by rfl, ?_⟩) hHeld ?_ ?_
   rotate_left
   ·rintro w' ⟨s0, s1, s2, s3⟩
    go_simp
    with_reducible rfl
   rotate_left
   ·simp only [Act.put, sI, sZ, sS, i64_w, i32_w]
    rfl
   refine pure_ (i := 8) (N := some 18) (v := ?_) (a' := ?_) mkimpl_applies_59 rfl rfl (any_of HT_.out (by kernel_rfl)) (fun _ _ _ h => h) (Or.inl ⟨by rfl, ?_⟩) ?_ ?_
   rotate_left
   ·intro w'
    go_simp
    with_reducible rfl
   rotate_left
   ·simp only [Act.put, sI, sZ, sS, i64_w, i32_w]
    rfl
   refine pure_ (i := 9) (N := some 19) (v := ?_) (a' := ?_) mkimpl_applies_60 rfl rfl (any_of HT_.out (by kernel_rfl)) (fun _ _ _ h => h) (Or.inl ⟨by rfl, ?_⟩) ?_ ?_
   rotate_left
   ·intro w'
    go_simp
    with_reducible rfl
   rotate_left
   ·simp only [Act.put, sI, sZ, sS, i64_w, i32_w]
    rfl
   refine pure_ (i := 11) (N := some 8) (v := ?_) (a' := ?_) mkimpl_applies_61 rfl rfl (any_of HT_.out (by kernel_rfl)) (fun _ _ _ h => h) (Or.inl ⟨by rfl, ?_⟩) ?_ ?_
   rotate_left
   ·intro w'
    go_simp
    with_reducible rfl
   rotate_left
   ·simp only [Act.put, sI, sZ, sS, i64_w, i32_w]
    rfl
   refine done_ (done_of HT_.out (by kernel_rfl)) ?_
   have hcz42_0 : w41.cell? ⟨gb288, 0, none⟩ = some (.slice A0_0 l0_0.length c0_0) := (blk_cell BK288.out 0).trans rfl
   have hcz42_1 : w41.cell? ⟨gb288, 1, none⟩ = some (.slice A0_1 l0_1.length c0_1) := (blk_cell BK288.out 1).trans rfl
   have hcz42_2 : w41.cell? ⟨gb288, 2, none⟩ = some (.slice A0_2 l0_2.length c0_2) := (blk_cell BK288.out 2).trans rfl
   have hcz42_3 : w41.cell? ⟨gb288, 3, none⟩ = some (.slice A0_3 l0_3.length c0_3) := (blk_cell BK288.out 3).trans rfl
   have hfz42_0 := blk_frozen BK288.out 0
   have hfz42_1 := blk_frozen BK288.out 1
   have hfz42_2 := blk_frozen BK288.out 2
   have hfz42_3 := blk_frozen BK288.out 3
   try go_wp2
   have n0_ := aM (blk_drew BK288.out)
   have n1_ := aM (below_drew1 HB.out)
   clear BK288
   clear HB
   have BK288 := n0_
   have HB := n1_
   clear n0_ n1_
   refine start_ (n := 36) (S := fun w' => True) (ds := []) mkimpl_applies_0 (by kernel_rfl) rfl rfl trivial (fun hHeld => ?_); refine with_tabW impl_applies.tab3 impl_applies.bits3 (fun HT_ HW_ => ?_)
   generalize w41.drew = w43 at BK288 HB hHeld ⊢
   refine pure_ (i := 0) (N := some 25) (v := ?_) (a' := ?_) mkimpl_applies_1 rfl rfl (any_of HT_.out (by kernel_rfl)) (fun _ _ _ h => h) (Or.inl ⟨by rfl, ?_⟩) ?_ ?_
   rotate_left
   ·intro w'
    go_simp
    with_reducible rfl
   rotate_left
   ·simp only [Act.put, sI, sZ, sS, i64_w, i32_w]
    rfl
   refine pure_ (i := 1) (N := some 26) (v := ?_) (a' := ?_) mkimpl_applies_2 rfl rfl (any_of HT_.out (by kernel_rfl)) (fun _ _ _ h => h) (Or.inl ⟨by rfl, ?_⟩) ?_ ?_
   rotate_left
   ·intro w'
    go_simp
    with_reducible rfl
   rotate_left
   ·simp only [Act.put, sI, sZ, sS, i64_w, i32_w]
    rfl
   refine pure_ (i := 2) (N := some 27) (v := ?_) (a' := ?_) mkimpl_applies_3 rfl rfl (any_of HT_.out (by kernel_rfl)) (fun _ _ _ h => h) (Or.inl ⟨by rfl, ?_⟩) ?_ ?_
   rotate_left
   ·intro w'
    go_simp
    with_reducible rfl
   rotate_left
   ·simp only [Act.put, sI, sZ, sS, i64_w, i32_w]
    rfl
   refine pure_ (i := 3) (N := some 28) (v := ?_) (a' := ?_) mkimpl_applies_4 rfl rfl (any_of HT_.out (by kernel_rfl)) (fun _ _ _ h => h) (Or.inl ⟨by rfl, ?_⟩) ?_ ?_
   rotate_left
   ·intro w'
    go_simp
    with_reducible rfl
   rotate_left
   ·simp only [Act.put, sI, sZ, sS, i64_w, i32_w]
    rfl
   refine pure_ (i := 4) (N := some 29) (v := ?_) (a' := ?_) mkimpl_applies_5 rfl rfl (any_of HT_.out (by kernel_rfl)) (fun _ _ _ h => h) (Or.inl ⟨by rfl, ?_⟩) ?_ ?_
   rotate_left
   ·intro w'
    go_simp
    with_reducible rfl
   rotate_left
   ·simp only [Act.put, sI, sZ, sS, i64_w, i32_w]
    rfl
   refine pure_ (i := 5) (N := some 30) (v := ?_) (a' := ?_) mkimpl_applies_6 rfl rfl (any_of HT_.out (by kernel_rfl)) (fun _ _ _ h => h) (Or.inl ⟨by rfl, ?_⟩) ?_ ?_
   rotate_left
   ·intro w'
    go_simp
    with_reducible rfl
   rotate_left
   ·simp only [Act.put, sI, sZ, sS, i64_w, i32_w]
    rfl
   refine pure_ (i := 6) (N := some 31) (v := ?_) (a' := ?_) mkimpl_applies_7 rfl rfl (any_of HT_.out (by kernel_rfl)) (fun _ _ _ h => h) (Or.inl ⟨by rfl, ?_⟩) ?_ ?_
   rotate_left
   ·intro w'
    go_simp
    with_reducible rfl
   rotate_left
   ·simp only [Act.put, sI, sZ, sS, i64_w, i32_w]
    rfl
   refine pure_ (i := 7) (N := some 32) (v := ?_) (a' := ?_) mkimpl_applies_8 rfl rfl (any_of HT_.out (by kernel_rfl)) (fun _ _ _ h => h) (Or.inl ⟨by rfl, ?_⟩) ?_ ?_
   rotate_left
   ·intro w'
    go_simp
    with_reducible rfl
   rotate_left
   ·simp only [Act.put, sI, sZ, sS, i64_w, i32_w]
    rfl
   refine pure_ (i := 8) (N := some 33) (v := ?_) (a' := ?_) mkimpl_applies_9 rfl rfl (any_of HT_.out (by kernel_rfl)) (fun _ _ _ h => h) (Or.inl ⟨by rfl, ?_⟩) ?_ ?_
   rotate_left
   ·intro w'
    go_simp
    with_reducible rfl
   rotate_left
   ·simp only [Act.put, sI, sZ, sS, i64_w, i32_w]
    rfl
   refine pure_ (i := 9) (N := some 34) (v := undef) (a' := ?_) mkimpl_applies_10 rfl rfl (any_of HT_.out (by kernel_rfl)) (fun _ _ _ h => h) (Or.inr ⟨by rfl, rfl⟩) ?_ ?_
   rotate_left
   ·simp only [Act.put, sI, sZ, sS, i64_w, i32_w]
    rfl
   refine pure_ (i := 10) (N := some 35) (v := undef) (a' := ?_) mkimpl_applies_12 rfl rfl (any_of HT_.out (by kernel_rfl)) (fun _ _ _ h => h) (Or.inr ⟨by rfl, rfl⟩) ?_ ?_
   rotate_left
   ·simp only [Act.put, sI, sZ, sS, i64_w, i32_w]
    rfl
   refine pure_ (i := 11) (N := some 36) (v := undef) (a' := ?_) mkimpl_applies_14 rfl rfl (any_of HT_.out (by kernel_rfl)) (fun _ _ _ h => h) (Or.inr ⟨by rfl, rfl⟩) ?_ ?_
   rotate_left
   ·simp only [Act.put, sI, sZ, sS, i64_w, i32_w]
    rfl
   refine pure_ (i := 12) (N := some 37) (v := undef) (a' := ?_) mkimpl_applies_16 rfl rfl (any_of HT_.out (by kernel_rfl)) (fun _ _ _ h => h) (Or.inr ⟨by rfl, rfl⟩) ?_ ?_
   rotate_left
   ·simp only [Act.put, sI, sZ, sS, i64_w, i32_w]
    rfl
   refine pure_ (i := 13) (N := some 38) (v := undef) (a' := ?_) mkimpl_applies_18 rfl rfl (any_of HT_.out (by kernel_rfl)) (fun _ _ _ h => h) (Or.inr ⟨by rfl, rfl⟩) ?_ ?_
   rotate_left
   ·simp only [Act.put, sI, sZ, sS, i64_w, i32_w]
    rfl
   refine pure_ (i := 14) (N := some 39) (v := undef) (a' := ?_) mkimpl_applies_19 rfl rfl (any_of HT_.out (by kernel_rfl)) (fun _ _ _ h => h) (Or.inr ⟨by rfl, rfl⟩) ?_ ?_
   rotate_left
   ·simp only [Act.put, sI, sZ, sS, i64_w, i32_w]
    rfl
   refine pure_ (i := 15) (N := some 40) (v := undef) (a' := ?_) mkimpl_applies_20 rfl rfl (any_of HT_.out (by kernel_rfl)) (fun _ _ _ h => h) (Or.inr ⟨by rfl, rfl⟩) ?_ ?_
   rotate_left
   ·simp only [Act.put, sI, sZ, sS, i64_w, i32_w]
    rfl
   refine pure_ (i := 16) (N := some 41) (v := ?_) (a' := ?_) mkimpl_applies_21 rfl rfl (any_of HT_.out (by kernel_rfl)) (fun _ _ _ h => h) (Or.inl ⟨by rfl, ?_⟩) ?_ ?_
   rotate_left
   ·intro w'
    go_simp
    with_reducible rfl
   rotate_left
   ·simp only [Act.put, sI, sZ, sS, i64_w, i32_w]
    rfl
   refine pure_ (i := 17) (N := some 42) (v := ?_) (a' := ?_) mkimpl_applies_22 rfl rfl (any_of HT_.out (by kernel_rfl)) (fun _ _ _ h => h) (Or.inl ⟨by rfl, ?_⟩) ?_ ?_
   rotate_left
   ·intro w'
    go_simp
    with_reducible rfl
   rotate_left
   ·simp only [Act.put, sI, sZ, sS, i64_w, i32_w]
    rfl
   refine pure_ (i := 18) (N := some 43) (v := undef) (a' := ?_) mkimpl_applies_23 rfl rfl (any_of HT_.out (by kernel_rfl)) (fun _ _ _ h => h) (Or.inr ⟨by rfl, rfl⟩) ?_ ?_
   rotate_left
   ·simp only [Act.put, sI, sZ, sS, i64_w, i32_w]
    rfl
   refine pure_ (i := 19) (N := some 44) (v := undef) (a' := ?_) mkimpl_applies_25 rfl rfl (any_of HT_.out (by kernel_rfl)) (fun _ _ _ h => h) (Or.inr ⟨by rfl, rfl⟩) ?_ ?_
   rotate_left
   ·simp only [Act.put, sI, sZ, sS, i64_w, i32_w]
    rfl
   refine pure_ (i := 20) (N := some 45) (v := undef) (a' := ?_) mkimpl_applies_27 rfl rfl (any_of HT_.out (by kernel_rfl)) (fun _ _ _ h => h) (Or.inr ⟨by rfl, rfl⟩) ?_ ?_
   rotate_left
   ·simp only [Act.put, sI, sZ, sS, i64_w, i32_w]
    rfl
   refine pure_ (i := 21) (N := some 46) (v := undef) (a' := ?_) mkimpl_applies_29 rfl rfl (any_of HT_.out (by kernel_rfl)) (fun _ _ _ h => h) (Or.inr ⟨by rfl, rfl⟩) ?_ ?_
   rotate_left
   ·simp only [Act.put, sI, sZ, sS, i64_w, i32_w]
    rfl
   refine pure_ (i := 22) (N := some 47) (v := undef) (a' := ?_) mkimpl_applies_31 rfl rfl (any_of HT_.out (by kernel_rfl)) (fun _ _ _ h => h) (Or.inr ⟨by rfl, rfl⟩) ?_ ?_
   rotate_left
   ·simp only [Act.put, sI, sZ, sS, i64_w, i32_w]
    rfl
   refine pure_ (i := 23) (N := some 48) (v := undef) (a' := ?_) mkimpl_applies_32 rfl rfl (any_of HT_.out (by kernel_rfl)) (fun _ _ _ h => h) (Or.inr ⟨by rfl, rfl⟩) ?_ ?_
   rotate_left
   ·simp only [Act.put, sI, sZ, sS, i64_w, i32_w]
    rfl
   refine pure_ (i := 24) (N := some 49) (v := undef) (a' := ?_) mkimpl_applies_33 rfl rfl (any_of HT_.out (by kernel_rfl)) (fun _ _ _ h => h) (Or.inr ⟨by rfl, rfl⟩) ?_ ?_
   rotate_left
   ·simp only [Act.put, sI, sZ, sS, i64_w, i32_w]
    rfl
   refine pure_ (i := 25) (N := some 50) (v := ?_) (a' := ?_) mkimpl_applies_34 rfl rfl (any_of HT_.out (by kernel_rfl)) (fun _ _ _ h => h) (Or.inl ⟨by rfl, ?_⟩) ?_ ?_
   rotate_left
   ·intro w'
    go_simp
    with_reducible rfl
   rotate_left
   ·simp only [Act.put, sI, sZ, sS, i64_w, i32_w]
    rfl
   refine pure_ (i := 26) (N := some 51) (v := ?_) (a' := ?_) mkimpl_applies_35 rfl rfl (any_of HT_.out (by kernel_rfl)) (fun _ _ _ h => h) (Or.inl ⟨by rfl, ?_⟩) ?_ ?_
   rotate_left
   ·intro w'
    go_simp
    with_reducible rfl
   rotate_left
   ·simp only [Act.put, sI, sZ, sS, i64_w, i32_w]
    rfl
   refine pure_ (i := 27) (N := some 52) (v := undef) (a' := ?_) mkimpl_applies_36 rfl rfl (any_of HT_.out (by kernel_rfl)) (fun _ _ _ h => h) (Or.inr ⟨by rfl, rfl⟩) ?_ ?_
   rotate_left
   ·simp only [Act.put, sI, sZ, sS, i64_w, i32_w]
    rfl
   refine pure_ (i := 28) (N := some 53) (v := undef) (a' := ?_) mkimpl_applies_38 rfl rfl (any_of HT_.out (by kernel_rfl)) (fun _ _ _ h => h) (Or.inr ⟨by rfl, rfl⟩) ?_ ?_
   rotate_left
   ·simp only [Act.put, sI, sZ, sS, i64_w, i32_w]
    rfl
   refine pure_ (i := 29) (N := some 54) (v := undef) (a' := ?_) mkimpl_applies_40 rfl rfl (any_of HT_.out (by kernel_rfl)) (fun _ _ _ h => h) (Or.inr ⟨by rfl, rfl⟩) ?_ ?_
   rotate_left
   ·simp only [Act.put, sI, sZ, sS, i64_w, i32_w]
    rfl
   refine pure_ (i := 30) (N := some 55) (v := undef) (a' := ?_) mkimpl_applies_42 rfl rfl (any_of HT_.out (by kernel_rfl)) (fun _ _ _ h => h) (Or.inr ⟨by rfl, rfl⟩) ?_ ?_
   rotate_left
   ·simp only [Act.put, sI, sZ, sS, i64_w, i32_w]
    rfl
   refine pure_ (i := 31) (N := some 56) (v := undef) (a' := ?_) mkimpl_applies_44 rfl rfl (any_of HT_.out (by kernel_rfl)) (fun _ _ _ h => h) (Or.inr ⟨by rfl, rfl⟩) ?_ ?_
   rotate_left
   ·simp only [Act.put, sI, sZ, sS, i64_w, i32_w]
    rfl
   refine pure_ (i := 32) (N := some 57) (v := undef) (a' := ?_) mkimpl_applies_45 rfl rfl (any_of HT_.out (by kernel_rfl)) (fun _ _ _ h => h) (Or.inr ⟨by rfl, rfl⟩) ?_ ?_
   rotate_left
   ·simp only [Act.put, sI, sZ, sS, i64_w, i32_w]
    rfl
   refine pure_ (i := 33) (N := some 58) (v := undef) (a' := ?_) mkimpl_applies_46 rfl rfl (any_of HT_.out (by kernel_rfl)) (fun _ _ _ h => h) (Or.inr ⟨by rfl, rfl⟩) ?_ ?_
   rotate_left
   ·simp only [Act.put, sI, sZ, sS, i64_w, i32_w]
    rfl
   refine pure_ (i := 34) (N := some 59) (v := ?_) (a' := ?_) mkimpl_applies_47 rfl rfl (any_of HT_.out (by kernel_rfl)) (fun _ _ _ h => h) (Or.inl ⟨by rfl, ?_⟩) ?_ ?_
   rotate_left
   ·intro w'
    go_simp
    with_reducible rfl
   rotate_left
   ·simp only [Act.put, sI, sZ, sS, i64_w, i32_w]
    rfl
   refine pure_ (i := 35) (N := some 6) (v := ?_) (a' := ?_) mkimpl_applies_48 rfl rfl (any_of HT_.out (by kernel_rfl)) (fun _ _ _ h => h) (Or.inl ⟨by rfl, ?_⟩) ?_ ?_
   rotate_left
   ·intro w'
    go_simp
    with_reducible rfl
   rotate_left
   ·simp only [Act.put, sI, sZ, sS, i64_w, i32_w]
    rfl
   refine done_ (done_of HT_.out (by kernel_rfl)) ?_
   try go_wp2
   go_ret
   exact ⟨eQ, by repeat (first | (with_reducible first | exact HB.out | apply bA | apply bN | apply bD | refine below_set ?_ GE288.out) | exact HB.out)⟩
 ·rw [if_neg c4] at H
  have c4b0 : decide (0 ≤ (wrap64 (a2 - (l0_0.length : Int)))) = false := decide_eq_false c4
  clear c4
  obtain rfl := Option.some.inj H
  go_enter Try.func77, Try.ntmps77
  try go_wp2_with (first | ((with_reducible refine gate_dst (N := 3) rfl ?_); (try (refine gate_guard (by rfl) ?_; dsimp only)); refine box_event ?hg (N := 3) ?hd (cs := #[.slice A0_0 l0_0.length c0_0, .slice A0_1 l0_1.length c0_1, .slice A0_2 l0_2.length c0_2, .slice A0_3 l0_3.length c0_3]) (t := 38) ?hr ?_; (case hd => rfl); (case hg => rfl); (case hr => first | (go_simp; done) | (go_simp; rfl)); intro gb288 hg w44 hbox hb; have n0_ := aM (below_step bQ hb); have n1_ := aM (hbox); have n2_ := aM ((by rw [hg]; exact (below_size bQ) : w.heap.size ≤ gb288)); have n3_ := aM ((by rw [hg]; exact (below_size bQ) : w.heap.size ≤ gb288)); clear HB; have HB := n0_; have BK288 := n1_; have GW288 := n2_; have GE288 := n3_; clear n0_ n1_ n2_ n3_; clear hb hbox hg))
  have n0_ := aM (blk_drew BK288.out)
  have n1_ := aM (below_drew1 HB.out)
  clear BK288
  clear HB
  have BK288 := n0_
  have HB := n1_
  clear n0_ n1_
  refine start_ (n := 12) (S := fun w' => w'.cell? ⟨gb288, 0, none⟩ = some (.slice A0_0 l0_0.length c0_0) ∧ w'.cell? ⟨gb288, 1, none⟩ = some (.slice A0_1 l0_1.length c0_1) ∧ w'.cell? ⟨gb288, 2, none⟩ = some (.slice A0_2 l0_2.length c0_2) ∧ w'.cell? ⟨gb288, 3, none⟩ = some (.slice A0_3 l0_3.length c0_3)) (ds := []) mkimpl_applies_49 (by kernel_rfl) rfl rfl ⟨(blk_cell BK288.out 0).trans rfl, (blk_cell BK288.out 1).trans rfl, (blk_cell BK288.out 2).trans rfl, (blk_cell BK288.out 3).trans rfl⟩ (fun hHeld => ?_); refine with_tabW impl_applies.tab1 impl_applies.bits1 (fun HT_ HW_ => ?_)
  generalize w44.drew = w45 at BK288 HB hHeld ⊢
  refine pure_ (i := 0) (N := some 10) (v := ?_) (a' := ?_) mkimpl_applies_50 rfl rfl (any_of HT_.out (by kernel_rfl)) (fun _ _ _ h => h) (Or.inl ⟨by rfl, ?_⟩) ?_ ?_
  rotate_left
  ·intro w'
   go_simp
   with_reducible rfl
  rotate_left
  ·simp only [Act.put, sI, sZ, sS, i64_w, i32_w]
   rfl
  refine pure_ (i := 1) (N := some 11) (v := ?_) (a' := ?_) mkimpl_applies_51 rfl rfl (any_of HT_.out (by kernel_rfl)) (fun _ _ _ h => h) (Or.inl ⟨by rfl, ?_⟩) ?_ ?_
  rotate_left
  ·intro w'
   go_simp
   with_reducible rfl
  rotate_left
  ·simp only [Act.put, sI, sZ, sS, i64_w, i32_w]
   rfl
  refine pure_ (i := 5) (N := some 15) (v := ?_) (a' := ?_) mkimpl_applies_52 rfl rfl (any_of HT_.out (by kernel_rfl)) (fun _ _ _ h => h) (Or.inl ⟨by rfl, ?_⟩) ?_ ?_
  rotate_left
  ·intro w'
   go_simp
   with_reducible rfl
  rotate_left
  ·simp only [Act.put, sI, sZ, sS, i64_w, i32_w]
   rfl
  refine pure_ (i := 6) (N := some 16) (v := ?_) (a' := ?_) mkimpl_applies_53 rfl rfl (any_of HT_.out (by kernel_rfl)) (fun _ _ _ h => h) (Or.inl ⟨by rfl, ?_⟩) ?_ ?_
  rotate_left
  ·intro w'
   go_simp
   with_reducible rfl
  rotate_left
  ·simp only [Act.put, sI, sZ, sS, i64_w, i32_w]
   rfl
  refine take_ (i := 2) (N := some 12) (v := ?_) (a' := ?_) mkimpl_applies_54 rfl rfl (take_ofW HT_.out HW_.out (by kernel_rfl)) (fun _ _ _ h => h) (Or.inl ⟨by rfl, ?_⟩) hHeld ?_ ?_
  rotate_left
  ·rintro w' ⟨s0, s1, s2, s3⟩
   go_simp
   with_reducible rfl
  rotate_left
  ·simp only [Act.put, sI, sZ, sS, i64_w, i32_w]
   rfl
  refine pure_ (i := 3) (N := some 13) (v := ?_) (a' := ?_) mkimpl_applies_55 rfl rfl (any_of HT_.out (by kernel_rfl)) (fun _ _ _ h => h) (Or.inl ⟨by rfl, ?_⟩) ?_ ?_
  rotate_left
  ·intro w'
   go_simp
   with_reducible rfl
  rotate_left
  ·simp only [Act.put, sI, sZ, sS, i64_w, i32_w]
   rfl
  refine pure_ (i := 4) (N := some 14) (v := ?_) (a' := ?_) mkimpl_applies_56 rfl rfl (any_of HT_.out (by kernel_rfl)) (fun _ _ _ h => h) (Or.inl ⟨by rfl, ?_⟩) ?_ ?_
  rotate_left
  ·intro w'
   go_simp
   with_reducible rfl
  rotate_left
  ·simp only [Act.put, sI, sZ, sS, i64_w, i32_w]
   rfl
  refine pure_ (i := 10) (N := some 7) (v := ?_) (a' := ?_) mkimpl_applies_57 rfl rfl (any_of HT_.out (by kernel_rfl)) (fun _ _ _ h => h) (Or.inl ⟨by rfl, ?_⟩) ?_ ?_
  rotate_left
  ·intro w'
   go_simp
   with_reducible rfl
  rotate_left
  ·simp only [Act.put, sI, sZ, sS, i64_w, i32_w]
   rfl
  refine take_ (i := 7) (N := some 17) (v := ?_) (a' := ?_) mkimpl_applies_58 rfl rfl (take_ofW HT_.out HW_.out (by kernel_rfl)) (fun _ _ _ h => h) (Or.inl ⟨by rfl, ?_⟩) hHeld ?_ ?_
  rotate_left
  ·rintro w' ⟨s0, s1, s2, s3⟩
   go_simp
   with_reducible rfl
  rotate_left
  ·simp only [Act.put, sI, sZ, sS, i64_w, i32_w]
   rfl
  refine pure_ (i := 8) (N := some 18) (v := ?_) (a' := ?_) mkimpl_applies_59 rfl rfl (any_of HT_.out (by kernel_rfl)) (fun _ _ _ h => h) (Or.inl ⟨by rfl, ?_⟩) ?_ ?_
  rotate_left
  ·intro w'
   go_simp
   with_reducible rfl
  rotate_left
  ·simp only [Act.put, sI, sZ, sS, i64_w, i32_w]
   rfl
  refine pure_ (i := 9) (N := some 19) (v := ?_) (a' := ?_) mkimpl_applies_60 rfl rfl (any_of HT_.out (by kernel_rfl)) (fun _ _ _ h => h) (Or.inl ⟨by rfl, ?_⟩) ?_ ?_
  rotate_left
  ·intro w'
   go_simp
   with_reducible rfl
  rotate_left
  ·simp only [Act.put, sI, sZ, sS, i64_w, i32_w]
   rfl
  refine pure_ (i := 11) (N := some 8) (v := ?_) (a' := ?_) mkimpl_applies_61 rfl rfl (any_of HT_.out (by kernel_rfl)) (fun _ _ _ h => h) (Or.inl ⟨by rfl, ?_⟩) ?_ ?_
  rotate_left
  ·intro w'
   go_simp
   with_reducible rfl
  rotate_left
  ·simp only [Act.put, sI, sZ, sS, i64_w, i32_w]
   rfl
  refine done_ (done_of HT_.out (by kernel_rfl)) ?_
  have hcz46_0 : w45.cell? ⟨gb288, 0, none⟩ = some (.slice A0_0 l0_0.length c0_0) := (blk_cell BK288.out 0).trans rfl
  have hcz46_1 : w45.cell? ⟨gb288, 1, none⟩ = some (.slice A0_1 l0_1.length c0_1) := (blk_cell BK288.out 1).trans rfl
  have hcz46_2 : w45.cell? ⟨gb288, 2, none⟩ = some (.slice A0_2 l0_2.length c0_2) := (blk_cell BK288.out 2).trans rfl
  have hcz46_3 : w45.cell? ⟨gb288, 3, none⟩ = some (.slice A0_3 l0_3.length c0_3) := (blk_cell BK288.out 3).trans rfl
  have hfz46_0 := blk_frozen BK288.out 0
  have hfz46_1 := blk_frozen BK288.out 1
  have hfz46_2 := blk_frozen BK288.out 2
  have hfz46_3 := blk_frozen BK288.out 3
  try go_wp2
  have n0_ := aM (blk_drew BK288.out)
  have n1_ := aM (below_drew1 HB.out)
  clear BK288
  clear HB
  have BK288 := n0_
  have HB := n1_
  clear n0_ n1_
  refine start_ (n := 36) (S := fun w' => True) (ds := []) mkimpl_applies_0 (by kernel_rfl) rfl rfl trivial (fun hHeld => ?_); refine with_tabW impl_applies.tab3 impl_applies.bits3 (fun HT_ HW_ => ?_)
  generalize w45.drew = w47 at BK288 HB hHeld ⊢
  refine pure_ (i := 0) (N := some 25) (v := ?_) (a' := ?_) mkimpl_applies_1 rfl rfl (any_of HT_.out (by kernel_rfl)) (fun _ _ _ h => h) (Or.inl ⟨by rfl, ?_⟩) ?_ ?_
  rotate_left
  ·intro w'
   go_simp
   with_reducible rfl
  rotate_left
  ·simp only [Act.put, sI, sZ, sS, i64_w, i32_w]
   rfl
  refine pure_ (i := 1) (N := some 26) (v := ?_) (a' := ?_) mkimpl_applies_2 rfl rfl (any_of HT_.out (by kernel_rfl)) (fun _ _ _ h => h) (Or.inl ⟨by rfl, ?_⟩) ?_ ?_
  rotate_left
  ·intro w'
   go_simp
   with_reducible rfl
  rotate_left
  ·simp only [Act.put, sI, sZ, sS, i64_w, i32_w]
   rfl
  refine pure_ (i := 2) (N := some 27) (v := ?_) (a' := ?_) mkimpl_applies_3 rfl rfl (any_of HT_.out (by kernel_rfl)) (fun _ _ _ h => h) (Or.inl ⟨by rfl, ?_⟩) ?_ ?_
  rotate_left
  ·intro w'
   go_simp
   with_reducible rfl
  rotate_left
  ·simp only [Act.put, sI, sZ, sS, i64_w, i32_w]
   rfl
  refine pure_ (i := 3) (N := some 28) (v := undef) (a' := ?_) mkimpl_applies_4 rfl rfl (any_of HT_.out (by kernel_rfl)) (fun _ _ _ h => h) (Or.inr ⟨by rfl, rfl⟩) ?_ ?_
  rotate_left
  ·simp only [Act.put, sI, sZ, sS, i64_w, i32_w]
   rfl
  refine pure_ (i := 4) (N := some 29) (v := undef) (a' := ?_) mkimpl_applies_5 rfl rfl (any_of HT_.out (by kernel_rfl)) (fun _ _ _ h => h) (Or.inr ⟨by rfl, rfl⟩) ?_ ?_
  rotate_left
  ·simp only [Act.put, sI, sZ, sS, i64_w, i32_w]
   rfl
  refine pure_ (i := 5) (N := some 30) (v := undef) (a' := ?_) mkimpl_applies_6 rfl rfl (any_of HT_.out (by kernel_rfl)) (fun _ _ _ h => h) (Or.inr ⟨by rfl, rfl⟩) ?_ ?_
  rotate_left
  ·simp only [Act.put, sI, sZ, sS, i64_w, i32_w]
   rfl
  refine pure_ (i := 6) (N := some 31) (v := undef) (a' := ?_) mkimpl_applies_7 rfl rfl (any_of HT_.out (by kernel_rfl)) (fun _ _ _ h => h) (Or.inr ⟨by rfl, rfl⟩) ?_ ?_
  rotate_left
  ·simp only [Act.put, sI, sZ, sS, i64_w, i32_w]
   rfl
  refine pure_ (i := 7) (N := some 32) (v := ?_) (a' := ?_) mkimpl_applies_8 rfl rfl (any_of HT_.out (by kernel_rfl)) (fun _ _ _ h => h) (Or.inl ⟨by rfl, ?_⟩) ?_ ?_
  rotate_left
  ·intro w'
   go_simp
   with_reducible rfl
  rotate_left
  ·simp only [Act.put, sI, sZ, sS, i64_w, i32_w]
   rfl
  refine pure_ (i := 8) (N := some 33) (v := ?_) (a' := ?_) mkimpl_applies_9 rfl rfl (any_of HT_.out (by kernel_rfl)) (fun _ _ _ h => h) (Or.inl ⟨by rfl, ?_⟩) ?_ ?_
  rotate_left
  ·intro w'
   go_simp
   with_reducible rfl
  rotate_left
  ·simp only [Act.put, sI, sZ, sS, i64_w, i32_w]
   rfl
  refine pure_ (i := 9) (N := some 34) (v := undef) (a' := ?_) mkimpl_applies_10 rfl rfl (any_of HT_.out (by kernel_rfl)) (fun _ _ _ h => h) (Or.inr ⟨by rfl, rfl⟩) ?_ ?_
  rotate_left
  ·simp only [Act.put, sI, sZ, sS, i64_w, i32_w]
   rfl
  refine pure_ (i := 10) (N := some 35) (v := undef) (a' := ?_) mkimpl_applies_12 rfl rfl (any_of HT_.out (by kernel_rfl)) (fun _ _ _ h => h) (Or.inr ⟨by rfl, rfl⟩) ?_ ?_
  rotate_left
  ·simp only [Act.put, sI, sZ, sS, i64_w, i32_w]
   rfl
  refine pure_ (i := 11) (N := some 36) (v := undef) (a' := ?_) mkimpl_applies_14 rfl rfl (any_of HT_.out (by kernel_rfl)) (fun _ _ _ h => h) (Or.inr ⟨by rfl, rfl⟩) ?_ ?_
  rotate_left
  ·simp only [Act.put, sI, sZ, sS, i64_w, i32_w]
   rfl
  refine pure_ (i := 12) (N := some 37) (v := undef) (a' := ?_) mkimpl_applies_16 rfl rfl (any_of HT_.out (by kernel_rfl)) (fun _ _ _ h => h) (Or.inr ⟨by rfl, rfl⟩) ?_ ?_
  rotate_left
  ·simp only [Act.put, sI, sZ, sS, i64_w, i32_w]
   rfl
  refine pure_ (i := 13) (N := some 38) (v := undef) (a' := ?_) mkimpl_applies_18 rfl rfl (any_of HT_.out (by kernel_rfl)) (fun _ _ _ h => h) (Or.inr ⟨by rfl, rfl⟩) ?_ ?_
  rotate_left
  ·simp only [Act.put, sI, sZ, sS, i64_w, i32_w]
   rfl
  refine pure_ (i := 14) (N := some 39) (v := undef) (a' := ?_) mkimpl_applies_19 rfl rfl (any_of HT_.out (by kernel_rfl)) (fun _ _ _ h => h) (Or.inr ⟨by rfl, rfl⟩) ?_ ?_
  rotate_left
  ·simp only [Act.put, sI, sZ, sS, i64_w, i32_w]
   rfl
  refine pure_ (i := 15) (N := some 40) (v := undef) (a' := ?_) mkimpl_applies_20 rfl rfl (any_of HT_.out (by kernel_rfl)) (fun _ _ _ h => h) (Or.inr ⟨by rfl, rfl⟩) ?_ ?_
  rotate_left
  ·simp only [Act.put, sI, sZ, sS, i64_w, i32_w]
   rfl
  refine pure_ (i := 16) (N := some 41) (v := ?_) (a' := ?_) mkimpl_applies_21 rfl rfl (any_of HT_.out (by kernel_rfl)) (fun _ _ _ h => h) (Or.inl ⟨by rfl, ?_⟩) ?_ ?_
  rotate_left
  ·intro w'
   go_simp
   with_reducible rfl
  rotate_left
  ·simp only [Act.put, sI, sZ, sS, i64_w, i32_w]
   rfl
  refine pure_ (i := 17) (N := some 42) (v := ?_) (a' := ?_) mkimpl_applies_22 rfl rfl (any_of HT_.out (by kernel_rfl)) (fun _ _ _ h => h) (Or.inl ⟨by rfl, ?_⟩) ?_ ?_
  rotate_left
  ·intro w'
   go_simp
   with_reducible rfl
  rotate_left
  ·simp only [Act.put, sI, sZ, sS, i64_w, i32_w]
   rfl
  refine pure_ (i := 18) (N := some 43) (v := undef) (a' := ?_) mkimpl_applies_23 rfl rfl (any_of HT_.out (by kernel_rfl)) (fun _ _ _ h => h) (Or.inr ⟨by rfl, rfl⟩) ?_ ?_
  rotate_left
  ·simp only [Act.put, sI, sZ, sS, i64_w, i32_w]
   rfl
  refine pure_ (i := 19) (N := some 44) (v := undef) (a' := ?_) mkimpl_applies_25 rfl rfl (any_of HT_.out (by kernel_rfl)) (fun _ _ _ h => h) (Or.inr ⟨by rfl, rfl⟩) ?_ ?_
  rotate_left
  ·simp only [Act.put, sI, sZ, sS, i64_w, i32_w]
   rfl
  refine pure_ (i := 20) (N := some 45) (v := undef) (a' := ?_) mkimpl_applies_27 rfl rfl (any_of HT_.out (by kernel_rfl)) (fun _ _ _ h => h) (Or.inr ⟨by rfl, rfl⟩) ?_ ?_
  rotate_left
  ·simp only [Act.put, sI, sZ, sS, i64_w, i32_w]
   rfl
  refine pure_ (i := 21) (N := some 46) (v := undef) (a' := ?_) mkimpl_applies_29 rfl rfl (any_of HT_.out (by kernel_rfl)) (fun _ _ _ h => h) (Or.inr ⟨by rfl, rfl⟩) ?_ ?_
  rotate_left
  ·simp only [Act.put, sI, sZ, sS, i64_w, i32_w]
   rfl
  refine pure_ (i := 22) (N := some 47) (v := undef) (a' := ?_) mkimpl_applies_31 rfl rfl (any_of HT_.out (by kernel_rfl)) (fun _ _ _ h => h) (Or.inr ⟨by rfl, rfl⟩) ?_ ?_
  rotate_left
  ·simp only [Act.put, sI, sZ, sS, i64_w, i32_w]
   rfl
  refine pure_ (i := 23) (N := some 48) (v := undef) (a' := ?_) mkimpl_applies_32 rfl rfl (any_of HT_.out (by kernel_rfl)) (fun _ _ _ h => h) (Or.inr ⟨by rfl, rfl⟩) ?_ ?_
  rotate_left
  ·simp only [Act.put, sI, sZ, sS, i64_w, i32_w]
   rfl
  refine pure_ (i := 24) (N := some 49) (v := undef) (a' := ?_) mkimpl_applies_33 rfl rfl (any_of HT_.out (by kernel_rfl)) (fun _ _ _ h => h) (Or.inr ⟨by rfl, rfl⟩) ?_ ?_
  rotate_left
  ·simp only [Act.put, sI, sZ, sS, i64_w, i32_w]
   rfl
  refine pure_ (i := 25) (N := some 50) (v := ?_) (a' := ?_) mkimpl_applies_34 rfl rfl (any_of HT_.out (by kernel_rfl)) (fun _ _ _ h => h) (Or.inl ⟨by rfl, ?_⟩) ?_ ?_
  rotate_left
  ·intro w'
   go_simp
   with_reducible rfl
  rotate_left
  ·simp only [Act.put, sI, sZ, sS, i64_w, i32_w]
   rfl
  refine pure_ (i := 26) (N := some 51) (v := ?_) (a' := ?_) mkimpl_applies_35 rfl rfl (any_of HT_.out (by kernel_rfl)) (fun _ _ _ h => h) (Or.inl ⟨by rfl, ?_⟩) ?_ ?_
  rotate_left
  ·intro w'
   go_simp
   with_reducible rfl
  rotate_left
  ·simp only [Act.put, sI, sZ, sS, i64_w, i32_w]
   rfl
  refine pure_ (i := 27) (N := some 52) (v := undef) (a' := ?_) mkimpl_applies_36 rfl rfl (any_of HT_.out (by kernel_rfl)) (fun _ _ _ h => h) (Or.inr ⟨by rfl, rfl⟩) ?_ ?_
  rotate_left
  ·simp only [Act.put, sI, sZ, sS, i64_w, i32_w]
   rfl
  refine pure_ (i := 28) (N := some 53) (v := undef) (a' := ?_) mkimpl_applies_38 rfl rfl (any_of HT_.out (by kernel_rfl)) (fun _ _ _ h => h) (Or.inr ⟨by rfl, rfl⟩) ?_ ?_
  rotate_left
  ·simp only [Act.put, sI, sZ, sS, i64_w, i32_w]
   rfl
  refine pure_ (i := 29) (N := some 54) (v := undef) (a' := ?_) mkimpl_applies_40 rfl rfl (any_of HT_.out (by kernel_rfl)) (fun _ _ _ h => h) (Or.inr ⟨by rfl, rfl⟩) ?_ ?_
  rotate_left
  ·simp only [Act.put, sI, sZ, sS, i64_w, i32_w]
   rfl
  refine pure_ (i := 30) (N := some 55) (v := undef) (a' := ?_) mkimpl_applies_42 rfl rfl (any_of HT_.out (by kernel_rfl)) (fun _ _ _ h => h) (Or.inr ⟨by rfl, rfl⟩) ?_ ?_
  rotate_left
  ·simp only [Act.put, sI, sZ, sS, i64_w, i32_w]
   rfl
  refine pure_ (i := 31) (N := some 56) (v := undef) (a' := ?_) mkimpl_applies_44 rfl rfl (any_of HT_.out (by kernel_rfl)) (fun _ _ _ h => h) (Or.inr ⟨by rfl, rfl⟩) ?_ ?_
  rotate_left
  ·simp only [Act.put, sI, sZ, sS, i64_w, i32_w]
   rfl
  refine pure_ (i := 32) (N := some 57) (v := undef) (a' := ?_) mkimpl_applies_45 rfl rfl (any_of HT_.out (by kernel_rfl)) (fun _ _ _ h => h) (Or.inr ⟨by rfl, rfl⟩) ?_ ?_
  rotate_left
  ·simp only [Act.put, sI, sZ, sS, i64_w, i32_w]
   rfl
  refine pure_ (i := 33) (N := some 58) (v := undef) (a' := ?_) mkimpl_applies_46 rfl rfl (any_of HT_.out (by kernel_rfl)) (fun _ _ _ h => h) (Or.inr ⟨by rfl, rfl⟩) ?_ ?_
  rotate_left
  ·simp only [Act.put, sI, sZ, sS, i64_w, i32_w]
   rfl
  refine pure_ (i := 34) (N := some 59) (v := ?_) (a' := ?_) mkimpl_applies_47 rfl rfl (any_of HT_.out (by kernel_rfl)) (fun _ _ _ h => h) (Or.inl ⟨by rfl, ?_⟩) ?_ ?_
  rotate_left
  ·intro w'
   go_simp
   with_reducible rfl
  rotate_left
  ·simp only [Act.put, sI, sZ, sS, i64_w, i32_w]
   rfl
  refine pure_ (i := 35) (N := some 6) (v := ?_) (a' := ?_) mkimpl_applies_48 rfl rfl (any_of HT_.out (by kernel_rfl)) (fun _ _ _ h => h) (Or.inl ⟨by rfl, ?_⟩) ?_ ?_
  rotate_left
  ·intro w'
   go_simp
   with_reducible rfl
  rotate_left
  ·simp only [Act.put, sI, sZ, sS, i64_w, i32_w]
   rfl
  refine done_ (done_of HT_.out (by kernel_rfl)) ?_
  try go_wp2
  go_ret
  exact ⟨eQ, by repeat (first | (with_reducible first | exact HB.out | apply bA | apply bN | apply bD | refine below_set ?_ GE288.out) | exact HB.out)⟩

end Go.Proofs.Ytdahcapolipnbaa.QFnExactRuleFor
