/- What some Go functions answer, each as a Lean function, and that the machine answers so: written by a program of this session out of the translation. -/
import Derived.Test.YtdahcapolipnbaaDoorQFnExactReadClassx0
import Derived.Test.YtdahcapolipnbaaDoorQFnExactReadClassx4
namespace Go.Proofs.YtdahcapolipnbaaDoor.QFnExactReadClass
open Go.RowKit Go.Proofs.YtdahcapolipnbaaDoorW.PrintWords Go.Proofs.YtdahcapolipnbaaDoorW.PrintLast Go.Proofs.YtdahcapolipnbaaDoorW.PrintMore Go.Proofs.YtdahcapolipnbaaDoor.Rp
attribute [local go_sem] max2_int min2_int max_two min_two max_three min_three max_four min_four   -- for this text's walks alone
set_option linter.unusedVariables false
set_option linter.unusedSimpArgs false

/-! ### impl_ClassOfRanges: function 18 -/
mutual
abbrev mkimpl_C823_0 : Array Bool := #[ff,ff,ff,ff,ff,ff,ff,ff,ff,ff,ff,ff,ff,ff,ff,ff,ff,ff,ff,ff,ff,ff,ff,ff,ff,ff,ff,ff,ff,ff,ff,ff]
abbrev mkimpl_C823_1 : Array Bool := #[tt,ff,ff,ff,ff,ff,ff,ff,ff,ff,ff,ff,ff,ff,ff,ff,ff,ff,ff,ff,ff,ff,ff,ff,ff,ff,ff,ff,ff,ff,ff,ff]
abbrev mkimpl_C823_2 : Array Bool := #[tt,tt,ff,ff,ff,ff,ff,ff,ff,ff,ff,ff,ff,ff,ff,ff,ff,ff,ff,ff,ff,ff,ff,ff,ff,ff,ff,ff,ff,ff,ff,ff]
abbrev mkimpl_C823_3 : Array Bool := #[tt,tt,tt,ff,ff,ff,ff,ff,ff,ff,ff,ff,ff,ff,ff,ff,ff,ff,ff,ff,ff,ff,ff,ff,ff,ff,ff,ff,ff,ff,ff,ff]
abbrev mkimpl_C823_4 : Array Bool := #[tt,tt,tt,tt,ff,ff,ff,ff,ff,ff,ff,ff,ff,ff,ff,ff,ff,ff,ff,ff,ff,ff,ff,ff,ff,ff,ff,ff,ff,ff,ff,ff]
abbrev mkimpl_C823_5 : Array Bool := #[tt,tt,tt,tt,tt,ff,ff,ff,ff,ff,ff,ff,ff,ff,ff,ff,ff,ff,ff,ff,ff,ff,ff,ff,ff,ff,ff,ff,ff,ff,ff,ff]
abbrev mkimpl_C823_6 : Array Bool := #[tt,tt,tt,tt,tt,tt,ff,ff,ff,ff,ff,ff,ff,ff,ff,ff,ff,ff,ff,ff,ff,ff,ff,ff,ff,ff,ff,ff,ff,ff,ff,ff]
abbrev mkimpl_C823_7 : Array Bool := #[tt,tt,tt,tt,tt,tt,tt,ff,ff,ff,ff,ff,ff,ff,ff,ff,ff,ff,ff,ff,ff,ff,ff,ff,ff,ff,ff,ff,ff,ff,ff,ff]
abbrev mkimpl_C823_8 : Array Bool := #[tt,tt,tt,tt,tt,tt,tt,tt,ff,ff,ff,ff,ff,ff,ff,ff,ff,ff,ff,ff,ff,ff,ff,ff,ff,ff,ff,ff,ff,ff,ff,ff]
abbrev mkimpl_C823_9 : Array Bool := #[tt,tt,tt,tt,tt,tt,tt,tt,tt,ff,ff,ff,ff,ff,ff,ff,ff,ff,ff,ff,ff,ff,ff,ff,ff,ff,ff,ff,ff,ff,ff,ff]
abbrev mkimpl_C823_10 : Array Bool := #[tt,tt,tt,tt,tt,tt,tt,tt,tt,tt,ff,ff,ff,ff,ff,ff,ff,ff,ff,ff,ff,ff,ff,ff,ff,ff,ff,ff,ff,ff,ff,ff]
abbrev mkimpl_C823_11 : Array Bool := #[tt,tt,tt,tt,tt,tt,tt,tt,tt,tt,tt,ff,ff,ff,ff,ff,ff,ff,ff,ff,ff,ff,ff,ff,ff,ff,ff,ff,ff,ff,ff,ff]
abbrev mkimpl_C823_12 : Array Bool := #[tt,tt,tt,tt,tt,tt,tt,tt,tt,tt,tt,tt,ff,ff,ff,ff,ff,ff,ff,ff,ff,ff,ff,ff,ff,ff,ff,ff,ff,ff,ff,ff]
abbrev mkimpl_C823_13 : Array Bool := #[tt,tt,tt,tt,tt,tt,tt,tt,tt,tt,tt,tt,ff,tt,ff,ff,ff,ff,ff,ff,ff,ff,ff,ff,ff,ff,ff,ff,ff,ff,ff,ff]
abbrev mkimpl_C823_14 : Array Bool := #[tt,tt,tt,tt,tt,tt,tt,tt,tt,tt,tt,tt,tt,ff,ff,ff,ff,ff,ff,ff,ff,ff,ff,ff,ff,ff,ff,ff,ff,ff,ff,ff]
abbrev mkimpl_C823_15 : Array Bool := #[tt,tt,tt,tt,tt,tt,tt,tt,tt,tt,tt,tt,tt,tt,ff,ff,ff,ff,ff,ff,ff,ff,ff,ff,ff,ff,ff,ff,ff,ff,ff,ff]
abbrev mkimpl_C823_16 : Array Bool := #[tt,tt,tt,tt,tt,tt,tt,tt,tt,tt,tt,tt,tt,tt,tt,ff,ff,ff,ff,ff,ff,ff,ff,ff,ff,ff,ff,ff,ff,ff,ff,ff]
abbrev mkimpl_C823_17 : Array Bool := #[tt,tt,tt,tt,tt,tt,tt,tt,tt,tt,tt,tt,tt,tt,tt,tt,ff,ff,ff,ff,ff,ff,ff,ff,ff,ff,ff,ff,ff,ff,ff,ff]
abbrev mkimpl_C823_18 : Array Bool := #[tt,tt,tt,tt,tt,tt,tt,tt,tt,tt,tt,tt,tt,tt,tt,tt,tt,ff,ff,ff,ff,ff,ff,ff,ff,ff,ff,ff,ff,ff,ff,ff]
abbrev mkimpl_C823_19 : Array Bool := #[tt,tt,tt,tt,tt,tt,tt,tt,tt,tt,tt,tt,tt,tt,tt,tt,tt,tt,ff,ff,ff,ff,ff,ff,ff,ff,ff,ff,ff,ff,ff,ff]
abbrev mkimpl_C823_20 : Array Bool := #[tt,tt,tt,tt,tt,tt,tt,tt,tt,tt,tt,tt,tt,tt,tt,tt,tt,tt,tt,ff,ff,ff,ff,ff,ff,ff,ff,ff,ff,ff,ff,ff]
abbrev mkimpl_C823_21 : Array Bool := #[tt,tt,tt,tt,tt,tt,tt,tt,tt,tt,tt,tt,tt,tt,tt,tt,tt,tt,tt,tt,ff,ff,ff,ff,ff,ff,ff,ff,ff,ff,ff,ff]
abbrev mkimpl_C823_22 : Array Bool := #[tt,tt,tt,tt,tt,tt,tt,tt,tt,tt,tt,tt,tt,tt,tt,tt,tt,tt,tt,tt,tt,ff,ff,ff,ff,ff,ff,ff,ff,ff,ff,ff]
abbrev mkimpl_C823_23 : Array Bool := #[tt,tt,tt,tt,tt,tt,tt,tt,tt,tt,tt,tt,tt,tt,tt,tt,tt,tt,tt,tt,tt,tt,ff,ff,ff,ff,ff,ff,ff,ff,ff,ff]
abbrev mkimpl_C823_24 : Array Bool := #[tt,tt,tt,tt,tt,tt,tt,tt,tt,tt,tt,tt,tt,tt,tt,tt,tt,tt,tt,tt,tt,tt,tt,ff,ff,ff,ff,ff,ff,ff,ff,ff]
abbrev mkimpl_C823_25 : Array Bool := #[tt,tt,tt,tt,tt,tt,tt,tt,tt,tt,tt,tt,tt,tt,tt,tt,tt,tt,tt,tt,tt,tt,ff,tt,ff,ff,ff,ff,ff,ff,ff,ff]
abbrev mkimpl_C823_26 : Array Bool := #[tt,tt,tt,tt,tt,tt,tt,tt,tt,tt,tt,tt,tt,tt,tt,tt,tt,tt,tt,tt,tt,tt,tt,tt,ff,ff,ff,ff,ff,ff,ff,ff]
abbrev mkimpl_C823_27 : Array Bool := #[tt,tt,tt,tt,tt,tt,tt,tt,tt,tt,tt,tt,tt,tt,tt,tt,tt,tt,tt,tt,tt,tt,ff,tt,tt,ff,ff,ff,ff,ff,ff,ff]
abbrev mkimpl_C823_28 : Array Bool := #[tt,tt,tt,tt,tt,tt,tt,tt,tt,tt,tt,tt,tt,tt,tt,tt,tt,tt,tt,tt,tt,tt,tt,tt,tt,ff,ff,ff,ff,ff,ff,ff]
abbrev mkimpl_C823_29 : Array Bool := #[tt,tt,tt,tt,tt,tt,tt,tt,tt,tt,tt,tt,tt,tt,tt,tt,tt,tt,tt,tt,tt,tt,ff,tt,tt,tt,ff,ff,ff,ff,ff,ff]
abbrev mkimpl_C823_30 : Array Bool := #[tt,tt,tt,tt,tt,tt,tt,tt,tt,tt,tt,tt,tt,tt,tt,tt,tt,tt,tt,tt,tt,tt,tt,tt,tt,tt,ff,ff,ff,ff,ff,ff]
abbrev mkimpl_C823_31 : Array Bool := #[tt,tt,tt,tt,tt,tt,tt,tt,tt,tt,tt,tt,tt,tt,tt,tt,tt,tt,tt,tt,tt,tt,ff,tt,tt,tt,tt,ff,ff,ff,ff,ff]
abbrev mkimpl_C823_32 : Array Bool := #[tt,tt,tt,tt,tt,tt,tt,tt,tt,tt,tt,tt,tt,tt,tt,tt,tt,tt,tt,tt,tt,tt,tt,tt,tt,tt,tt,ff,ff,ff,ff,ff]
abbrev mkimpl_C823_33 : Array Bool := #[tt,tt,tt,tt,tt,tt,tt,tt,tt,tt,tt,tt,tt,tt,tt,tt,tt,tt,tt,tt,tt,tt,ff,tt,tt,tt,tt,tt,ff,ff,ff,ff]
abbrev mkimpl_C823_34 : Array Bool := #[tt,tt,tt,tt,tt,tt,tt,tt,tt,tt,tt,tt,tt,tt,tt,tt,tt,tt,tt,tt,tt,tt,tt,tt,tt,tt,tt,tt,ff,ff,ff,ff]
abbrev mkimpl_C823_35 : Array Bool := #[tt,tt,tt,tt,tt,tt,tt,tt,tt,tt,tt,tt,tt,tt,tt,tt,tt,tt,tt,tt,tt,tt,tt,tt,tt,tt,tt,tt,tt,ff,ff,ff]
abbrev mkimpl_C823_36 : Array Bool := #[tt,tt,tt,tt,tt,tt,tt,tt,tt,tt,tt,tt,tt,tt,tt,tt,tt,tt,tt,tt,tt,tt,tt,tt,tt,tt,tt,tt,tt,tt,ff,ff]
abbrev mkimpl_C823_37 : Array Bool := #[tt,tt,tt,tt,tt,tt,tt,tt,tt,tt,tt,tt,tt,tt,tt,tt,tt,tt,tt,tt,tt,tt,tt,tt,tt,tt,tt,tt,tt,tt,tt,ff]
abbrev mkimpl_C823_38 : Array Bool := #[tt,tt,tt,tt,tt,tt,tt,tt,tt,tt,tt,tt,tt,tt,tt,tt,tt,tt,tt,tt,tt,tt,tt,tt,tt,tt,tt,tt,tt,tt,tt,tt]
def impl_ClassOfRanges.l0 : Nat → List (S63) → List Int → List (S63) → Int → Int → Option (List Int × Int)
 | 0, _, _, _, _, _ => none
 | k + 1, x0, x4, x8, x9, x10 => if x10 < x9 then (if 0 ≤ x10 then (if x10 < (x8.length : Int) then ((impl_isGlyphNumber.f ((rd_T63 x8 x10).f0)).bind fun t200 => (if t200 = true then ((impl_isGlyphNumber.f ((rd_T63 x8 x10).f1)).bind fun t201 => (if t201 = true then (if ((rd_T63 x8 x10).f1) < ((rd_T63 x8 x10).f0) then (impl_ClassOfRanges.j1 k x0 x4 x8 x9 x10 true ((rd_T63 x8 x10).f0) ((rd_T63 x8 x10).f1)) else (if x10 > 0 then (if 0 ≤ (wrap64 (x10 - 1)) then (if (wrap64 (x10 - 1)) < (x0.length : Int) then (impl_ClassOfRanges.j1 k x0 x4 x8 x9 x10 (decide (((rd_T63 x8 x10).f0) ≤ ((rd_T63 x0 (wrap64 (x10 - 1))).f1))) ((rd_T63 x8 x10).f0) ((rd_T63 x8 x10).f1)) else (none)) else (none)) else (impl_ClassOfRanges.j1 k x0 x4 x8 x9 x10 false ((rd_T63 x8 x10).f0) ((rd_T63 x8 x10).f1)))) else (impl_ClassOfRanges.j1 k x0 x4 x8 x9 x10 true ((rd_T63 x8 x10).f0) ((rd_T63 x8 x10).f1)))) else (impl_ClassOfRanges.j1 k x0 x4 x8 x9 x10 true ((rd_T63 x8 x10).f0) ((rd_T63 x8 x10).f1)))) else (none)) else (none)) else (some (x4, 0))
def impl_ClassOfRanges.j1 : Nat → List (S63) → List Int → List (S63) → Int → Int → Bool → Int → Int → Option (List Int × Int)
 | 0, _, _, _, _, _, _, _, _ => none
 | k + 1, x0, x4, x8, x9, x10, x46, x200000, x200001 => if x46 = true then (some (([] : List Int), 1)) else (impl_ClassOfRanges.l1 k x0 x4 x200000 x8 x9 x10 x200000 x200001)
def impl_ClassOfRanges.l1 : Nat → List (S63) → List Int → Int → List (S63) → Int → Int → Int → Int → Option (List Int × Int)
 | 0, _, _, _, _, _, _, _, _ => none
 | k + 1, x0, x4, x7, x8, x9, x10, x200000, x200001 => if x7 ≤ x200001 then (if x4.length < 17592186044416 then (impl_ClassOfRanges.l1 k x0 (x4 ++ [x7]) (wrap64 (x7 + 1)) x8 x9 x10 x200000 x200001) else (none)) else (impl_ClassOfRanges.l0 k x0 x4 x8 x9 (wrap64 (x10 + 1)))
end
def impl_ClassOfRanges.f (k : Nat) (l0 : List (S63)) : Option (List Int × Int) := impl_ClassOfRanges.l0 k l0 ([] : List Int) l0 (l0.length : Int) 0
theorem impl_ClassOfRanges.mono_l : ∀ k, (∀ y0 y1 y2 y3 y4, LeO (impl_ClassOfRanges.l0 k y0 y1 y2 y3 y4) (impl_ClassOfRanges.l0 (k + 1) y0 y1 y2 y3 y4)) ∧ (∀ y0 y1 y2 y3 y4 y5 y6 y7, LeO (impl_ClassOfRanges.j1 k y0 y1 y2 y3 y4 y5 y6 y7) (impl_ClassOfRanges.j1 (k + 1) y0 y1 y2 y3 y4 y5 y6 y7)) ∧ (∀ y0 y1 y2 y3 y4 y5 y6 y7, LeO (impl_ClassOfRanges.l1 k y0 y1 y2 y3 y4 y5 y6 y7) (impl_ClassOfRanges.l1 (k + 1) y0 y1 y2 y3 y4 y5 y6 y7))
 | 0 => ⟨fun _ _ _ _ _ r h => by simp [impl_ClassOfRanges.l0] at h, fun _ _ _ _ _ _ _ _ r h => by simp [impl_ClassOfRanges.j1] at h, fun _ _ _ _ _ _ _ _ r h => by simp [impl_ClassOfRanges.l1] at h⟩
 | k + 1 => by
  obtain ⟨ih0, ih1, ih2⟩ := impl_ClassOfRanges.mono_l k
  refine ⟨?_, ?_, ?_⟩
  ·intro y0 y1 y2 y3 y4
   unfold impl_ClassOfRanges.l0
   repeat' first
   | (with_reducible exact ih0 _ _ _ _ _)
   | (with_reducible exact ih1 _ _ _ _ _ _ _ _)
   | (with_reducible exact ih2 _ _ _ _ _ _ _ _)
   | (with_reducible exact LeO.refl _)
   | (with_reducible exact LeO.none _)
   | (with_reducible refine LeO.ite ?_ ?_)
   | (with_reducible refine LeO.bind ?_ (fun _ => ?_))
   | exact ih0 _ _ _ _ _
   | exact ih1 _ _ _ _ _ _ _ _
   | exact ih2 _ _ _ _ _ _ _ _
   | exact LeO.none _
   | refine LeO.ite ?_ ?_
   | refine LeO.bind ?_ (fun _ => ?_)
  ·intro y0 y1 y2 y3 y4 y5 y6 y7
   unfold impl_ClassOfRanges.j1
   repeat' first
   | (with_reducible exact ih0 _ _ _ _ _)
   | (with_reducible exact ih1 _ _ _ _ _ _ _ _)
   | (with_reducible exact ih2 _ _ _ _ _ _ _ _)
   | (with_reducible exact LeO.refl _)
   | (with_reducible exact LeO.none _)
   | (with_reducible refine LeO.ite ?_ ?_)
   | (with_reducible refine LeO.bind ?_ (fun _ => ?_))
   | exact ih0 _ _ _ _ _
   | exact ih1 _ _ _ _ _ _ _ _
   | exact ih2 _ _ _ _ _ _ _ _
   | exact LeO.none _
   | refine LeO.ite ?_ ?_
   | refine LeO.bind ?_ (fun _ => ?_)
  ·intro y0 y1 y2 y3 y4 y5 y6 y7
   unfold impl_ClassOfRanges.l1
   repeat' first
   | (with_reducible exact ih0 _ _ _ _ _)
   | (with_reducible exact ih1 _ _ _ _ _ _ _ _)
   | (with_reducible exact ih2 _ _ _ _ _ _ _ _)
   | (with_reducible exact LeO.refl _)
   | (with_reducible exact LeO.none _)
   | (with_reducible refine LeO.ite ?_ ?_)
   | (with_reducible refine LeO.bind ?_ (fun _ => ?_))
   | exact ih0 _ _ _ _ _
   | exact ih1 _ _ _ _ _ _ _ _
   | exact ih2 _ _ _ _ _ _ _ _
   | exact LeO.none _
   | refine LeO.ite ?_ ?_
   | refine LeO.bind ?_ (fun _ => ?_)
theorem impl_ClassOfRanges.mono : ∀ a0 k, LeO (impl_ClassOfRanges.f k a0) (impl_ClassOfRanges.f (k + 1) a0) := by
 intro a0 k
 obtain ⟨ih0, ih1, ih2⟩ := impl_ClassOfRanges.mono_l k
 unfold impl_ClassOfRanges.f
 repeat' first
   | (with_reducible exact ih0 _ _ _ _ _)
   | (with_reducible exact ih1 _ _ _ _ _ _ _ _)
   | (with_reducible exact ih2 _ _ _ _ _ _ _ _)
   | (with_reducible exact LeO.refl _)
   | (with_reducible exact LeO.none _)
   | (with_reducible refine LeO.ite ?_ ?_)
   | (with_reducible refine LeO.bind ?_ (fun _ => ?_))
   | exact ih0 _ _ _ _ _
   | exact ih1 _ _ _ _ _ _ _ _
   | exact ih2 _ _ _ _ _ _ _ _
   | exact LeO.none _
   | refine LeO.ite ?_ ?_
   | refine LeO.bind ?_ (fun _ => ?_)
def impl_ClassOfRanges.T5 : Bool × List (List Nat × List Nat) := (true, [([], []), ([0], [0]), ([1], [1]), ([2], [2]), ([3, 2], [3]), ([4], [4]), ([5, 4], [4, 5]), ([6, 4, 4], [4, 6]), ([7, 4], [4, 7]), ([4, 8], [4, 8]), ([9, 7], [9]), ([10], [10]), ([11, 10], [10, 11]), ([10], [10]), ([13, 10], [10, 13]), ([12, 14, 10], [10, 12, 14]), ([10, 15], [10, 15]), ([16, 10], [16]), ([17], [17]), ([18, 17], [17, 18]), ([19, 17, 17], [17, 19]), ([20], [20]), ([21, 20], [20, 21]), ([20], [20]), ([20], [20]), ([24, 20], [20, 24]), ([23, 25, 20], [20, 23, 25]), ([26, 20], [20, 26]), ([27, 20], [20, 27]), ([22, 28, 20], [20, 22, 28]), ([20, 29, 17], [17, 20, 29]), ([17, 30], [17, 30])])
def impl_ClassOfRanges.B5 : List Nat := [0, 1, 3, 7, 15, 31, 63, 127, 255, 511, 1023, 2047, 4095, 2047, 10239, 32767, 65535, 131071, 262143, 524287, 1048575, 2097151, 4194303, 2097151, 2097151, 18874367, 60817407, 127926271, 262143999, 536870911, 1073741823, 2147483647]
theorem impl_ClassOfRanges.tab5 : rtab .any (opsOf Tryd.f18 5) = impl_ClassOfRanges.T5 := by kernel_rfl
theorem impl_ClassOfRanges.bits5 : waitsOk impl_ClassOfRanges.T5.2 impl_ClassOfRanges.B5 = true := by kernel_rfl
set_option maxHeartbeats 8000000 in
set_option maxRecDepth 100000 in
theorem impl_ClassOfRanges.calls (k : Nat) (A0 : Option Addr) (c0 : Nat) (l0 : List (S63)) (r1 : List Int) (r2 : Int) (w : World) (hr0 : Kd.C k63 w A0 l0.length l0) (hc0 : l0.length ≤ c0) (h : impl_ClassOfRanges.f k l0 = some (r1, r2)) :
  Calls Tryd.prog 18 #[.slice A0 l0.length c0] w fun e w' => ∃ v0_ : Value, e = .returned (.tuple #[v0_, .int .i64 r2]) ∧ Kd.R (Kd.int .i64) 2 w' w.heap.size (fun _ => True) v0_ r1 ∧ Below w.heap.size w w' := by
 have hu63 := Tryd.underlying63
 have HR0 := aM hr0
 have HC0 := aM hc0
 clear hr0 hc0
 have HB := aM (Below.refl w.heap.size w)
 have H : (impl_ClassOfRanges.l0 k l0 ([] : List Int) l0 (l0.length : Int) 0) = some (r1, r2) := h
 clear h
 have H' := aM H
 clear H
 go_enter Tryd.func18, Tryd.ntmps18
 go_wp2
 go_loopg [4, 10] k (fun kq v4 v10 w' => ∃ (x4_1 : List Int) (x10_1 : Int), v10 = .int .i64 x10_1 ∧ Aside0 (impl_ClassOfRanges.l0 kq l0 x4_1 l0 (l0.length : Int) x10_1 = some (r1, r2)) ∧ Aside0 (kq ≤ k) ∧ Aside0 (Kd.R (Kd.int .i64) 2 w' w.heap.size (fun _ => True) v4 x4_1) ∧ Aside0 (Below w.heap.size w w'))
 case atStart => exact ⟨(([] : List Int)), (0), rQ, H', ⟨Nat.le_refl _⟩, ⟨by first | exact Kd.R_nil _ _ _ _ _ | exact Kd.N_nil _ _ _ _ _ | exact Kd.V_nil _ _ _ _ _ | exact Kd.Q_nil _ _ _ _ _ | exact Kd.S_nil _ _ _ _ _⟩, ⟨bQ⟩⟩
 case round =>
  clear H'
  try clear c1
  obtain ⟨x4_1, x10_1, rfl, HA, HK1, HO_4, HB⟩ := hrel
  cases gk with
  | zero => exact absurd HA.out (by simp [impl_ClassOfRanges.l0])
  | succ k1 =>
   have H := HA.out
   clear HA
   simp only [impl_ClassOfRanges.l0] at H
   by_cases c2 : x10_1 < (l0.length : Int)
   ·rw [if_pos c2] at H
    have c2b0 : decide (x10_1 < (l0.length : Int)) = true := decide_eq_true c2
    clear c2
    by_cases c3 : 0 ≤ x10_1
    ·rw [if_pos c3] at H
     have c3b0 : decide (0 ≤ x10_1) = true := decide_eq_true c3
     clear c3
     by_cases c4 : x10_1 < (l0.length : Int)
     ·rw [if_pos c4] at H
      have c4b0 : decide (x10_1 < (l0.length : Int)) = true := decide_eq_true c4
      clear c4
      have HC5 := aM H
      clear H
      have p198 : 0 ≤ (x10_1 : Int) := dA
      have q198 : x10_1 < (l0.length : Int) := dA
      obtain ⟨ad198, e198, hx198_0, hx198_1⟩ := at_T63 HR0.out x10_1 p198 q198
      cases e198
      replace hx198_0 := cB HB.out hx198_0
      replace hx198_1 := cB HB.out hx198_1
      replace p198 := eq_true p198
      replace q198 := eq_true q198
      go_upto_region 5 with (first | ((with_reducible refine gate_dst (N := 6) rfl ?_); refine box_event ?hg (N := 6) ?hd (cs := #[.int .i64 0, .int .i64 0]) (t := 63) ?hr ?_; (case hd => rfl); (case hg => rfl); (case hr => first | (go_simp; done) | (go_simp; rfl)); intro gb199 hg w6 hbox hb; have n0_ := aM (Kd.R_below (by (with_reducible repeat (first | apply rA | apply rN | apply rD)); exact HO_4.out) hb); have n1_ := aM (below_step bQ hb); have n2_ := aM (hbox); have n3_ := aM ((by rw [hg]; exact (below_size bQ) : w.heap.size ≤ gb199)); have n4_ := aM ((by rw [hg]; exact (below_size bQ) : w.heap.size ≤ gb199)); clear HO_4; clear HB; have HO_4 := n0_; have HB := n1_; have BK199 := n2_; have GW199 := n3_; have GE199 := n4_; clear n0_ n1_ n2_ n3_ n4_; clear hb hbox hg; have hcz7_0 : w6.cell? ⟨gb199, 0, none⟩ = some (.int .i64 0) := (blk_cell BK199.out 0).trans rfl; have hcz7_1 : w6.cell? ⟨gb199, 1, none⟩ = some (.int .i64 0) := (blk_cell BK199.out 1).trans rfl; have hfz7_0 := blk_frozen BK199.out 0; have hfz7_1 := blk_frozen BK199.out 1))
      (try simp only [Act.put, sI, sZ, sS])
      go_cut [46] (fun v46 wc => ∃ (kq : Nat) (x46_4 : Bool), v46 = .bool x46_4 ∧ Aside0 (impl_ClassOfRanges.j1 kq l0 x4_1 l0 (l0.length : Int) x10_1 x46_4 ((rd_T63 l0 x10_1).f0) ((rd_T63 l0 x10_1).f1) = some (r1, r2)) ∧ Aside0 (kq ≤ k1) ∧ Aside0 (Kd.R (Kd.int .i64) 2 wc w.heap.size (fun _ => True) u4 x4_1) ∧ Aside0 (wc.heap[gb199]? = some (.cells #[.int .i64 ((rd_T63 l0 x10_1).f0), .int .i64 ((rd_T63 l0 x10_1).f1)] 63 (0, 0))) ∧ Aside0 (Below w.heap.size w wc))
      case first =>
       have H := HC5.out
       clear HC5
       replace H := Option.bind_eq_some_iff.mp H
       obtain ⟨t200, A80, H⟩ := H
       replace H : (if t200 = true then ((impl_isGlyphNumber.f ((rd_T63 l0 x10_1).f1)).bind fun t201 => (if t201 = true then (if ((rd_T63 l0 x10_1).f1) < ((rd_T63 l0 x10_1).f0) then (impl_ClassOfRanges.j1 k1 l0 x4_1 l0 (l0.length : Int) x10_1 true ((rd_T63 l0 x10_1).f0) ((rd_T63 l0 x10_1).f1)) else (if x10_1 > 0 then (if 0 ≤ (wrap64 (x10_1 - 1)) then (if (wrap64 (x10_1 - 1)) < (l0.length : Int) then (impl_ClassOfRanges.j1 k1 l0 x4_1 l0 (l0.length : Int) x10_1 (decide (((rd_T63 l0 x10_1).f0) ≤ ((rd_T63 l0 (wrap64 (x10_1 - 1))).f1))) ((rd_T63 l0 x10_1).f0) ((rd_T63 l0 x10_1).f1)) else (none)) else (none)) else (impl_ClassOfRanges.j1 k1 l0 x4_1 l0 (l0.length : Int) x10_1 false ((rd_T63 l0 x10_1).f0) ((rd_T63 l0 x10_1).f1)))) else (impl_ClassOfRanges.j1 k1 l0 x4_1 l0 (l0.length : Int) x10_1 true ((rd_T63 l0 x10_1).f0) ((rd_T63 l0 x10_1).f1)))) else (impl_ClassOfRanges.j1 k1 l0 x4_1 l0 (l0.length : Int) x10_1 true ((rd_T63 l0 x10_1).f0) ((rd_T63 l0 x10_1).f1))) = some (r1, r2) := H
       have A8 := aM A80
       clear A80
       by_cases c9 : t200 = true
       ·subst c9
        have H1 : ((impl_isGlyphNumber.f ((rd_T63 l0 x10_1).f1)).bind fun t201 => (if t201 = true then (if ((rd_T63 l0 x10_1).f1) < ((rd_T63 l0 x10_1).f0) then (impl_ClassOfRanges.j1 k1 l0 x4_1 l0 (l0.length : Int) x10_1 true ((rd_T63 l0 x10_1).f0) ((rd_T63 l0 x10_1).f1)) else (if x10_1 > 0 then (if 0 ≤ (wrap64 (x10_1 - 1)) then (if (wrap64 (x10_1 - 1)) < (l0.length : Int) then (impl_ClassOfRanges.j1 k1 l0 x4_1 l0 (l0.length : Int) x10_1 (decide (((rd_T63 l0 x10_1).f0) ≤ ((rd_T63 l0 (wrap64 (x10_1 - 1))).f1))) ((rd_T63 l0 x10_1).f0) ((rd_T63 l0 x10_1).f1)) else (none)) else (none)) else (impl_ClassOfRanges.j1 k1 l0 x4_1 l0 (l0.length : Int) x10_1 false ((rd_T63 l0 x10_1).f0) ((rd_T63 l0 x10_1).f1)))) else (impl_ClassOfRanges.j1 k1 l0 x4_1 l0 (l0.length : Int) x10_1 true ((rd_T63 l0 x10_1).f0) ((rd_T63 l0 x10_1).f1)))) = some (r1, r2) := by rw [if_pos rfl] at H; exact H
        clear H
        have H := H1
        clear H1
        replace H := Option.bind_eq_some_iff.mp H
        obtain ⟨t201, A100, H⟩ := H
        replace H : (if t201 = true then (if ((rd_T63 l0 x10_1).f1) < ((rd_T63 l0 x10_1).f0) then (impl_ClassOfRanges.j1 k1 l0 x4_1 l0 (l0.length : Int) x10_1 true ((rd_T63 l0 x10_1).f0) ((rd_T63 l0 x10_1).f1)) else (if x10_1 > 0 then (if 0 ≤ (wrap64 (x10_1 - 1)) then (if (wrap64 (x10_1 - 1)) < (l0.length : Int) then (impl_ClassOfRanges.j1 k1 l0 x4_1 l0 (l0.length : Int) x10_1 (decide (((rd_T63 l0 x10_1).f0) ≤ ((rd_T63 l0 (wrap64 (x10_1 - 1))).f1))) ((rd_T63 l0 x10_1).f0) ((rd_T63 l0 x10_1).f1)) else (none)) else (none)) else (impl_ClassOfRanges.j1 k1 l0 x4_1 l0 (l0.length : Int) x10_1 false ((rd_T63 l0 x10_1).f0) ((rd_T63 l0 x10_1).f1)))) else (impl_ClassOfRanges.j1 k1 l0 x4_1 l0 (l0.length : Int) x10_1 true ((rd_T63 l0 x10_1).f0) ((rd_T63 l0 x10_1).f1))) = some (r1, r2) := H
        have A10 := aM A100
        clear A100
        by_cases c11 : t201 = true
        ·subst c11
         have H1 : (if ((rd_T63 l0 x10_1).f1) < ((rd_T63 l0 x10_1).f0) then (impl_ClassOfRanges.j1 k1 l0 x4_1 l0 (l0.length : Int) x10_1 true ((rd_T63 l0 x10_1).f0) ((rd_T63 l0 x10_1).f1)) else (if x10_1 > 0 then (if 0 ≤ (wrap64 (x10_1 - 1)) then (if (wrap64 (x10_1 - 1)) < (l0.length : Int) then (impl_ClassOfRanges.j1 k1 l0 x4_1 l0 (l0.length : Int) x10_1 (decide (((rd_T63 l0 x10_1).f0) ≤ ((rd_T63 l0 (wrap64 (x10_1 - 1))).f1))) ((rd_T63 l0 x10_1).f0) ((rd_T63 l0 x10_1).f1)) else (none)) else (none)) else (impl_ClassOfRanges.j1 k1 l0 x4_1 l0 (l0.length : Int) x10_1 false ((rd_T63 l0 x10_1).f0) ((rd_T63 l0 x10_1).f1)))) = some (r1, r2) := by rw [if_pos rfl] at H; exact H
         clear H
         have H := H1
         clear H1
         by_cases c12 : ((rd_T63 l0 x10_1).f1) < ((rd_T63 l0 x10_1).f0)
         ·rw [if_pos c12] at H
          have c12b0 : decide (((rd_T63 l0 x10_1).f1) < ((rd_T63 l0 x10_1).f0)) = true := decide_eq_true c12
          clear c12
          (first | rw [c12b0] | (simp only [i64_w, i32_w]; rw [c12b0]) | rw [c12b1] | rw [c12b2] | rw [c12b3] | rw [c12b4] | skip)
          have H' := aM H
          clear H
          try go_wp2
          have n0_ : Aside0 (Kd.R (Kd.int .i64) 2 ((w6.setCell ⟨gb199, 0, none⟩ (.int .i64 ((rd_T63 l0 x10_1).f0))).setCell ⟨gb199, 1, none⟩ (.int .i64 ((rd_T63 l0 x10_1).f1))) w.heap.size (fun _ => True) u4 x4_1) := ⟨by (with_reducible repeat (first | apply rA | apply rN | apply rD)); exact Kd.R_mono (Kd.R_far (p := ⟨gb199, 1, none⟩) (Kd.R_far (p := ⟨gb199, 0, none⟩) (Kd.R_types HO_4.out BK199.out (by decide)) h2_ (.int .i64 ((rd_T63 l0 x10_1).f0))) h2_ (.int .i64 ((rd_T63 l0 x10_1).f1))) (fun _ hk => trivial)⟩
          have n1_ : Aside0 (((w6.setCell ⟨gb199, 0, none⟩ (.int .i64 ((rd_T63 l0 x10_1).f0))).setCell ⟨gb199, 1, none⟩ (.int .i64 ((rd_T63 l0 x10_1).f1))).heap[gb199]? = some (.cells #[.int .i64 ((rd_T63 l0 x10_1).f0), .int .i64 ((rd_T63 l0 x10_1).f1)] 63 (0, 0))) := ⟨by (with_reducible repeat (first | refine blk_drewN ?_ _ | refine blk_drew ?_ | refine blk_alloc ?_ _)); refine blk_put (cs := #[.int .i64 ((rd_T63 l0 x10_1).f0), .int .i64 0]) ?_ 1 _ rfl; (with_reducible repeat (first | refine blk_drewN ?_ _ | refine blk_drew ?_ | refine blk_alloc ?_ _)); refine blk_put (cs := #[.int .i64 0, .int .i64 0]) ?_ 0 _ rfl; (with_reducible repeat (first | refine blk_drewN ?_ _ | refine blk_drew ?_ | refine blk_alloc ?_ _)); exact BK199.out⟩
          have n2_ : Aside0 (Below w.heap.size w ((w6.setCell ⟨gb199, 0, none⟩ (.int .i64 ((rd_T63 l0 x10_1).f0))).setCell ⟨gb199, 1, none⟩ (.int .i64 ((rd_T63 l0 x10_1).f1)))) := ⟨by repeat (first | (with_reducible first | exact HB.out | apply bA | apply bN | apply bD | refine below_set ?_ GE199.out) | exact HB.out)⟩
          (try clear HO_4)
          (try clear BK199)
          (try clear HB)
          generalize ((w6.setCell ⟨gb199, 0, none⟩ (.int .i64 ((rd_T63 l0 x10_1).f0))).setCell ⟨gb199, 1, none⟩ (.int .i64 ((rd_T63 l0 x10_1).f1))) = w13 at n0_ n1_ n2_ ⊢
          have HO_4 := n0_
          have BK199 := n1_
          have HB := n2_
          clear n0_ n1_ n2_
          have n0_ := aM (Kd.R_drew HO_4.out)
          have n1_ := aM (blk_drew BK199.out)
          have n2_ := aM (below_drew1 HB.out)
          clear HO_4
          clear BK199
          clear HB
          have HO_4 := n0_
          have BK199 := n1_
          have HB := n2_
          clear n0_ n1_ n2_
          refine start_ (n := 32) (S := fun w' => w'.cell? ⟨gb199, 0, none⟩ = some (.int .i64 ((rd_T63 l0 x10_1).f0)) ∧ w'.cell? ⟨gb199, 1, none⟩ = some (.int .i64 ((rd_T63 l0 x10_1).f1))) (ds := []) mkimpl_C823_0 (by kernel_rfl) rfl rfl ⟨(blk_cell BK199.out 0).trans rfl, (blk_cell BK199.out 1).trans rfl⟩ (fun hHeld => ?_); refine with_tabW impl_ClassOfRanges.tab5 impl_ClassOfRanges.bits5 (fun HT_ HW_ => ?_)
          generalize w13.drew = w14 at HO_4 BK199 HB hHeld ⊢
          refine pQ (i := 0) (N := some 15) mkimpl_C823_1 ?_
          refine tQ (i := 1) (N := some 16) mkimpl_C823_2 rfl hHeld (Or.inl ⟨by rfl, by rintro w' ⟨s0, s1⟩; go_simp; with_reducible rfl⟩) ?_
          refine one_ (i := 2) (N := some 17) mkimpl_C823_3 rfl rfl (one_of HT_.out (by kernel_rfl)) (by decide) (fun K hK => ?_)
          refine goes_ Tryd.func37 (by kernel_rfl) rfl #[.int .i64 ((rd_T63 l0 x10_1).f0)] (by rfl) rfl rfl gQ ?_
          with_reducible refine (impl_isGlyphNumber.calls ((rd_T63 l0 x10_1).f0) true _ A8.out).mono ?_
          rintro e w' ⟨rfl, ⟨nd, rfl⟩⟩
          refine ⟨_, rfl, ?_⟩
          refine hK.out _ _ ⟨(blk_cell BK199.out 0).trans rfl, (blk_cell BK199.out 1).trans rfl⟩ (fun hHeld => ?_)
          clear hK K
          refine norm_ (a' := ?_) ?_ ?_
          rotate_left
          ·show Act.put _ (some 17) _ = _
           simp only [Act.put, sI, sZ, sS, i64_w, i32_w]
           rfl
          refine pQ (i := 3) (N := some 18) mkimpl_C823_4 ?_
          refine pQ (i := 4) (N := some 19) mkimpl_C823_5 ?_
          refine pQ (i := 5) (N := some 20) mkimpl_C823_6 ?_
          refine tQ (i := 6) (N := some 21) mkimpl_C823_7 rfl hHeld (Or.inl ⟨by rfl, by rintro w' ⟨s0, s1⟩; go_simp; with_reducible rfl⟩) ?_
          refine one_ (i := 7) (N := some 22) mkimpl_C823_8 rfl rfl (one_of HT_.out (by kernel_rfl)) (by decide) (fun K hK => ?_)
          refine goes_ Tryd.func37 (by kernel_rfl) rfl #[.int .i64 ((rd_T63 l0 x10_1).f1)] (by rfl) rfl rfl gQ ?_
          with_reducible refine (impl_isGlyphNumber.calls ((rd_T63 l0 x10_1).f1) true _ A10.out).mono ?_
          rintro e w' ⟨rfl, ⟨nd, rfl⟩⟩
          refine ⟨_, rfl, ?_⟩
          refine hK.out _ _ ⟨(blk_cell BK199.out 0).trans rfl, (blk_cell BK199.out 1).trans rfl⟩ (fun hHeld => ?_)
          clear hK K
          refine norm_ (a' := ?_) ?_ ?_
          rotate_left
          ·show Act.put _ (some 22) _ = _
           simp only [Act.put, sI, sZ, sS, i64_w, i32_w]
           rfl
          refine pQ (i := 8) (N := some 23) mkimpl_C823_9 ?_
          refine pQ (i := 9) (N := some 24) mkimpl_C823_10 ?_
          refine pQ (i := 10) (N := some 25) mkimpl_C823_11 ?_
          refine pQ (i := 11) (N := some 26) mkimpl_C823_12 ?_
          refine pQ (i := 13) (N := some 28) mkimpl_C823_13 ?_
          refine tQ (i := 12) (N := some 27) mkimpl_C823_15 rfl hHeld (Or.inl ⟨by rfl, by rintro w' ⟨s0, s1⟩; go_simp; with_reducible rfl⟩) ?_
          refine tQ (i := 14) (N := some 29) mkimpl_C823_16 rfl hHeld (Or.inl ⟨by rfl, by rintro w' ⟨s0, s1⟩; go_simp; with_reducible rfl⟩) ?_
          refine pQ (i := 15) (N := some 30) mkimpl_C823_17 ?_
          refine pQ (i := 16) (N := some 31) mkimpl_C823_18 ?_
          refine pQ (i := 17) (N := some 32) mkimpl_C823_19 ?_
          refine uQ (i := 18) (N := some 33) mkimpl_C823_20 ?_
          refine uQ (i := 19) (N := some 34) mkimpl_C823_21 ?_
          refine uQ (i := 20) (N := some 35) mkimpl_C823_22 ?_
          refine uQ (i := 21) (N := some 36) mkimpl_C823_23 ?_
          refine uQ (i := 22) (N := some 37) mkimpl_C823_24 ?_
          refine uQ (i := 23) (N := some 38) mkimpl_C823_26 ?_
          refine uQ (i := 24) (N := some 39) mkimpl_C823_28 ?_
          refine uQ (i := 25) (N := some 40) mkimpl_C823_30 ?_
          refine uQ (i := 26) (N := some 41) mkimpl_C823_32 ?_
          refine uQ (i := 27) (N := some 42) mkimpl_C823_34 ?_
          refine uQ (i := 28) (N := some 43) mkimpl_C823_35 ?_
          refine uQ (i := 29) (N := some 44) mkimpl_C823_36 ?_
          refine uQ (i := 30) (N := some 45) mkimpl_C823_37 ?_
          refine pQ (i := 31) (N := some 46) mkimpl_C823_38 ?_
          refine done_ (done_of HT_.out (by kernel_rfl)) ?_
          try go_wp2
          go_meet
          case rel => exact ⟨_, (true), rQ, H', ⟨by have := HK1.out; first | omega | exact Nat.le_refl _⟩, ⟨by (with_reducible repeat (first | apply rA | apply rN | apply rD)); exact HO_4.out⟩, ⟨by (with_reducible repeat (first | refine blk_drewN ?_ _ | refine blk_drew ?_ | refine blk_alloc ?_ _)); exact BK199.out⟩, ⟨by repeat (first | (with_reducible first | exact HB.out | apply bA | apply bN | apply bD | refine below_set ?_ GE199.out) | exact HB.out)⟩⟩
         ·rw [if_neg c12] at H
          have c12b0 : decide (((rd_T63 l0 x10_1).f1) < ((rd_T63 l0 x10_1).f0)) = false := decide_eq_false c12
          clear c12
          (first | rw [c12b0] | (simp only [i64_w, i32_w]; rw [c12b0]) | rw [c12b1] | rw [c12b2] | rw [c12b3] | rw [c12b4] | skip)
          by_cases c15 : x10_1 > 0
          ·rw [if_pos c15] at H
           have c15b0 : decide (0 < x10_1) = true := decide_eq_true c15
           clear c15
           obtain ⟨ji16, hji16⟩ : ∃ j_ : Int, (wrap64 (x10_1 - 1)) = j_ := ⟨_, rfl⟩
           replace H : (if 0 ≤ (ji16) then (if (ji16) < (l0.length : Int) then (impl_ClassOfRanges.j1 k1 l0 x4_1 l0 (l0.length : Int) x10_1 (decide (((rd_T63 l0 x10_1).f0) ≤ ((rd_T63 l0 (ji16)).f1))) ((rd_T63 l0 x10_1).f0) ((rd_T63 l0 x10_1).f1)) else (none)) else (none)) = some (r1, r2) := by first | (rw [hji16] at H; exact H) | (simp only [hji16] at H ⊢; exact H)
           (try rw [hji16] at A8)
           (try rw [hji16] at A10)
           have hji16w : (IntKind.i64.wrap (x10_1 - 1)) = ji16 := (i64_w _).trans hji16
           by_cases c17 : 0 ≤ (ji16)
           ·rw [if_pos c17] at H
            have c17b0 : decide (0 ≤ (ji16)) = true := decide_eq_true c17
            clear c17
            by_cases c18 : (ji16) < (l0.length : Int)
            ·rw [if_pos c18] at H
             have c18b0 : decide ((ji16) < (l0.length : Int)) = true := decide_eq_true c18
             clear c18
             have H' := aM H
             clear H
             try go_wp2
             have n0_ : Aside0 (Kd.R (Kd.int .i64) 2 ((w6.setCell ⟨gb199, 0, none⟩ (.int .i64 ((rd_T63 l0 x10_1).f0))).setCell ⟨gb199, 1, none⟩ (.int .i64 ((rd_T63 l0 x10_1).f1))) w.heap.size (fun _ => True) u4 x4_1) := ⟨by (with_reducible repeat (first | apply rA | apply rN | apply rD)); exact Kd.R_mono (Kd.R_far (p := ⟨gb199, 1, none⟩) (Kd.R_far (p := ⟨gb199, 0, none⟩) (Kd.R_types HO_4.out BK199.out (by decide)) h2_ (.int .i64 ((rd_T63 l0 x10_1).f0))) h2_ (.int .i64 ((rd_T63 l0 x10_1).f1))) (fun _ hk => trivial)⟩
             have n1_ : Aside0 (((w6.setCell ⟨gb199, 0, none⟩ (.int .i64 ((rd_T63 l0 x10_1).f0))).setCell ⟨gb199, 1, none⟩ (.int .i64 ((rd_T63 l0 x10_1).f1))).heap[gb199]? = some (.cells #[.int .i64 ((rd_T63 l0 x10_1).f0), .int .i64 ((rd_T63 l0 x10_1).f1)] 63 (0, 0))) := ⟨by (with_reducible repeat (first | refine blk_drewN ?_ _ | refine blk_drew ?_ | refine blk_alloc ?_ _)); refine blk_put (cs := #[.int .i64 ((rd_T63 l0 x10_1).f0), .int .i64 0]) ?_ 1 _ rfl; (with_reducible repeat (first | refine blk_drewN ?_ _ | refine blk_drew ?_ | refine blk_alloc ?_ _)); refine blk_put (cs := #[.int .i64 0, .int .i64 0]) ?_ 0 _ rfl; (with_reducible repeat (first | refine blk_drewN ?_ _ | refine blk_drew ?_ | refine blk_alloc ?_ _)); exact BK199.out⟩
             have n2_ : Aside0 (Below w.heap.size w ((w6.setCell ⟨gb199, 0, none⟩ (.int .i64 ((rd_T63 l0 x10_1).f0))).setCell ⟨gb199, 1, none⟩ (.int .i64 ((rd_T63 l0 x10_1).f1)))) := ⟨by repeat (first | (with_reducible first | exact HB.out | apply bA | apply bN | apply bD | refine below_set ?_ GE199.out) | exact HB.out)⟩
             (try clear HO_4)
             (try clear BK199)
             (try clear HB)
             generalize ((w6.setCell ⟨gb199, 0, none⟩ (.int .i64 ((rd_T63 l0 x10_1).f0))).setCell ⟨gb199, 1, none⟩ (.int .i64 ((rd_T63 l0 x10_1).f1))) = w19 at n0_ n1_ n2_ ⊢
             have HO_4 := n0_
             have BK199 := n1_
             have HB := n2_
             clear n0_ n1_ n2_
             have n0_ := aM (Kd.R_drew HO_4.out)
             have n1_ := aM (blk_drew BK199.out)
             have n2_ := aM (below_drew1 HB.out)
             clear HO_4
             clear BK199
             clear HB
             have HO_4 := n0_
             have BK199 := n1_
             have HB := n2_
             clear n0_ n1_ n2_
             have p202 : 0 ≤ ((ji16) : Int) := dA
             have q202 : (ji16) < (l0.length : Int) := dA
             obtain ⟨ad202, e202, hx202_0, hx202_1⟩ := at_T63 HR0.out (ji16) p202 q202
             have hw202_1 := hx202_1
             have hw202_0 := hx202_0
             obtain rfl : ad198 = ad202 := (by injection e202)
             replace hx202_0 := cB HB.out hx202_0
             replace hx202_1 := cB HB.out hx202_1
             replace p202 := eq_true p202
             replace q202 := eq_true q202
             refine start_ (n := 32) (S := fun w' => w'.cell? ⟨gb199, 0, none⟩ = some (.int .i64 ((rd_T63 l0 x10_1).f0)) ∧ w'.cell? ⟨gb199, 1, none⟩ = some (.int .i64 ((rd_T63 l0 x10_1).f1)) ∧ w'.cell? (ad198.add (((ji16)).toNat * 2)) = some (.int .i64 ((rd_T63 l0 (ji16)).f0)) ∧ w'.cell? ⟨(ad198.add (((ji16)).toNat * 2)).block, (ad198.add (((ji16)).toNat * 2)).off + 1, none⟩ = some (.int .i64 ((rd_T63 l0 (ji16)).f1))) (ds := []) mkimpl_C823_0 (by kernel_rfl) rfl rfl ⟨(blk_cell BK199.out 0).trans rfl, (blk_cell BK199.out 1).trans rfl, (cB HB.out hw202_0), (cB HB.out hw202_1)⟩ (fun hHeld => ?_); refine with_tabW impl_ClassOfRanges.tab5 impl_ClassOfRanges.bits5 (fun HT_ HW_ => ?_)
             generalize w19.drew = w20 at HO_4 BK199 HB hx202_0 hx202_1 hHeld ⊢
             refine pQ (i := 0) (N := some 15) mkimpl_C823_1 ?_
             refine tQ (i := 1) (N := some 16) mkimpl_C823_2 rfl hHeld (Or.inl ⟨by rfl, by rintro w' ⟨s0, s1, s2, s3⟩; go_simp; with_reducible rfl⟩) ?_
             refine one_ (i := 2) (N := some 17) mkimpl_C823_3 rfl rfl (one_of HT_.out (by kernel_rfl)) (by decide) (fun K hK => ?_)
             refine goes_ Tryd.func37 (by kernel_rfl) rfl #[.int .i64 ((rd_T63 l0 x10_1).f0)] (by rfl) rfl rfl gQ ?_
             with_reducible refine (impl_isGlyphNumber.calls ((rd_T63 l0 x10_1).f0) true _ A8.out).mono ?_
             rintro e w' ⟨rfl, ⟨nd, rfl⟩⟩
             refine ⟨_, rfl, ?_⟩
             refine hK.out _ _ ⟨(blk_cell BK199.out 0).trans rfl, (blk_cell BK199.out 1).trans rfl, (cB HB.out hw202_0), (cB HB.out hw202_1)⟩ (fun hHeld => ?_)
             clear hK K
             refine norm_ (a' := ?_) ?_ ?_
             rotate_left
             ·show Act.put _ (some 17) _ = _
              simp only [Act.put, sI, sZ, sS, i64_w, i32_w]
              rfl
             refine pQ (i := 3) (N := some 18) mkimpl_C823_4 ?_
             refine pQ (i := 4) (N := some 19) mkimpl_C823_5 ?_
             refine pQ (i := 5) (N := some 20) mkimpl_C823_6 ?_
             refine tQ (i := 6) (N := some 21) mkimpl_C823_7 rfl hHeld (Or.inl ⟨by rfl, by rintro w' ⟨s0, s1, s2, s3⟩; go_simp; with_reducible rfl⟩) ?_
             refine one_ (i := 7) (N := some 22) mkimpl_C823_8 rfl rfl (one_of HT_.out (by kernel_rfl)) (by decide) (fun K hK => ?_)
             refine goes_ Tryd.func37 (by kernel_rfl) rfl #[.int .i64 ((rd_T63 l0 x10_1).f1)] (by rfl) rfl rfl gQ ?_
             with_reducible refine (impl_isGlyphNumber.calls ((rd_T63 l0 x10_1).f1) true _ A10.out).mono ?_
             rintro e w' ⟨rfl, ⟨nd, rfl⟩⟩
             refine ⟨_, rfl, ?_⟩
             refine hK.out _ _ ⟨(blk_cell BK199.out 0).trans rfl, (blk_cell BK199.out 1).trans rfl, (cB HB.out hw202_0), (cB HB.out hw202_1)⟩ (fun hHeld => ?_)
             clear hK K
             refine norm_ (a' := ?_) ?_ ?_
             rotate_left
             ·show Act.put _ (some 22) _ = _
              simp only [Act.put, sI, sZ, sS, i64_w, i32_w]
              rfl
             refine pQ (i := 8) (N := some 23) mkimpl_C823_9 ?_
             refine pQ (i := 9) (N := some 24) mkimpl_C823_10 ?_
             refine pQ (i := 10) (N := some 25) mkimpl_C823_11 ?_
             refine pQ (i := 11) (N := some 26) mkimpl_C823_12 ?_
             refine pQ (i := 13) (N := some 28) mkimpl_C823_13 ?_
             refine tQ (i := 12) (N := some 27) mkimpl_C823_15 rfl hHeld (Or.inl ⟨by rfl, by rintro w' ⟨s0, s1, s2, s3⟩; go_simp; with_reducible rfl⟩) ?_
             refine tQ (i := 14) (N := some 29) mkimpl_C823_16 rfl hHeld (Or.inl ⟨by rfl, by rintro w' ⟨s0, s1, s2, s3⟩; go_simp; with_reducible rfl⟩) ?_
             refine pQ (i := 15) (N := some 30) mkimpl_C823_17 ?_
             refine pQ (i := 16) (N := some 31) mkimpl_C823_18 ?_
             refine pQ (i := 17) (N := some 32) mkimpl_C823_19 ?_
             refine pQ (i := 18) (N := some 33) mkimpl_C823_20 ?_
             refine pQ (i := 19) (N := some 34) mkimpl_C823_21 ?_
             refine pQ (i := 20) (N := some 35) mkimpl_C823_22 ?_
             refine pQ (i := 21) (N := some 36) mkimpl_C823_23 ?_
             refine pQ (i := 23) (N := some 38) mkimpl_C823_25 ?_
             refine pQ (i := 24) (N := some 39) mkimpl_C823_27 ?_
             refine pQ (i := 25) (N := some 40) mkimpl_C823_29 ?_
             refine pQ (i := 26) (N := some 41) mkimpl_C823_31 ?_
             refine pQ (i := 27) (N := some 42) mkimpl_C823_33 ?_
             refine tQ (i := 22) (N := some 37) mkimpl_C823_34 rfl hHeld (Or.inl ⟨by rfl, by rintro w' ⟨s0, s1, s2, s3⟩; go_simp; with_reducible rfl⟩) ?_
             refine tQ (i := 28) (N := some 43) mkimpl_C823_35 rfl hHeld (Or.inl ⟨by rfl, by rintro w' ⟨s0, s1, s2, s3⟩; go_simp; with_reducible rfl⟩) ?_
             refine pQ (i := 29) (N := some 44) mkimpl_C823_36 ?_
             refine pQ (i := 30) (N := some 45) mkimpl_C823_37 ?_
             refine pQ (i := 31) (N := some 46) mkimpl_C823_38 ?_
             refine done_ (done_of HT_.out (by kernel_rfl)) ?_
             try go_wp2
             go_meet
             case rel => exact ⟨_, (decide (((rd_T63 l0 x10_1).f0) ≤ ((rd_T63 l0 (ji16)).f1))), (by first | rfl | (simp; done) | (simp only [← hji16] <;> (first | rfl | simp)) | (simp [*]; done)), H', ⟨by have := HK1.out; first | omega | exact Nat.le_refl _⟩, ⟨by (with_reducible repeat (first | apply rA | apply rN | apply rD)); exact HO_4.out⟩, ⟨by (with_reducible repeat (first | refine blk_drewN ?_ _ | refine blk_drew ?_ | refine blk_alloc ?_ _)); exact BK199.out⟩, ⟨by repeat (first | (with_reducible first | exact HB.out | apply bA | apply bN | apply bD | refine below_set ?_ GE199.out) | exact HB.out)⟩⟩
            ·rw [if_neg c18] at H
             exact absurd H (by simp)
           ·rw [if_neg c17] at H
            exact absurd H (by simp)
          ·rw [if_neg c15] at H
           have c15b0 : decide (0 < x10_1) = false := decide_eq_false c15
           clear c15
           have H' := aM H
           clear H
           try go_wp2
           have n0_ : Aside0 (Kd.R (Kd.int .i64) 2 ((w6.setCell ⟨gb199, 0, none⟩ (.int .i64 ((rd_T63 l0 x10_1).f0))).setCell ⟨gb199, 1, none⟩ (.int .i64 ((rd_T63 l0 x10_1).f1))) w.heap.size (fun _ => True) u4 x4_1) := ⟨by (with_reducible repeat (first | apply rA | apply rN | apply rD)); exact Kd.R_mono (Kd.R_far (p := ⟨gb199, 1, none⟩) (Kd.R_far (p := ⟨gb199, 0, none⟩) (Kd.R_types HO_4.out BK199.out (by decide)) h2_ (.int .i64 ((rd_T63 l0 x10_1).f0))) h2_ (.int .i64 ((rd_T63 l0 x10_1).f1))) (fun _ hk => trivial)⟩
           have n1_ : Aside0 (((w6.setCell ⟨gb199, 0, none⟩ (.int .i64 ((rd_T63 l0 x10_1).f0))).setCell ⟨gb199, 1, none⟩ (.int .i64 ((rd_T63 l0 x10_1).f1))).heap[gb199]? = some (.cells #[.int .i64 ((rd_T63 l0 x10_1).f0), .int .i64 ((rd_T63 l0 x10_1).f1)] 63 (0, 0))) := ⟨by (with_reducible repeat (first | refine blk_drewN ?_ _ | refine blk_drew ?_ | refine blk_alloc ?_ _)); refine blk_put (cs := #[.int .i64 ((rd_T63 l0 x10_1).f0), .int .i64 0]) ?_ 1 _ rfl; (with_reducible repeat (first | refine blk_drewN ?_ _ | refine blk_drew ?_ | refine blk_alloc ?_ _)); refine blk_put (cs := #[.int .i64 0, .int .i64 0]) ?_ 0 _ rfl; (with_reducible repeat (first | refine blk_drewN ?_ _ | refine blk_drew ?_ | refine blk_alloc ?_ _)); exact BK199.out⟩
           have n2_ : Aside0 (Below w.heap.size w ((w6.setCell ⟨gb199, 0, none⟩ (.int .i64 ((rd_T63 l0 x10_1).f0))).setCell ⟨gb199, 1, none⟩ (.int .i64 ((rd_T63 l0 x10_1).f1)))) := ⟨by repeat (first | (with_reducible first | exact HB.out | apply bA | apply bN | apply bD | refine below_set ?_ GE199.out) | exact HB.out)⟩
           (try clear HO_4)
           (try clear BK199)
           (try clear HB)
           generalize ((w6.setCell ⟨gb199, 0, none⟩ (.int .i64 ((rd_T63 l0 x10_1).f0))).setCell ⟨gb199, 1, none⟩ (.int .i64 ((rd_T63 l0 x10_1).f1))) = w21 at n0_ n1_ n2_ ⊢
           have HO_4 := n0_
           have BK199 := n1_
           have HB := n2_
           clear n0_ n1_ n2_
           have n0_ := aM (Kd.R_drew HO_4.out)
           have n1_ := aM (blk_drew BK199.out)
           have n2_ := aM (below_drew1 HB.out)
           clear HO_4
           clear BK199
           clear HB
           have HO_4 := n0_
           have BK199 := n1_
           have HB := n2_
           clear n0_ n1_ n2_
           refine start_ (n := 32) (S := fun w' => w'.cell? ⟨gb199, 0, none⟩ = some (.int .i64 ((rd_T63 l0 x10_1).f0)) ∧ w'.cell? ⟨gb199, 1, none⟩ = some (.int .i64 ((rd_T63 l0 x10_1).f1))) (ds := []) mkimpl_C823_0 (by kernel_rfl) rfl rfl ⟨(blk_cell BK199.out 0).trans rfl, (blk_cell BK199.out 1).trans rfl⟩ (fun hHeld => ?_); refine with_tabW impl_ClassOfRanges.tab5 impl_ClassOfRanges.bits5 (fun HT_ HW_ => ?_)
           generalize w21.drew = w22 at HO_4 BK199 HB hHeld ⊢
           refine pQ (i := 0) (N := some 15) mkimpl_C823_1 ?_
           refine tQ (i := 1) (N := some 16) mkimpl_C823_2 rfl hHeld (Or.inl ⟨by rfl, by rintro w' ⟨s0, s1⟩; go_simp; with_reducible rfl⟩) ?_
           refine one_ (i := 2) (N := some 17) mkimpl_C823_3 rfl rfl (one_of HT_.out (by kernel_rfl)) (by decide) (fun K hK => ?_)
           refine goes_ Tryd.func37 (by kernel_rfl) rfl #[.int .i64 ((rd_T63 l0 x10_1).f0)] (by rfl) rfl rfl gQ ?_
           with_reducible refine (impl_isGlyphNumber.calls ((rd_T63 l0 x10_1).f0) true _ A8.out).mono ?_
           rintro e w' ⟨rfl, ⟨nd, rfl⟩⟩
           refine ⟨_, rfl, ?_⟩
           refine hK.out _ _ ⟨(blk_cell BK199.out 0).trans rfl, (blk_cell BK199.out 1).trans rfl⟩ (fun hHeld => ?_)
           clear hK K
           refine norm_ (a' := ?_) ?_ ?_
           rotate_left
           ·show Act.put _ (some 17) _ = _
            simp only [Act.put, sI, sZ, sS, i64_w, i32_w]
            rfl
           refine pQ (i := 3) (N := some 18) mkimpl_C823_4 ?_
           refine pQ (i := 4) (N := some 19) mkimpl_C823_5 ?_
           refine pQ (i := 5) (N := some 20) mkimpl_C823_6 ?_
           refine tQ (i := 6) (N := some 21) mkimpl_C823_7 rfl hHeld (Or.inl ⟨by rfl, by rintro w' ⟨s0, s1⟩; go_simp; with_reducible rfl⟩) ?_
           refine one_ (i := 7) (N := some 22) mkimpl_C823_8 rfl rfl (one_of HT_.out (by kernel_rfl)) (by decide) (fun K hK => ?_)
           refine goes_ Tryd.func37 (by kernel_rfl) rfl #[.int .i64 ((rd_T63 l0 x10_1).f1)] (by rfl) rfl rfl gQ ?_
           with_reducible refine (impl_isGlyphNumber.calls ((rd_T63 l0 x10_1).f1) true _ A10.out).mono ?_
           rintro e w' ⟨rfl, ⟨nd, rfl⟩⟩
           refine ⟨_, rfl, ?_⟩
           refine hK.out _ _ ⟨(blk_cell BK199.out 0).trans rfl, (blk_cell BK199.out 1).trans rfl⟩ (fun hHeld => ?_)
           clear hK K
           refine norm_ (a' := ?_) ?_ ?_
           rotate_left
           ·show Act.put _ (some 22) _ = _
            simp only [Act.put, sI, sZ, sS, i64_w, i32_w]
            rfl
           refine pQ (i := 8) (N := some 23) mkimpl_C823_9 ?_
           refine pQ (i := 9) (N := some 24) mkimpl_C823_10 ?_
           refine pQ (i := 10) (N := some 25) mkimpl_C823_11 ?_
           refine pQ (i := 11) (N := some 26) mkimpl_C823_12 ?_
           refine pQ (i := 13) (N := some 28) mkimpl_C823_13 ?_
           refine tQ (i := 12) (N := some 27) mkimpl_C823_15 rfl hHeld (Or.inl ⟨by rfl, by rintro w' ⟨s0, s1⟩; go_simp; with_reducible rfl⟩) ?_
           refine tQ (i := 14) (N := some 29) mkimpl_C823_16 rfl hHeld (Or.inl ⟨by rfl, by rintro w' ⟨s0, s1⟩; go_simp; with_reducible rfl⟩) ?_
           refine pQ (i := 15) (N := some 30) mkimpl_C823_17 ?_
           refine pQ (i := 16) (N := some 31) mkimpl_C823_18 ?_
           refine pQ (i := 17) (N := some 32) mkimpl_C823_19 ?_
           refine pQ (i := 18) (N := some 33) mkimpl_C823_20 ?_
           refine pQ (i := 19) (N := some 34) mkimpl_C823_21 ?_
           refine pQ (i := 20) (N := some 35) mkimpl_C823_22 ?_
           refine uQ (i := 21) (N := some 36) mkimpl_C823_23 ?_
           refine uQ (i := 22) (N := some 37) mkimpl_C823_24 ?_
           refine uQ (i := 23) (N := some 38) mkimpl_C823_26 ?_
           refine uQ (i := 24) (N := some 39) mkimpl_C823_28 ?_
           refine uQ (i := 25) (N := some 40) mkimpl_C823_30 ?_
           refine uQ (i := 26) (N := some 41) mkimpl_C823_32 ?_
           refine uQ (i := 27) (N := some 42) mkimpl_C823_34 ?_
           refine uQ (i := 28) (N := some 43) mkimpl_C823_35 ?_
           refine uQ (i := 29) (N := some 44) mkimpl_C823_36 ?_
           refine pQ (i := 30) (N := some 45) mkimpl_C823_37 ?_
           refine pQ (i := 31) (N := some 46) mkimpl_C823_38 ?_
           refine done_ (done_of HT_.out (by kernel_rfl)) ?_
           try go_wp2
           go_meet
           case rel => exact ⟨_, (false), rQ, H', ⟨by have := HK1.out; first | omega | exact Nat.le_refl _⟩, ⟨by (with_reducible repeat (first | apply rA | apply rN | apply rD)); exact HO_4.out⟩, ⟨by (with_reducible repeat (first | refine blk_drewN ?_ _ | refine blk_drew ?_ | refine blk_alloc ?_ _)); exact BK199.out⟩, ⟨by repeat (first | (with_reducible first | exact HB.out | apply bA | apply bN | apply bD | refine below_set ?_ GE199.out) | exact HB.out)⟩⟩
        ·replace c11 := Bool.eq_false_iff.mpr c11
         subst c11
         have H1 : (impl_ClassOfRanges.j1 k1 l0 x4_1 l0 (l0.length : Int) x10_1 true ((rd_T63 l0 x10_1).f0) ((rd_T63 l0 x10_1).f1)) = some (r1, r2) := by rw [if_neg (show ¬ (false = true) by decide)] at H; exact H
         clear H
         have H := H1
         clear H1
         have H' := aM H
         clear H
         try go_wp2
         have n0_ : Aside0 (Kd.R (Kd.int .i64) 2 ((w6.setCell ⟨gb199, 0, none⟩ (.int .i64 ((rd_T63 l0 x10_1).f0))).setCell ⟨gb199, 1, none⟩ (.int .i64 ((rd_T63 l0 x10_1).f1))) w.heap.size (fun _ => True) u4 x4_1) := ⟨by (with_reducible repeat (first | apply rA | apply rN | apply rD)); exact Kd.R_mono (Kd.R_far (p := ⟨gb199, 1, none⟩) (Kd.R_far (p := ⟨gb199, 0, none⟩) (Kd.R_types HO_4.out BK199.out (by decide)) h2_ (.int .i64 ((rd_T63 l0 x10_1).f0))) h2_ (.int .i64 ((rd_T63 l0 x10_1).f1))) (fun _ hk => trivial)⟩
         have n1_ : Aside0 (((w6.setCell ⟨gb199, 0, none⟩ (.int .i64 ((rd_T63 l0 x10_1).f0))).setCell ⟨gb199, 1, none⟩ (.int .i64 ((rd_T63 l0 x10_1).f1))).heap[gb199]? = some (.cells #[.int .i64 ((rd_T63 l0 x10_1).f0), .int .i64 ((rd_T63 l0 x10_1).f1)] 63 (0, 0))) := ⟨by (with_reducible repeat (first | refine blk_drewN ?_ _ | refine blk_drew ?_ | refine blk_alloc ?_ _)); refine blk_put (cs := #[.int .i64 ((rd_T63 l0 x10_1).f0), .int .i64 0]) ?_ 1 _ rfl; (with_reducible repeat (first | refine blk_drewN ?_ _ | refine blk_drew ?_ | refine blk_alloc ?_ _)); refine blk_put (cs := #[.int .i64 0, .int .i64 0]) ?_ 0 _ rfl; (with_reducible repeat (first | refine blk_drewN ?_ _ | refine blk_drew ?_ | refine blk_alloc ?_ _)); exact BK199.out⟩
         have n2_ : Aside0 (Below w.heap.size w ((w6.setCell ⟨gb199, 0, none⟩ (.int .i64 ((rd_T63 l0 x10_1).f0))).setCell ⟨gb199, 1, none⟩ (.int .i64 ((rd_T63 l0 x10_1).f1)))) := ⟨by repeat (first | (with_reducible first | exact HB.out | apply bA | apply bN | apply bD | refine below_set ?_ GE199.out) | exact HB.out)⟩
         (try clear HO_4)
         (try clear BK199)
         (try clear HB)
         generalize ((w6.setCell ⟨gb199, 0, none⟩ (.int .i64 ((rd_T63 l0 x10_1).f0))).setCell ⟨gb199, 1, none⟩ (.int .i64 ((rd_T63 l0 x10_1).f1))) = w23 at n0_ n1_ n2_ ⊢
         have HO_4 := n0_
         have BK199 := n1_
         have HB := n2_
         clear n0_ n1_ n2_
         have n0_ := aM (Kd.R_drew HO_4.out)
         have n1_ := aM (blk_drew BK199.out)
         have n2_ := aM (below_drew1 HB.out)
         clear HO_4
         clear BK199
         clear HB
         have HO_4 := n0_
         have BK199 := n1_
         have HB := n2_
         clear n0_ n1_ n2_
         refine start_ (n := 32) (S := fun w' => w'.cell? ⟨gb199, 0, none⟩ = some (.int .i64 ((rd_T63 l0 x10_1).f0)) ∧ w'.cell? ⟨gb199, 1, none⟩ = some (.int .i64 ((rd_T63 l0 x10_1).f1))) (ds := []) mkimpl_C823_0 (by kernel_rfl) rfl rfl ⟨(blk_cell BK199.out 0).trans rfl, (blk_cell BK199.out 1).trans rfl⟩ (fun hHeld => ?_); refine with_tabW impl_ClassOfRanges.tab5 impl_ClassOfRanges.bits5 (fun HT_ HW_ => ?_)
         generalize w23.drew = w24 at HO_4 BK199 HB hHeld ⊢
         refine pQ (i := 0) (N := some 15) mkimpl_C823_1 ?_
         refine tQ (i := 1) (N := some 16) mkimpl_C823_2 rfl hHeld (Or.inl ⟨by rfl, by rintro w' ⟨s0, s1⟩; go_simp; with_reducible rfl⟩) ?_
         refine one_ (i := 2) (N := some 17) mkimpl_C823_3 rfl rfl (one_of HT_.out (by kernel_rfl)) (by decide) (fun K hK => ?_)
         refine goes_ Tryd.func37 (by kernel_rfl) rfl #[.int .i64 ((rd_T63 l0 x10_1).f0)] (by rfl) rfl rfl gQ ?_
         with_reducible refine (impl_isGlyphNumber.calls ((rd_T63 l0 x10_1).f0) true _ A8.out).mono ?_
         rintro e w' ⟨rfl, ⟨nd, rfl⟩⟩
         refine ⟨_, rfl, ?_⟩
         refine hK.out _ _ ⟨(blk_cell BK199.out 0).trans rfl, (blk_cell BK199.out 1).trans rfl⟩ (fun hHeld => ?_)
         clear hK K
         refine norm_ (a' := ?_) ?_ ?_
         rotate_left
         ·show Act.put _ (some 17) _ = _
          simp only [Act.put, sI, sZ, sS, i64_w, i32_w]
          rfl
         refine pQ (i := 3) (N := some 18) mkimpl_C823_4 ?_
         refine pQ (i := 4) (N := some 19) mkimpl_C823_5 ?_
         refine pQ (i := 5) (N := some 20) mkimpl_C823_6 ?_
         refine tQ (i := 6) (N := some 21) mkimpl_C823_7 rfl hHeld (Or.inl ⟨by rfl, by rintro w' ⟨s0, s1⟩; go_simp; with_reducible rfl⟩) ?_
         refine one_ (i := 7) (N := some 22) mkimpl_C823_8 rfl rfl (one_of HT_.out (by kernel_rfl)) (by decide) (fun K hK => ?_)
         refine goes_ Tryd.func37 (by kernel_rfl) rfl #[.int .i64 ((rd_T63 l0 x10_1).f1)] (by rfl) rfl rfl gQ ?_
         with_reducible refine (impl_isGlyphNumber.calls ((rd_T63 l0 x10_1).f1) false _ A10.out).mono ?_
         rintro e w' ⟨rfl, ⟨nd, rfl⟩⟩
         refine ⟨_, rfl, ?_⟩
         refine hK.out _ _ ⟨(blk_cell BK199.out 0).trans rfl, (blk_cell BK199.out 1).trans rfl⟩ (fun hHeld => ?_)
         clear hK K
         refine norm_ (a' := ?_) ?_ ?_
         rotate_left
         ·show Act.put _ (some 22) _ = _
          simp only [Act.put, sI, sZ, sS, i64_w, i32_w]
          rfl
         refine pQ (i := 8) (N := some 23) mkimpl_C823_9 ?_
         refine pQ (i := 9) (N := some 24) mkimpl_C823_10 ?_
         refine pQ (i := 10) (N := some 25) mkimpl_C823_11 ?_
         refine uQ (i := 11) (N := some 26) mkimpl_C823_12 ?_
         refine uQ (i := 12) (N := some 27) mkimpl_C823_14 ?_
         refine uQ (i := 13) (N := some 28) mkimpl_C823_15 ?_
         refine uQ (i := 14) (N := some 29) mkimpl_C823_16 ?_
         refine uQ (i := 15) (N := some 30) mkimpl_C823_17 ?_
         refine pQ (i := 16) (N := some 31) mkimpl_C823_18 ?_
         refine pQ (i := 17) (N := some 32) mkimpl_C823_19 ?_
         refine uQ (i := 18) (N := some 33) mkimpl_C823_20 ?_
         refine uQ (i := 19) (N := some 34) mkimpl_C823_21 ?_
         refine uQ (i := 20) (N := some 35) mkimpl_C823_22 ?_
         refine uQ (i := 21) (N := some 36) mkimpl_C823_23 ?_
         refine uQ (i := 22) (N := some 37) mkimpl_C823_24 ?_
         refine uQ (i := 23) (N := some 38) mkimpl_C823_26 ?_
         refine uQ (i := 24) (N := some 39) mkimpl_C823_28 ?_
         refine uQ (i := 25) (N := some 40) mkimpl_C823_30 ?_
         refine uQ (i := 26) (N := some 41) mkimpl_C823_32 ?_
         refine uQ (i := 27) (N := some 42) mkimpl_C823_34 ?_
         refine uQ (i := 28) (N := some 43) mkimpl_C823_35 ?_
         refine uQ (i := 29) (N := some 44) mkimpl_C823_36 ?_
         refine uQ (i := 30) (N := some 45) mkimpl_C823_37 ?_
         refine pQ (i := 31) (N := some 46) mkimpl_C823_38 ?_
         refine done_ (done_of HT_.out (by kernel_rfl)) ?_
         try go_wp2
         go_meet
         case rel => exact ⟨_, (true), rQ, H', ⟨by have := HK1.out; first | omega | exact Nat.le_refl _⟩, ⟨by (with_reducible repeat (first | apply rA | apply rN | apply rD)); exact HO_4.out⟩, ⟨by (with_reducible repeat (first | refine blk_drewN ?_ _ | refine blk_drew ?_ | refine blk_alloc ?_ _)); exact BK199.out⟩, ⟨by repeat (first | (with_reducible first | exact HB.out | apply bA | apply bN | apply bD | refine below_set ?_ GE199.out) | exact HB.out)⟩⟩
       ·replace c9 := Bool.eq_false_iff.mpr c9
        subst c9
        have H1 : (impl_ClassOfRanges.j1 k1 l0 x4_1 l0 (l0.length : Int) x10_1 true ((rd_T63 l0 x10_1).f0) ((rd_T63 l0 x10_1).f1)) = some (r1, r2) := by rw [if_neg (show ¬ (false = true) by decide)] at H; exact H
        clear H
        have H := H1
        clear H1
        have H' := aM H
        clear H
        try go_wp2
        have n0_ : Aside0 (Kd.R (Kd.int .i64) 2 ((w6.setCell ⟨gb199, 0, none⟩ (.int .i64 ((rd_T63 l0 x10_1).f0))).setCell ⟨gb199, 1, none⟩ (.int .i64 ((rd_T63 l0 x10_1).f1))) w.heap.size (fun _ => True) u4 x4_1) := ⟨by (with_reducible repeat (first | apply rA | apply rN | apply rD)); exact Kd.R_mono (Kd.R_far (p := ⟨gb199, 1, none⟩) (Kd.R_far (p := ⟨gb199, 0, none⟩) (Kd.R_types HO_4.out BK199.out (by decide)) h2_ (.int .i64 ((rd_T63 l0 x10_1).f0))) h2_ (.int .i64 ((rd_T63 l0 x10_1).f1))) (fun _ hk => trivial)⟩
        have n1_ : Aside0 (((w6.setCell ⟨gb199, 0, none⟩ (.int .i64 ((rd_T63 l0 x10_1).f0))).setCell ⟨gb199, 1, none⟩ (.int .i64 ((rd_T63 l0 x10_1).f1))).heap[gb199]? = some (.cells #[.int .i64 ((rd_T63 l0 x10_1).f0), .int .i64 ((rd_T63 l0 x10_1).f1)] 63 (0, 0))) := ⟨by (with_reducible repeat (first | refine blk_drewN ?_ _ | refine blk_drew ?_ | refine blk_alloc ?_ _)); refine blk_put (cs := #[.int .i64 ((rd_T63 l0 x10_1).f0), .int .i64 0]) ?_ 1 _ rfl; (with_reducible repeat (first | refine blk_drewN ?_ _ | refine blk_drew ?_ | refine blk_alloc ?_ _)); refine blk_put (cs := #[.int .i64 0, .int .i64 0]) ?_ 0 _ rfl; (with_reducible repeat (first | refine blk_drewN ?_ _ | refine blk_drew ?_ | refine blk_alloc ?_ _)); exact BK199.out⟩
        have n2_ : Aside0 (Below w.heap.size w ((w6.setCell ⟨gb199, 0, none⟩ (.int .i64 ((rd_T63 l0 x10_1).f0))).setCell ⟨gb199, 1, none⟩ (.int .i64 ((rd_T63 l0 x10_1).f1)))) := ⟨by repeat (first | (with_reducible first | exact HB.out | apply bA | apply bN | apply bD | refine below_set ?_ GE199.out) | exact HB.out)⟩
        (try clear HO_4)
        (try clear BK199)
        (try clear HB)
        generalize ((w6.setCell ⟨gb199, 0, none⟩ (.int .i64 ((rd_T63 l0 x10_1).f0))).setCell ⟨gb199, 1, none⟩ (.int .i64 ((rd_T63 l0 x10_1).f1))) = w25 at n0_ n1_ n2_ ⊢
        have HO_4 := n0_
        have BK199 := n1_
        have HB := n2_
        clear n0_ n1_ n2_
        have n0_ := aM (Kd.R_drew HO_4.out)
        have n1_ := aM (blk_drew BK199.out)
        have n2_ := aM (below_drew1 HB.out)
        clear HO_4
        clear BK199
        clear HB
        have HO_4 := n0_
        have BK199 := n1_
        have HB := n2_
        clear n0_ n1_ n2_
        refine start_ (n := 32) (S := fun w' => w'.cell? ⟨gb199, 0, none⟩ = some (.int .i64 ((rd_T63 l0 x10_1).f0)) ∧ w'.cell? ⟨gb199, 1, none⟩ = some (.int .i64 ((rd_T63 l0 x10_1).f1))) (ds := []) mkimpl_C823_0 (by kernel_rfl) rfl rfl ⟨(blk_cell BK199.out 0).trans rfl, (blk_cell BK199.out 1).trans rfl⟩ (fun hHeld => ?_); refine with_tabW impl_ClassOfRanges.tab5 impl_ClassOfRanges.bits5 (fun HT_ HW_ => ?_)
        generalize w25.drew = w26 at HO_4 BK199 HB hHeld ⊢
        refine pQ (i := 0) (N := some 15) mkimpl_C823_1 ?_
        refine tQ (i := 1) (N := some 16) mkimpl_C823_2 rfl hHeld (Or.inl ⟨by rfl, by rintro w' ⟨s0, s1⟩; go_simp; with_reducible rfl⟩) ?_
        refine one_ (i := 2) (N := some 17) mkimpl_C823_3 rfl rfl (one_of HT_.out (by kernel_rfl)) (by decide) (fun K hK => ?_)
        refine goes_ Tryd.func37 (by kernel_rfl) rfl #[.int .i64 ((rd_T63 l0 x10_1).f0)] (by rfl) rfl rfl gQ ?_
        with_reducible refine (impl_isGlyphNumber.calls ((rd_T63 l0 x10_1).f0) false _ A8.out).mono ?_
        rintro e w' ⟨rfl, ⟨nd, rfl⟩⟩
        refine ⟨_, rfl, ?_⟩
        refine hK.out _ _ ⟨(blk_cell BK199.out 0).trans rfl, (blk_cell BK199.out 1).trans rfl⟩ (fun hHeld => ?_)
        clear hK K
        refine norm_ (a' := ?_) ?_ ?_
        rotate_left
        ·show Act.put _ (some 17) _ = _
         simp only [Act.put, sI, sZ, sS, i64_w, i32_w]
         rfl
        refine pQ (i := 3) (N := some 18) mkimpl_C823_4 ?_
        refine pQ (i := 4) (N := some 19) mkimpl_C823_5 ?_
        refine uQ (i := 5) (N := some 20) mkimpl_C823_6 ?_
        refine uQ (i := 6) (N := some 21) mkimpl_C823_7 ?_
        refine uQ (i := 7) (N := some 22) mkimpl_C823_8 ?_
        refine uQ (i := 8) (N := some 23) mkimpl_C823_9 ?_
        refine pQ (i := 9) (N := some 24) mkimpl_C823_10 ?_
        refine pQ (i := 10) (N := some 25) mkimpl_C823_11 ?_
        refine uQ (i := 11) (N := some 26) mkimpl_C823_12 ?_
        refine uQ (i := 12) (N := some 27) mkimpl_C823_14 ?_
        refine uQ (i := 13) (N := some 28) mkimpl_C823_15 ?_
        refine uQ (i := 14) (N := some 29) mkimpl_C823_16 ?_
        refine uQ (i := 15) (N := some 30) mkimpl_C823_17 ?_
        refine pQ (i := 16) (N := some 31) mkimpl_C823_18 ?_
        refine pQ (i := 17) (N := some 32) mkimpl_C823_19 ?_
        refine uQ (i := 18) (N := some 33) mkimpl_C823_20 ?_
        refine uQ (i := 19) (N := some 34) mkimpl_C823_21 ?_
        refine uQ (i := 20) (N := some 35) mkimpl_C823_22 ?_
        refine uQ (i := 21) (N := some 36) mkimpl_C823_23 ?_
        refine uQ (i := 22) (N := some 37) mkimpl_C823_24 ?_
        refine uQ (i := 23) (N := some 38) mkimpl_C823_26 ?_
        refine uQ (i := 24) (N := some 39) mkimpl_C823_28 ?_
        refine uQ (i := 25) (N := some 40) mkimpl_C823_30 ?_
        refine uQ (i := 26) (N := some 41) mkimpl_C823_32 ?_
        refine uQ (i := 27) (N := some 42) mkimpl_C823_34 ?_
        refine uQ (i := 28) (N := some 43) mkimpl_C823_35 ?_
        refine uQ (i := 29) (N := some 44) mkimpl_C823_36 ?_
        refine uQ (i := 30) (N := some 45) mkimpl_C823_37 ?_
        refine pQ (i := 31) (N := some 46) mkimpl_C823_38 ?_
        refine done_ (done_of HT_.out (by kernel_rfl)) ?_
        try go_wp2
        go_meet
        case rel => exact ⟨_, (true), rQ, H', ⟨by have := HK1.out; first | omega | exact Nat.le_refl _⟩, ⟨by (with_reducible repeat (first | apply rA | apply rN | apply rD)); exact HO_4.out⟩, ⟨by (with_reducible repeat (first | refine blk_drewN ?_ _ | refine blk_drew ?_ | refine blk_alloc ?_ _)); exact BK199.out⟩, ⟨by repeat (first | (with_reducible first | exact HB.out | apply bA | apply bN | apply bD | refine below_set ?_ GE199.out) | exact HB.out)⟩⟩
      case rest =>
       clear HC5
       try clear c1
       try clear p2
       try clear c3
       try clear c9
       try clear c11
       obtain ⟨kq, x46_4, rfl, HA, HJ4, HO_4, BK199, HB⟩ := hcut
       cases kq with
       | zero => exact absurd HA.out (by simp [impl_ClassOfRanges.j1])
       | succ kj4 =>
        have H := HA.out
        clear HA
        simp only [impl_ClassOfRanges.j1] at H
        by_cases c27 : x46_4 = true
        ·subst c27
         have H1 : (some (([] : List Int), 1)) = some (r1, r2) := by rw [if_pos rfl] at H; exact H
         clear H
         have H := H1
         clear H1
         simp only [Option.some.injEq, Prod.mk.injEq] at H
         obtain ⟨rfl, rfl⟩ := H
         go_wp2
         go_ret2
         exact ⟨_, eQ, by first | exact Kd.R_nil _ _ _ _ _ | exact Kd.N_nil _ _ _ _ _ | exact Kd.V_nil _ _ _ _ _ | exact Kd.Q_nil _ _ _ _ _ | exact Kd.S_nil _ _ _ _ _, by repeat (first | (with_reducible first | exact HB.out | apply bA | apply bN | apply bD | refine below_set ?_ GE199.out) | exact HB.out)⟩
        ·replace c27 := Bool.eq_false_iff.mpr c27
         subst c27
         have H1 : (impl_ClassOfRanges.l1 kj4 l0 x4_1 ((rd_T63 l0 x10_1).f0) l0 (l0.length : Int) x10_1 ((rd_T63 l0 x10_1).f0) ((rd_T63 l0 x10_1).f1)) = some (r1, r2) := by rw [if_neg (show ¬ (false = true) by decide)] at H; exact H
         clear H
         have H := H1
         clear H1
         have H' := aM H
         clear H
         have hcz28_0 : wc.cell? ⟨gb199, 0, none⟩ = some (.int .i64 ((rd_T63 l0 x10_1).f0)) := (blk_cell BK199.out 0).trans rfl
         have hcz28_1 : wc.cell? ⟨gb199, 1, none⟩ = some (.int .i64 ((rd_T63 l0 x10_1).f1)) := (blk_cell BK199.out 1).trans rfl
         have hfz28_0 := blk_frozen BK199.out 0
         have hfz28_1 := blk_frozen BK199.out 1
         go_wp2
         go_loopg [4, 7] kj4 (fun kq v4 v7 w' => ∃ (x4_3 : List Int) (x7_3 : Int), v7 = .int .i64 x7_3 ∧ Aside0 (impl_ClassOfRanges.l1 kq l0 x4_3 x7_3 l0 (l0.length : Int) x10_1 ((rd_T63 l0 x10_1).f0) ((rd_T63 l0 x10_1).f1) = some (r1, r2)) ∧ Aside0 (kq ≤ kj4) ∧ Aside0 (Kd.R (Kd.int .i64) 2 w' w.heap.size (fun _ => True) v4 x4_3) ∧ Aside0 (w'.heap[gb199]? = some (.cells #[.int .i64 ((rd_T63 l0 x10_1).f0), .int .i64 ((rd_T63 l0 x10_1).f1)] 63 (0, 0))) ∧ Aside0 (Below w.heap.size w w'))
         case atStart => exact ⟨(x4_1), (((rd_T63 l0 x10_1).f0)), rQ, H', ⟨Nat.le_refl _⟩, ⟨by (with_reducible repeat (first | apply rA | apply rN | apply rD)); exact HO_4.out⟩, ⟨by (with_reducible repeat (first | refine blk_drewN ?_ _ | refine blk_drew ?_ | refine blk_alloc ?_ _)); exact BK199.out⟩, ⟨by repeat (first | (with_reducible first | exact HB.out | apply bA | apply bN | apply bD | refine below_set ?_ GE199.out) | exact HB.out)⟩⟩
         case round =>
          clear H'
          try clear c1
          try clear c2
          try clear p2
          try clear c3
          try clear c9
          try clear c11
          try clear c27
          try clear hcz28_0
          try clear hcz28_1
          try clear hfz28_0
          try clear hfz28_1
          try clear p2
          obtain ⟨x4_3, x7_3, rfl, HA, HK3, HO_4, BK199, HB⟩ := hrel
          cases gk with
          | zero => exact absurd HA.out (by simp [impl_ClassOfRanges.l1])
          | succ k3 =>
           have H := HA.out
           clear HA
           simp only [impl_ClassOfRanges.l1] at H
           by_cases c29 : x7_3 ≤ ((rd_T63 l0 x10_1).f1)
           ·rw [if_pos c29] at H
            have c29b0 : decide (x7_3 ≤ ((rd_T63 l0 x10_1).f1)) = true := decide_eq_true c29
            clear c29
            by_cases c30 : x4_3.length < 17592186044416
            ·rw [if_pos c30] at H
             have LMc30 := aM c30
             clear c30
             obtain ⟨y203, hy203⟩ : ∃ y_ : List Int, y_ = (x4_3 ++ [x7_3]) := ⟨_, rfl⟩
             replace H : (impl_ClassOfRanges.l1 k3 l0 y203 (wrap64 (x7_3 + 1)) l0 (l0.length : Int) x10_1 ((rd_T63 l0 x10_1).f0) ((rd_T63 l0 x10_1).f1)) = some (r1, r2) := by first | (rw [hy203]; with_reducible exact H) | (have H2_ := bS H; rw [hy203]; with_reducible exact H2_) | (have H2_ := bS H; with_reducible exact H2_) | with_reducible exact H | (rw [hy203]; exact H) | exact H
             have Ny203 := aM hy203
             clear hy203
             have H' := aM H
             clear H
             have hcz31_0 : wr.cell? ⟨gb199, 0, none⟩ = some (.int .i64 ((rd_T63 l0 x10_1).f0)) := (blk_cell BK199.out 0).trans rfl
             have hcz31_1 : wr.cell? ⟨gb199, 1, none⟩ = some (.int .i64 ((rd_T63 l0 x10_1).f1)) := (blk_cell BK199.out 1).trans rfl
             have hfz31_0 := blk_frozen BK199.out 0
             have hfz31_1 := blk_frozen BK199.out 1
             go_wp2_with (first | ((with_reducible refine gate_builtin (b := .append) (xs := #[.tmp 55, .tmp 57]) rfl ?_); at_builtin; refine Kd.R_append (Kd.int .i64) (w0 := w) w.heap.size rfl (.tmp 55) (.tmp 57) 22 2 (.int .i64 0) 8 rfl Tryd.underlying22 info2 rfl (by decide) (by omega) u4 x4_3 x7_3 [.int .i64 x7_3] (fun _ => True) (fun _ => False) rfl rfl ?aP (fun _ hk => hk.elim) ?aF ?aO ?aB ?aS ?aL ?_; (case aP => exact rfl); (case aB => exact (by repeat (first | (with_reducible first | exact HB.out | apply bA | apply bN | apply bD | refine below_set ?_ GE199.out) | exact HB.out))); (case aF => exact (fun _ _ => trivial)); (case aO => exact (by (with_reducible repeat (first | apply rA | apply rN | apply rD)); exact HO_4.out)); (case aS => exact (below_size (by repeat (first | (with_reducible first | exact HB.out | apply bA | apply bN | apply bD | refine below_set ?_ GE199.out) | exact HB.out)))); (case aL => have := LMc30.out; omega); intro v204 w32 ho hb hg hat; rw [← Ny203.out] at ho; have n0_ := aM (blk_grown (g := gb199) (o := .cells #[.int .i64 ((rd_T63 l0 x10_1).f0), .int .i64 ((rd_T63 l0 x10_1).f1)] 63 (0, 0)) (by (with_reducible repeat (first | refine blk_drewN ?_ _ | refine blk_drew ?_ | refine blk_alloc ?_ _)); exact BK199.out) hg (Kd.R_ne HO_4.out BK199.out (by decide))); have n1_ := aM (hb); have n2_ := aM (ho); clear BK199; clear HB; clear HO_4; have BK199 := n0_; have HB := n1_; have HO205 := n2_; clear n0_ n1_ n2_; clear ho hb hg hat))
             go_roundg k3
             case measure => have := HK1.out; have := HJ4.out; have := HK3.out; omega
             case rel => exact ⟨(y203), (wrap64 (x7_3 + 1)), rQ, H', ⟨by have := HK1.out; have := HJ4.out; have := HK3.out; omega⟩, ⟨by (with_reducible repeat (first | apply rA | apply rN | apply rD)); exact HO205.out⟩, ⟨by (with_reducible repeat (first | refine blk_drewN ?_ _ | refine blk_drew ?_ | refine blk_alloc ?_ _)); exact BK199.out⟩, ⟨by repeat (first | (with_reducible first | exact HB.out | apply bA | apply bN | apply bD | refine below_set ?_ GE199.out) | exact HB.out)⟩⟩
            ·rw [if_neg c30] at H
             exact absurd H (by simp)
           ·rw [if_neg c29] at H
            have c29b0 : decide (x7_3 ≤ ((rd_T63 l0 x10_1).f1)) = false := decide_eq_false c29
            clear c29
            have H' := aM H
            clear H
            have hcz33_0 : wr.cell? ⟨gb199, 0, none⟩ = some (.int .i64 ((rd_T63 l0 x10_1).f0)) := (blk_cell BK199.out 0).trans rfl
            have hcz33_1 : wr.cell? ⟨gb199, 1, none⟩ = some (.int .i64 ((rd_T63 l0 x10_1).f1)) := (blk_cell BK199.out 1).trans rfl
            have hfz33_0 := blk_frozen BK199.out 0
            have hfz33_1 := blk_frozen BK199.out 1
            go_wp2
            go_roundg k3
            case measure => have := HK1.out; have := HJ4.out; have := HK3.out; omega
            case rel => exact ⟨(x4_3), (wrap64 (x10_1 + 1)), rQ, H', ⟨by have := HK1.out; have := HJ4.out; have := HK3.out; omega⟩, ⟨by (with_reducible repeat (first | apply rA | apply rN | apply rD)); exact HO_4.out⟩, ⟨by repeat (first | (with_reducible first | exact HB.out | apply bA | apply bN | apply bD | refine below_set ?_ GE199.out) | exact HB.out)⟩⟩
     ·rw [if_neg c4] at H
      exact absurd H (by simp)
    ·rw [if_neg c3] at H
     exact absurd H (by simp)
   ·rw [if_neg c2] at H
    have c2b0 : decide (x10_1 < (l0.length : Int)) = false := decide_eq_false c2
    clear c2
    simp only [Option.some.injEq, Prod.mk.injEq] at H
    obtain ⟨rfl, rfl⟩ := H
    go_wp2
    go_ret2
    exact ⟨_, eQ, by (with_reducible repeat (first | apply rA | apply rN | apply rD)); exact HO_4.out, bQ⟩

end Go.Proofs.YtdahcapolipnbaaDoor.QFnExactReadClass
