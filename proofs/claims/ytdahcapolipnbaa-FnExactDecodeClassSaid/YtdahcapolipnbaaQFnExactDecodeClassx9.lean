/- What some Go functions answer, each as a Lean function, and that the machine answers so: written by a program of this session out of the translation. -/
import Derived.Test.YtdahcapolipnbaaQFnExactDecodeClassx0
import Derived.Test.YtdahcapolipnbaaQFnExactDecodeClassx1
import Derived.Test.YtdahcapolipnbaaQFnExactDecodeClassx5
import Derived.Test.YtdahcapolipnbaaQFnExactDecodeClassx8
namespace Go.Proofs.Ytdahcapolipnbaa.QFnExactDecodeClass
open Go.RowKit Go.Proofs.YtdahcapolipnbaaW.PrintWords Go.Proofs.YtdahcapolipnbaaW.PrintLast Go.Proofs.YtdahcapolipnbaaW.PrintMore Go.Proofs.Ytdahcapolipnbaa.Rp
attribute [local go_sem] max2_int min2_int max_two min_two max_three min_three max_four min_four   -- for this text's walks alone
set_option linter.unusedVariables false
set_option linter.unusedSimpArgs false

/-! ### laws_FnExactDecodeClass: function 4 -/
mutual
def laws_FnExactDecodeClass.j0 : Nat → ByteArray → Int → Option (Bool)
 | 0, _, _ => none
 | k + 1, x0, x1 => (spec_DecodeClass.f k x0 x1).bind fun bt256 => ((impl_DecodeClass.f k x0 x1).bind fun bt261 => ((laws_eqInt64S.f k bt261.1 bt256.1).bind fun t266 => (if t266 = true then (if bt261.2.1 = bt256.2.1 then (laws_FnExactDecodeClass.j1 k x0 x1 bt256.1 bt256.2.1 bt256.2.2 bt261.1 (bt261.2.2 != bt256.2.2)) else (laws_FnExactDecodeClass.j1 k x0 x1 bt256.1 bt256.2.1 bt256.2.2 bt261.1 true)) else (laws_FnExactDecodeClass.j1 k x0 x1 bt256.1 bt256.2.1 bt256.2.2 bt261.1 true))))
def laws_FnExactDecodeClass.j1 : Nat → ByteArray → Int → List Int → Int → Int → List Int → Bool → Option (Bool)
 | 0, _, _, _, _, _, _, _ => none
 | k + 1, x0, x1, x5, x6, x7, x8, x46 => if x46 = true then (some false) else (laws_FnExactDecodeClass.j2 k x0 x1 x5 x6 x7 x8)
def laws_FnExactDecodeClass.j2 : Nat → ByteArray → Int → List Int → Int → Int → List Int → Option (Bool)
 | 0, _, _, _, _, _, _ => none
 | k + 1, x0, x1, x5, x6, x7, x8 => (laws_markInt64S.f k x8 1).bind fun bt267 => ((laws_heldInt64S.f k bt267.2 1).bind fun t269 => (if t269 < 0 then (some false) else (laws_FnExactDecodeClass.j3 k x0 x1 x5 x6 x7 bt267.2 bt267.1 t269)))
def laws_FnExactDecodeClass.j3 : Nat → ByteArray → Int → List Int → Int → Int → List Int → Int → Int → Option (Bool)
 | 0, _, _, _, _, _, _, _, _ => none
 | k + 1, x0, x1, x5, x6, x7, x8, x11, x12 => if x12 = x11 then (laws_FnExactDecodeClass.j4 k x0 x1 x5 x6 x7 x8 x11) else (some false)
def laws_FnExactDecodeClass.j4 : Nat → ByteArray → Int → List Int → Int → Int → List Int → Int → Option (Bool)
 | 0, _, _, _, _, _, _, _ => none
 | k + 1, x0, x1, x5, x6, x7, x8, x11 => (impl_DecodeClass.f k x0 x1).bind fun bt270 => ((laws_eqInt64S.f k bt270.1 x5).bind fun t275 => (if t275 = true then (if bt270.2.1 = x6 then (laws_FnExactDecodeClass.j5 k x8 x11 (bt270.2.2 != x7)) else (laws_FnExactDecodeClass.j5 k x8 x11 true)) else (laws_FnExactDecodeClass.j5 k x8 x11 true)))
def laws_FnExactDecodeClass.j5 : Nat → List Int → Int → Bool → Option (Bool)
 | 0, _, _, _ => none
 | k + 1, x8, x11, x78 => if x78 = true then (some false) else (laws_FnExactDecodeClass.j6 k x8 x11)
def laws_FnExactDecodeClass.j6 : Nat → List Int → Int → Option (Bool)
 | 0, _, _ => none
 | k + 1, x8, x11 => (laws_heldInt64S.f k x8 1).bind fun t276 => (if t276 < 0 then (some false) else (if t276 = x11 then (some true) else (some false)))
end
def laws_FnExactDecodeClass.f (k : Nat) (a0 : ByteArray) (a1 : Int) : Option (Bool) := if (a0.size : Int) > 1048576 then (some true) else (laws_FnExactDecodeClass.j0 k a0 a1)
theorem laws_FnExactDecodeClass.mono_l : ∀ k, (∀ y0 y1, LeO (laws_FnExactDecodeClass.j0 k y0 y1) (laws_FnExactDecodeClass.j0 (k + 1) y0 y1)) ∧ (∀ y0 y1 y2 y3 y4 y5 y6, LeO (laws_FnExactDecodeClass.j1 k y0 y1 y2 y3 y4 y5 y6) (laws_FnExactDecodeClass.j1 (k + 1) y0 y1 y2 y3 y4 y5 y6)) ∧ (∀ y0 y1 y2 y3 y4 y5, LeO (laws_FnExactDecodeClass.j2 k y0 y1 y2 y3 y4 y5) (laws_FnExactDecodeClass.j2 (k + 1) y0 y1 y2 y3 y4 y5)) ∧ (∀ y0 y1 y2 y3 y4 y5 y6 y7, LeO (laws_FnExactDecodeClass.j3 k y0 y1 y2 y3 y4 y5 y6 y7) (laws_FnExactDecodeClass.j3 (k + 1) y0 y1 y2 y3 y4 y5 y6 y7)) ∧ (∀ y0 y1 y2 y3 y4 y5 y6, LeO (laws_FnExactDecodeClass.j4 k y0 y1 y2 y3 y4 y5 y6) (laws_FnExactDecodeClass.j4 (k + 1) y0 y1 y2 y3 y4 y5 y6)) ∧ (∀ y0 y1 y2, LeO (laws_FnExactDecodeClass.j5 k y0 y1 y2) (laws_FnExactDecodeClass.j5 (k + 1) y0 y1 y2)) ∧ (∀ y0 y1, LeO (laws_FnExactDecodeClass.j6 k y0 y1) (laws_FnExactDecodeClass.j6 (k + 1) y0 y1))
 | 0 => ⟨fun _ _ r h => by simp [laws_FnExactDecodeClass.j0] at h, fun _ _ _ _ _ _ _ r h => by simp [laws_FnExactDecodeClass.j1] at h, fun _ _ _ _ _ _ r h => by simp [laws_FnExactDecodeClass.j2] at h, fun _ _ _ _ _ _ _ _ r h => by simp [laws_FnExactDecodeClass.j3] at h, fun _ _ _ _ _ _ _ r h => by simp [laws_FnExactDecodeClass.j4] at h, fun _ _ _ r h => by simp [laws_FnExactDecodeClass.j5] at h, fun _ _ r h => by simp [laws_FnExactDecodeClass.j6] at h⟩
 | k + 1 => by
  obtain ⟨ih0, ih1, ih2, ih3, ih4, ih5, ih6⟩ := laws_FnExactDecodeClass.mono_l k
  refine ⟨?_, ?_, ?_, ?_, ?_, ?_, ?_⟩
  ·intro y0 y1
   unfold laws_FnExactDecodeClass.j0
   repeat' first
   | (with_reducible exact ih0 _ _)
   | (with_reducible exact ih1 _ _ _ _ _ _ _)
   | (with_reducible exact ih2 _ _ _ _ _ _)
   | (with_reducible exact ih3 _ _ _ _ _ _ _ _)
   | (with_reducible exact ih4 _ _ _ _ _ _ _)
   | (with_reducible exact ih5 _ _ _)
   | (with_reducible exact ih6 _ _)
   | (with_reducible exact impl_DecodeClass.mono _ _ _)
   | (with_reducible exact laws_eqInt64S.mono _ _ _)
   | (with_reducible exact laws_heldInt64S.mono _ _ _)
   | (with_reducible exact laws_markInt64S.mono _ _ _)
   | (with_reducible exact spec_DecodeClass.mono _ _ _)
   | (with_reducible exact LeO.refl _)
   | (with_reducible exact LeO.none _)
   | (with_reducible refine LeO.ite ?_ ?_)
   | (with_reducible refine LeO.bind ?_ (fun _ => ?_))
   | exact ih0 _ _
   | exact ih1 _ _ _ _ _ _ _
   | exact ih2 _ _ _ _ _ _
   | exact ih3 _ _ _ _ _ _ _ _
   | exact ih4 _ _ _ _ _ _ _
   | exact ih5 _ _ _
   | exact ih6 _ _
   | exact impl_DecodeClass.mono _ _ _
   | exact laws_eqInt64S.mono _ _ _
   | exact laws_heldInt64S.mono _ _ _
   | exact laws_markInt64S.mono _ _ _
   | exact spec_DecodeClass.mono _ _ _
   | exact LeO.none _
   | refine LeO.ite ?_ ?_
   | refine LeO.bind ?_ (fun _ => ?_)
  ·intro y0 y1 y2 y3 y4 y5 y6
   unfold laws_FnExactDecodeClass.j1
   repeat' first
   | (with_reducible exact ih0 _ _)
   | (with_reducible exact ih1 _ _ _ _ _ _ _)
   | (with_reducible exact ih2 _ _ _ _ _ _)
   | (with_reducible exact ih3 _ _ _ _ _ _ _ _)
   | (with_reducible exact ih4 _ _ _ _ _ _ _)
   | (with_reducible exact ih5 _ _ _)
   | (with_reducible exact ih6 _ _)
   | (with_reducible exact impl_DecodeClass.mono _ _ _)
   | (with_reducible exact laws_eqInt64S.mono _ _ _)
   | (with_reducible exact laws_heldInt64S.mono _ _ _)
   | (with_reducible exact laws_markInt64S.mono _ _ _)
   | (with_reducible exact spec_DecodeClass.mono _ _ _)
   | (with_reducible exact LeO.refl _)
   | (with_reducible exact LeO.none _)
   | (with_reducible refine LeO.ite ?_ ?_)
   | (with_reducible refine LeO.bind ?_ (fun _ => ?_))
   | exact ih0 _ _
   | exact ih1 _ _ _ _ _ _ _
   | exact ih2 _ _ _ _ _ _
   | exact ih3 _ _ _ _ _ _ _ _
   | exact ih4 _ _ _ _ _ _ _
   | exact ih5 _ _ _
   | exact ih6 _ _
   | exact impl_DecodeClass.mono _ _ _
   | exact laws_eqInt64S.mono _ _ _
   | exact laws_heldInt64S.mono _ _ _
   | exact laws_markInt64S.mono _ _ _
   | exact spec_DecodeClass.mono _ _ _
   | exact LeO.none _
   | refine LeO.ite ?_ ?_
   | refine LeO.bind ?_ (fun _ => ?_)
  ·intro y0 y1 y2 y3 y4 y5
   unfold laws_FnExactDecodeClass.j2
   repeat' first
   | (with_reducible exact ih0 _ _)
   | (with_reducible exact ih1 _ _ _ _ _ _ _)
   | (with_reducible exact ih2 _ _ _ _ _ _)
   | (with_reducible exact ih3 _ _ _ _ _ _ _ _)
   | (with_reducible exact ih4 _ _ _ _ _ _ _)
   | (with_reducible exact ih5 _ _ _)
   | (with_reducible exact ih6 _ _)
   | (with_reducible exact impl_DecodeClass.mono _ _ _)
   | (with_reducible exact laws_eqInt64S.mono _ _ _)
   | (with_reducible exact laws_heldInt64S.mono _ _ _)
   | (with_reducible exact laws_markInt64S.mono _ _ _)
   | (with_reducible exact spec_DecodeClass.mono _ _ _)
   | (with_reducible exact LeO.refl _)
   | (with_reducible exact LeO.none _)
   | (with_reducible refine LeO.ite ?_ ?_)
   | (with_reducible refine LeO.bind ?_ (fun _ => ?_))
   | exact ih0 _ _
   | exact ih1 _ _ _ _ _ _ _
   | exact ih2 _ _ _ _ _ _
   | exact ih3 _ _ _ _ _ _ _ _
   | exact ih4 _ _ _ _ _ _ _
   | exact ih5 _ _ _
   | exact ih6 _ _
   | exact impl_DecodeClass.mono _ _ _
   | exact laws_eqInt64S.mono _ _ _
   | exact laws_heldInt64S.mono _ _ _
   | exact laws_markInt64S.mono _ _ _
   | exact spec_DecodeClass.mono _ _ _
   | exact LeO.none _
   | refine LeO.ite ?_ ?_
   | refine LeO.bind ?_ (fun _ => ?_)
  ·intro y0 y1 y2 y3 y4 y5 y6 y7
   unfold laws_FnExactDecodeClass.j3
   repeat' first
   | (with_reducible exact ih0 _ _)
   | (with_reducible exact ih1 _ _ _ _ _ _ _)
   | (with_reducible exact ih2 _ _ _ _ _ _)
   | (with_reducible exact ih3 _ _ _ _ _ _ _ _)
   | (with_reducible exact ih4 _ _ _ _ _ _ _)
   | (with_reducible exact ih5 _ _ _)
   | (with_reducible exact ih6 _ _)
   | (with_reducible exact impl_DecodeClass.mono _ _ _)
   | (with_reducible exact laws_eqInt64S.mono _ _ _)
   | (with_reducible exact laws_heldInt64S.mono _ _ _)
   | (with_reducible exact laws_markInt64S.mono _ _ _)
   | (with_reducible exact spec_DecodeClass.mono _ _ _)
   | (with_reducible exact LeO.refl _)
   | (with_reducible exact LeO.none _)
   | (with_reducible refine LeO.ite ?_ ?_)
   | (with_reducible refine LeO.bind ?_ (fun _ => ?_))
   | exact ih0 _ _
   | exact ih1 _ _ _ _ _ _ _
   | exact ih2 _ _ _ _ _ _
   | exact ih3 _ _ _ _ _ _ _ _
   | exact ih4 _ _ _ _ _ _ _
   | exact ih5 _ _ _
   | exact ih6 _ _
   | exact impl_DecodeClass.mono _ _ _
   | exact laws_eqInt64S.mono _ _ _
   | exact laws_heldInt64S.mono _ _ _
   | exact laws_markInt64S.mono _ _ _
   | exact spec_DecodeClass.mono _ _ _
   | exact LeO.none _
   | refine LeO.ite ?_ ?_
   | refine LeO.bind ?_ (fun _ => ?_)
  ·intro y0 y1 y2 y3 y4 y5 y6
   unfold laws_FnExactDecodeClass.j4
   repeat' first
   | (with_reducible exact ih0 _ _)
   | (with_reducible exact ih1 _ _ _ _ _ _ _)
   | (with_reducible exact ih2 _ _ _ _ _ _)
   | (with_reducible exact ih3 _ _ _ _ _ _ _ _)
   | (with_reducible exact ih4 _ _ _ _ _ _ _)
   | (with_reducible exact ih5 _ _ _)
   | (with_reducible exact ih6 _ _)
   | (with_reducible exact impl_DecodeClass.mono _ _ _)
   | (with_reducible exact laws_eqInt64S.mono _ _ _)
   | (with_reducible exact laws_heldInt64S.mono _ _ _)
   | (with_reducible exact laws_markInt64S.mono _ _ _)
   | (with_reducible exact spec_DecodeClass.mono _ _ _)
   | (with_reducible exact LeO.refl _)
   | (with_reducible exact LeO.none _)
   | (with_reducible refine LeO.ite ?_ ?_)
   | (with_reducible refine LeO.bind ?_ (fun _ => ?_))
   | exact ih0 _ _
   | exact ih1 _ _ _ _ _ _ _
   | exact ih2 _ _ _ _ _ _
   | exact ih3 _ _ _ _ _ _ _ _
   | exact ih4 _ _ _ _ _ _ _
   | exact ih5 _ _ _
   | exact ih6 _ _
   | exact impl_DecodeClass.mono _ _ _
   | exact laws_eqInt64S.mono _ _ _
   | exact laws_heldInt64S.mono _ _ _
   | exact laws_markInt64S.mono _ _ _
   | exact spec_DecodeClass.mono _ _ _
   | exact LeO.none _
   | refine LeO.ite ?_ ?_
   | refine LeO.bind ?_ (fun _ => ?_)
  ·intro y0 y1 y2
   unfold laws_FnExactDecodeClass.j5
   repeat' first
   | (with_reducible exact ih0 _ _)
   | (with_reducible exact ih1 _ _ _ _ _ _ _)
   | (with_reducible exact ih2 _ _ _ _ _ _)
   | (with_reducible exact ih3 _ _ _ _ _ _ _ _)
   | (with_reducible exact ih4 _ _ _ _ _ _ _)
   | (with_reducible exact ih5 _ _ _)
   | (with_reducible exact ih6 _ _)
   | (with_reducible exact impl_DecodeClass.mono _ _ _)
   | (with_reducible exact laws_eqInt64S.mono _ _ _)
   | (with_reducible exact laws_heldInt64S.mono _ _ _)
   | (with_reducible exact laws_markInt64S.mono _ _ _)
   | (with_reducible exact spec_DecodeClass.mono _ _ _)
   | (with_reducible exact LeO.refl _)
   | (with_reducible exact LeO.none _)
   | (with_reducible refine LeO.ite ?_ ?_)
   | (with_reducible refine LeO.bind ?_ (fun _ => ?_))
   | exact ih0 _ _
   | exact ih1 _ _ _ _ _ _ _
   | exact ih2 _ _ _ _ _ _
   | exact ih3 _ _ _ _ _ _ _ _
   | exact ih4 _ _ _ _ _ _ _
   | exact ih5 _ _ _
   | exact ih6 _ _
   | exact impl_DecodeClass.mono _ _ _
   | exact laws_eqInt64S.mono _ _ _
   | exact laws_heldInt64S.mono _ _ _
   | exact laws_markInt64S.mono _ _ _
   | exact spec_DecodeClass.mono _ _ _
   | exact LeO.none _
   | refine LeO.ite ?_ ?_
   | refine LeO.bind ?_ (fun _ => ?_)
  ·intro y0 y1
   unfold laws_FnExactDecodeClass.j6
   repeat' first
   | (with_reducible exact ih0 _ _)
   | (with_reducible exact ih1 _ _ _ _ _ _ _)
   | (with_reducible exact ih2 _ _ _ _ _ _)
   | (with_reducible exact ih3 _ _ _ _ _ _ _ _)
   | (with_reducible exact ih4 _ _ _ _ _ _ _)
   | (with_reducible exact ih5 _ _ _)
   | (with_reducible exact ih6 _ _)
   | (with_reducible exact impl_DecodeClass.mono _ _ _)
   | (with_reducible exact laws_eqInt64S.mono _ _ _)
   | (with_reducible exact laws_heldInt64S.mono _ _ _)
   | (with_reducible exact laws_markInt64S.mono _ _ _)
   | (with_reducible exact spec_DecodeClass.mono _ _ _)
   | (with_reducible exact LeO.refl _)
   | (with_reducible exact LeO.none _)
   | (with_reducible refine LeO.ite ?_ ?_)
   | (with_reducible refine LeO.bind ?_ (fun _ => ?_))
   | exact ih0 _ _
   | exact ih1 _ _ _ _ _ _ _
   | exact ih2 _ _ _ _ _ _
   | exact ih3 _ _ _ _ _ _ _ _
   | exact ih4 _ _ _ _ _ _ _
   | exact ih5 _ _ _
   | exact ih6 _ _
   | exact impl_DecodeClass.mono _ _ _
   | exact laws_eqInt64S.mono _ _ _
   | exact laws_heldInt64S.mono _ _ _
   | exact laws_markInt64S.mono _ _ _
   | exact spec_DecodeClass.mono _ _ _
   | exact LeO.none _
   | refine LeO.ite ?_ ?_
   | refine LeO.bind ?_ (fun _ => ?_)
theorem laws_FnExactDecodeClass.mono : ∀ a0 a1 k, LeO (laws_FnExactDecodeClass.f k a0 a1) (laws_FnExactDecodeClass.f (k + 1) a0 a1) := by
 intro a0 a1 k
 obtain ⟨ih0, ih1, ih2, ih3, ih4, ih5, ih6⟩ := laws_FnExactDecodeClass.mono_l k
 unfold laws_FnExactDecodeClass.f
 repeat' first
   | (with_reducible exact ih0 _ _)
   | (with_reducible exact ih1 _ _ _ _ _ _ _)
   | (with_reducible exact ih2 _ _ _ _ _ _)
   | (with_reducible exact ih3 _ _ _ _ _ _ _ _)
   | (with_reducible exact ih4 _ _ _ _ _ _ _)
   | (with_reducible exact ih5 _ _ _)
   | (with_reducible exact ih6 _ _)
   | (with_reducible exact impl_DecodeClass.mono _ _ _)
   | (with_reducible exact laws_eqInt64S.mono _ _ _)
   | (with_reducible exact laws_heldInt64S.mono _ _ _)
   | (with_reducible exact laws_markInt64S.mono _ _ _)
   | (with_reducible exact spec_DecodeClass.mono _ _ _)
   | (with_reducible exact LeO.refl _)
   | (with_reducible exact LeO.none _)
   | (with_reducible refine LeO.ite ?_ ?_)
   | (with_reducible refine LeO.bind ?_ (fun _ => ?_))
   | exact ih0 _ _
   | exact ih1 _ _ _ _ _ _ _
   | exact ih2 _ _ _ _ _ _
   | exact ih3 _ _ _ _ _ _ _ _
   | exact ih4 _ _ _ _ _ _ _
   | exact ih5 _ _ _
   | exact ih6 _ _
   | exact impl_DecodeClass.mono _ _ _
   | exact laws_eqInt64S.mono _ _ _
   | exact laws_heldInt64S.mono _ _ _
   | exact laws_markInt64S.mono _ _ _
   | exact spec_DecodeClass.mono _ _ _
   | exact LeO.none _
   | refine LeO.ite ?_ ?_
   | refine LeO.bind ?_ (fun _ => ?_)
set_option maxHeartbeats 8000000 in
set_option maxRecDepth 100000 in
theorem laws_FnExactDecodeClass.calls (k : Nat) (a0 : ByteArray) (a1 : Int) (r : Bool) (w : World) (h : laws_FnExactDecodeClass.f k a0 a1 = some r) :
  Calls Try.prog 4 #[.string a0, .int .i64 a1] w fun e w' => e = .returned (.bool r) ∧ Below w.heap.size w w' := by
 have HB := aM (Below.refl w.heap.size w)
 have H : (if (a0.size : Int) > 1048576 then (some true) else (laws_FnExactDecodeClass.j0 k a0 a1)) = some r := h
 clear h
 have HC3 := aM H
 clear H
 go_enter Try.func4, Try.ntmps4
 go_upto_if 18 with (fail)
 go_cut [] (fun wc => ∃ (kq : Nat), Aside0 (laws_FnExactDecodeClass.j0 kq a0 a1 = some r) ∧ Aside0 (kq ≤ k) ∧ Aside0 (Below w.heap.size w wc))
 case first =>
  have H := HC3.out
  clear HC3
  by_cases c4 : (a0.size : Int) > 1048576
  ·rw [if_pos c4] at H
   have c4b0 : decide (1048576 < (a0.size : Int)) = true := decide_eq_true c4
   have c4b1 : decide (1048576 < a0.size) = true := decide_eq_true (by omega)
   clear c4
   (first | rw [c4b0] | (simp only [i64_w, i32_w]; rw [c4b0]) | rw [c4b1] | rw [c4b2] | rw [c4b3] | rw [c4b4] | skip)
   obtain rfl := Option.some.inj H
   go_wp2
   go_ret
   exact ⟨eQ, bQ⟩
  ·rw [if_neg c4] at H
   have c4b0 : decide (1048576 < (a0.size : Int)) = false := decide_eq_false c4
   have c4b1 : decide (1048576 < a0.size) = false := decide_eq_false (by omega)
   clear c4
   (first | rw [c4b0] | (simp only [i64_w, i32_w]; rw [c4b0]) | rw [c4b1] | rw [c4b2] | rw [c4b3] | rw [c4b4] | skip)
   have H' := aM H
   clear H
   go_wp2
   go_meet
   case rel => exact ⟨_, H', ⟨by first | omega | exact Nat.le_refl _⟩, ⟨bQ⟩⟩
 case rest =>
  clear HC3
  try clear p2
  try clear c4
  try clear c4b0
  try clear c4b1
  try clear c4b2
  obtain ⟨kq, HA, HJ2, HB⟩ := hcut
  cases kq with
  | zero => exact absurd HA.out (by simp [laws_FnExactDecodeClass.j0])
  | succ kj2 =>
   have H := HA.out
   clear HA
   simp only [laws_FnExactDecodeClass.j0] at H
   replace H := Option.bind_eq_some_iff.mp H
   obtain ⟨⟨t256, t257, t258⟩, A50, H⟩ := H
   replace H : ((impl_DecodeClass.f kj2 a0 a1).bind fun bt261 => ((laws_eqInt64S.f kj2 bt261.1 t256).bind fun t266 => (if t266 = true then (if bt261.2.1 = t257 then (laws_FnExactDecodeClass.j1 kj2 a0 a1 t256 t257 t258 bt261.1 (bt261.2.2 != t258)) else (laws_FnExactDecodeClass.j1 kj2 a0 a1 t256 t257 t258 bt261.1 true)) else (laws_FnExactDecodeClass.j1 kj2 a0 a1 t256 t257 t258 bt261.1 true)))) = some r := H
   have A5 := aM A50
   clear A50
   replace H := Option.bind_eq_some_iff.mp H
   obtain ⟨⟨t261, t262, t263⟩, A60, H⟩ := H
   replace H : ((laws_eqInt64S.f kj2 t261 t256).bind fun t266 => (if t266 = true then (if t262 = t257 then (laws_FnExactDecodeClass.j1 kj2 a0 a1 t256 t257 t258 t261 (t263 != t258)) else (laws_FnExactDecodeClass.j1 kj2 a0 a1 t256 t257 t258 t261 true)) else (laws_FnExactDecodeClass.j1 kj2 a0 a1 t256 t257 t258 t261 true))) = some r := H
   have A6 := aM A60
   clear A60
   have HC7 := aM H
   clear H
   go_upto_region 5 with (first | ((with_reducible refine gate_callee (f := 16) rfl ?_); refine goesL_ (some 22) rfl rfl Try.func16 (by kernel_rfl) rfl #[.string a0, .int .i64 a1] rfl gQ ?_; (with_reducible refine (spec_DecodeClass.calls kj2 a0 a1 t256 t257 t258 _ A5.out).mono ?_); rintro e w8 ⟨v259, rfl, ho0, hb⟩; refine ⟨_, rfl, ?_⟩; have n0_ := aM (Kd.R_lower ho0 (below_size bQ)); have n1_ := aM (below_step bQ hb); clear HB; have HO260 := n0_; have HB := n1_; clear n0_ n1_; (try clear hb); (try clear hb2); (try clear hk); (try clear hi); (try clear ho0)) | ((with_reducible refine gate_callee (f := 17) rfl ?_); refine goesL_ (some 29) rfl rfl Try.func17 (by kernel_rfl) rfl #[.string a0, .int .i64 a1] rfl gQ ?_; (with_reducible refine (impl_DecodeClass.calls kj2 a0 a1 t261 t262 t263 _ A6.out).mono ?_); rintro e w9 ⟨v264, rfl, ho0, hb⟩; refine ⟨_, rfl, ?_⟩; have n0_ := aM (Kd.R_elder' (by (with_reducible repeat (first | apply rA | apply rN | apply rD)); exact HO260.out) (Kd.R_base ho0) hb); have n1_ := aM (Kd.R_lower (Kd.R_new' ho0 (Kd.R_lt (by (with_reducible repeat (first | apply rA | apply rN | apply rD)); exact HO260.out))) (below_size bQ)); have n2_ := aM (below_step bQ hb); clear HO260; clear HB; have HO260 := n0_; have HO265 := n1_; have HB := n2_; clear n0_ n1_ n2_; (try clear hb); (try clear hb2); (try clear hk); (try clear hi); (try clear ho0)))
   (try simp only [Act.put, sI, sZ, sS])
   go_cut [46] (fun v46 wc => ∃ (kq : Nat) (x46_6 : Bool), v46 = .bool x46_6 ∧ Aside0 (laws_FnExactDecodeClass.j1 kq a0 a1 t256 t257 t258 t261 x46_6 = some r) ∧ Aside0 (kq ≤ kj2) ∧ Aside0 (Kd.R (Kd.int .i64) 2 wc w.heap.size (fun k_ => some k_ ≠ (v264 : Value).ownBlock) v259 t256) ∧ Aside0 (Kd.R (Kd.int .i64) 2 wc w.heap.size (fun k_ => some k_ ≠ (v259 : Value).ownBlock) v264 t261) ∧ Aside0 (Below w.heap.size w wc))
   case first =>
    have H := HC7.out
    clear HC7
    replace H := Option.bind_eq_some_iff.mp H
    obtain ⟨t266, A100, H⟩ := H
    replace H : (if t266 = true then (if t262 = t257 then (laws_FnExactDecodeClass.j1 kj2 a0 a1 t256 t257 t258 t261 (t263 != t258)) else (laws_FnExactDecodeClass.j1 kj2 a0 a1 t256 t257 t258 t261 true)) else (laws_FnExactDecodeClass.j1 kj2 a0 a1 t256 t257 t258 t261 true)) = some r := H
    have A10 := aM A100
    clear A100
    by_cases c11 : t266 = true
    ·subst c11
     have H1 : (if t262 = t257 then (laws_FnExactDecodeClass.j1 kj2 a0 a1 t256 t257 t258 t261 (t263 != t258)) else (laws_FnExactDecodeClass.j1 kj2 a0 a1 t256 t257 t258 t261 true)) = some r := by rw [if_pos rfl] at H; exact H
     clear H
     have H := H1
     clear H1
     by_cases c12 : t262 = t257
     ·rw [if_pos c12] at H
      have c12b0 : (t262 == t257) = true := beq_iff_eq.mpr c12
      have c12b1 : (t262 != t257) = false := bne_eq_false_iff_eq.mpr c12
      clear c12
      (first | rw [c12b0] | (simp only [i64_w, i32_w]; rw [c12b0]) | rw [c12b1] | rw [c12b2] | rw [c12b3] | rw [c12b4] | skip)
      have H' := aM H
      clear H
      obtain ⟨Ao13, co13, eo13⟩ := Kd.R_slice HO265.out
      subst eo13
      obtain ⟨Ao14, co14, eo14⟩ := Kd.R_slice HO260.out
      subst eo14
      go_wp2_with (first | ((with_reducible refine gate_callee (f := 15) rfl ?_); refine goesL_ (some 35) rfl rfl Try.func15 (by kernel_rfl) rfl #[.slice Ao13 t261.length co13, .slice Ao14 t256.length co14] rfl gQ ?_; (with_reducible refine (laws_eqInt64S.calls kj2 _ _ t261 _ _ t256 true _ ?side1 ?side2 ?side3 ?side4 A10.out).mono ?_); (case side1 => repeat (first | exact (Kd.R_reads' HO265.out).2.2 | (with_reducible first | refine cA ?_ _ | refine cN ?_ _ | refine cD ?_))); (case side2 => exact (Kd.R_reads' HO265.out).2.1); (case side3 => repeat (first | exact (Kd.R_reads' HO260.out).2.2 | (with_reducible first | refine cA ?_ _ | refine cN ?_ _ | refine cD ?_))); (case side4 => exact (Kd.R_reads' HO260.out).2.1); rintro e w' ⟨rfl, ⟨nd, rfl⟩⟩; refine ⟨_, rfl, ?_⟩))
      go_meet
      case rel => exact ⟨_, ((t263 != t258)), rQ, H', ⟨by have := HJ2.out; first | omega | exact Nat.le_refl _⟩, ⟨by (with_reducible repeat (first | apply rA | apply rN | apply rD)); exact Kd.R_mono HO260.out h2_⟩, ⟨by (with_reducible repeat (first | apply rA | apply rN | apply rD)); exact Kd.R_mono HO265.out h2_⟩, ⟨bQ⟩⟩
     ·rw [if_neg c12] at H
      have c12b0 : (t262 == t257) = false := beq_eq_false_iff_ne.mpr c12
      have c12b1 : (t262 != t257) = true := bne_iff_ne.mpr c12
      (first | rw [c12b0] | (simp only [i64_w, i32_w]; rw [c12b0]) | rw [c12b1] | rw [c12b2] | rw [c12b3] | rw [c12b4] | skip)
      have H' := aM H
      clear H
      obtain ⟨Ao15, co15, eo15⟩ := Kd.R_slice HO265.out
      subst eo15
      obtain ⟨Ao16, co16, eo16⟩ := Kd.R_slice HO260.out
      subst eo16
      go_wp2_with (first | ((with_reducible refine gate_callee (f := 15) rfl ?_); refine goesL_ (some 35) rfl rfl Try.func15 (by kernel_rfl) rfl #[.slice Ao15 t261.length co15, .slice Ao16 t256.length co16] rfl gQ ?_; (with_reducible refine (laws_eqInt64S.calls kj2 _ _ t261 _ _ t256 true _ ?side1 ?side2 ?side3 ?side4 A10.out).mono ?_); (case side1 => repeat (first | exact (Kd.R_reads' HO265.out).2.2 | (with_reducible first | refine cA ?_ _ | refine cN ?_ _ | refine cD ?_))); (case side2 => exact (Kd.R_reads' HO265.out).2.1); (case side3 => repeat (first | exact (Kd.R_reads' HO260.out).2.2 | (with_reducible first | refine cA ?_ _ | refine cN ?_ _ | refine cD ?_))); (case side4 => exact (Kd.R_reads' HO260.out).2.1); rintro e w' ⟨rfl, ⟨nd, rfl⟩⟩; refine ⟨_, rfl, ?_⟩))
      go_meet
      case rel => exact ⟨_, (true), rQ, H', ⟨by have := HJ2.out; first | omega | exact Nat.le_refl _⟩, ⟨by (with_reducible repeat (first | apply rA | apply rN | apply rD)); exact Kd.R_mono HO260.out h2_⟩, ⟨by (with_reducible repeat (first | apply rA | apply rN | apply rD)); exact Kd.R_mono HO265.out h2_⟩, ⟨bQ⟩⟩
    ·replace c11 := Bool.eq_false_iff.mpr c11
     subst c11
     have H1 : (laws_FnExactDecodeClass.j1 kj2 a0 a1 t256 t257 t258 t261 true) = some r := by rw [if_neg (show ¬ (false = true) by decide)] at H; exact H
     clear H
     have H := H1
     clear H1
     have H' := aM H
     clear H
     obtain ⟨Ao17, co17, eo17⟩ := Kd.R_slice HO265.out
     subst eo17
     obtain ⟨Ao18, co18, eo18⟩ := Kd.R_slice HO260.out
     subst eo18
     go_wp2_with (first | ((with_reducible refine gate_callee (f := 15) rfl ?_); refine goesL_ (some 35) rfl rfl Try.func15 (by kernel_rfl) rfl #[.slice Ao17 t261.length co17, .slice Ao18 t256.length co18] rfl gQ ?_; (with_reducible refine (laws_eqInt64S.calls kj2 _ _ t261 _ _ t256 false _ ?side1 ?side2 ?side3 ?side4 A10.out).mono ?_); (case side1 => repeat (first | exact (Kd.R_reads' HO265.out).2.2 | (with_reducible first | refine cA ?_ _ | refine cN ?_ _ | refine cD ?_))); (case side2 => exact (Kd.R_reads' HO265.out).2.1); (case side3 => repeat (first | exact (Kd.R_reads' HO260.out).2.2 | (with_reducible first | refine cA ?_ _ | refine cN ?_ _ | refine cD ?_))); (case side4 => exact (Kd.R_reads' HO260.out).2.1); rintro e w' ⟨rfl, ⟨nd, rfl⟩⟩; refine ⟨_, rfl, ?_⟩))
     go_meet
     case rel => exact ⟨_, (true), rQ, H', ⟨by have := HJ2.out; first | omega | exact Nat.le_refl _⟩, ⟨by (with_reducible repeat (first | apply rA | apply rN | apply rD)); exact Kd.R_mono HO260.out h2_⟩, ⟨by (with_reducible repeat (first | apply rA | apply rN | apply rD)); exact Kd.R_mono HO265.out h2_⟩, ⟨bQ⟩⟩
   case rest =>
    clear HC7
    try clear c1
    try clear p2
    try clear c4
    try clear c4b0
    try clear c4b1
    try clear c4b2
    try clear c11
    try clear c12
    try clear c12b0
    try clear c12b1
    try clear c12b2
    try clear c15
    try clear c16
    try clear c17
    try clear p2
    obtain ⟨kq, x46_6, rfl, HA, HJ6, HO_5, HO_8, HB⟩ := hcut
    cases kq with
    | zero => exact absurd HA.out (by simp [laws_FnExactDecodeClass.j1])
    | succ kj6 =>
     have H := HA.out
     clear HA
     simp only [laws_FnExactDecodeClass.j1] at H
     have HC19 := aM H
     clear H
     go_upto_if 46 with (fail)
     go_cut [] (fun wc => ∃ (kq : Nat), Aside0 (laws_FnExactDecodeClass.j2 kq a0 a1 t256 t257 t258 t261 = some r) ∧ Aside0 (kq ≤ kj6) ∧ Aside0 (Kd.R (Kd.int .i64) 2 wc w.heap.size (fun k_ => some k_ ≠ (v264 : Value).ownBlock) v259 t256) ∧ Aside0 (Kd.R (Kd.int .i64) 2 wc w.heap.size (fun k_ => some k_ ≠ (v259 : Value).ownBlock) v264 t261) ∧ Aside0 (Below w.heap.size w wc))
     case first =>
      have H := HC19.out
      clear HC19
      by_cases c20 : x46_6 = true
      ·subst c20
       have H1 : (some false) = some r := by rw [if_pos rfl] at H; exact H
       clear H
       have H := H1
       clear H1
       obtain rfl := Option.some.inj H
       go_wp2
       go_ret
       exact ⟨eQ, bQ⟩
      ·replace c20 := Bool.eq_false_iff.mpr c20
       subst c20
       have H1 : (laws_FnExactDecodeClass.j2 kj6 a0 a1 t256 t257 t258 t261) = some r := by rw [if_neg (show ¬ (false = true) by decide)] at H; exact H
       clear H
       have H := H1
       clear H1
       have H' := aM H
       clear H
       go_wp2
       go_meet
       case rel => exact ⟨_, H', ⟨by have := HJ2.out; have := HJ6.out; first | omega | exact Nat.le_refl _⟩, ⟨by (with_reducible repeat (first | apply rA | apply rN | apply rD)); exact HO_5.out⟩, ⟨by (with_reducible repeat (first | apply rA | apply rN | apply rD)); exact HO_8.out⟩, ⟨bQ⟩⟩
     case rest =>
      clear HC19
      try clear c1
      try clear c2
      try clear p2
      try clear c4
      try clear c4b0
      try clear c4b1
      try clear c4b2
      try clear c11
      try clear c12
      try clear c12b0
      try clear c12b1
      try clear c12b2
      try clear c15
      try clear c16
      try clear c17
      try clear c20
      try clear p2
      obtain ⟨kq, HA, HJ18, HO_5, HO_8, HB⟩ := hcut
      cases kq with
      | zero => exact absurd HA.out (by simp [laws_FnExactDecodeClass.j2])
      | succ kj18 =>
       have H := HA.out
       clear HA
       simp only [laws_FnExactDecodeClass.j2] at H
       replace H := Option.bind_eq_some_iff.mp H
       obtain ⟨⟨t267, t268⟩, A210, H⟩ := H
       replace H : ((laws_heldInt64S.f kj18 t268 1).bind fun t269 => (if t269 < 0 then (some false) else (laws_FnExactDecodeClass.j3 kj18 a0 a1 t256 t257 t258 t268 t267 t269))) = some r := H
       have A21 := aM A210
       clear A210
       replace H := Option.bind_eq_some_iff.mp H
       obtain ⟨t269, A220, H⟩ := H
       replace H : (if t269 < 0 then (some false) else (laws_FnExactDecodeClass.j3 kj18 a0 a1 t256 t257 t258 t268 t267 t269)) = some r := H
       have A22 := aM A220
       clear A220
       have HC23 := aM H
       clear H
       obtain ⟨Ao24, co24, eo24⟩ := Kd.R_slice HO_8.out
       subst eo24
       go_upto_if 54 with (first | ((with_reducible refine gate_callee (f := 18) rfl ?_); refine goesL_ (some 49) rfl rfl Try.func18 (by kernel_rfl) rfl #[.slice Ao24 t261.length co24, .int .i64 1] rfl gQ ?_; (with_reducible refine (laws_markInt64S.calls kj18 (fun k_ => some k_ = (.slice Ao24 t261.length co24 : Value).ownBlock) (.slice Ao24 t261.length co24) t261 1 t267 t268 w _ ?side1 ?side2 A21.out).mono ?_); (case side1 => repeat (first | (with_reducible first | exact HB.out | apply bA | apply bN | apply bD) | exact HB.out)); (case side2 => exact Kd.R_tight rfl HO_8.out); rintro e w25 ⟨rfl, hy0, hb, hkp⟩; refine ⟨_, rfl, ?_⟩; have n0_ := aM (Kd.R_mono (ok' := fun k_ => some k_ ≠ (.slice Ao24 t261.length co24 : Value).ownBlock) (Kd.R_keptB (HO_5.out) hkp (fun k_ hk_ hs_ => (hk_) hs_)) (fun k_ hk_ => hk_.1)); have n1_ := aM (Kd.R_reok rfl hy0 (fun k_ e_ => HO_8.out.1 k_ e_)); have n2_ := aM (hb); clear HO_5; clear HO_8; clear HB; have HO_5 := n0_; have HO_8 := n1_; have HB := n2_; clear n0_ n1_ n2_; (try clear hb); (try clear hkp); (try clear hy0)) | ((with_reducible refine gate_callee (f := 19) rfl ?_); refine goesL_ (some 52) rfl rfl Try.func19 (by kernel_rfl) rfl #[.slice Ao24 t268.length co24, .int .i64 1] rfl (by (try simp only [List.map_toArray, List.map_cons, List.map_nil]); first | done | (rw [show t268.length = t261.length from (Kd.R_reads' HO_8.out).1.symm] <;> rfl) | rfl | (simp only [List.length_drop, List.length_take]; rfl)) ?_; (with_reducible refine (laws_heldInt64S.calls kj18 _ _ t268 1 t269 _ ?side1 ?side2 A22.out).mono ?_); (case side1 => repeat (first | exact (Kd.R_reads' HO_8.out).2.2 | (with_reducible first | refine cA ?_ _ | refine cN ?_ _ | refine cD ?_))); (case side2 => rw [show t268.length = t261.length from (Kd.R_reads' HO_8.out).1.symm]; exact (Kd.R_reads' HO_8.out).2.1); rintro e w' ⟨rfl, ⟨nd, rfl⟩⟩; refine ⟨_, rfl, ?_⟩))
       (try simp only [Act.put, sI, sZ, sS])
       go_cut [] (fun wc => ∃ (kq : Nat), Aside0 (laws_FnExactDecodeClass.j3 kq a0 a1 t256 t257 t258 t268 t267 t269 = some r) ∧ Aside0 (kq ≤ kj18) ∧ Aside0 (Kd.R (Kd.int .i64) 2 wc w.heap.size (fun k_ => some k_ ≠ ((.slice Ao24 t261.length co24) : Value).ownBlock) v259 t256) ∧ Aside0 (Kd.R (Kd.int .i64) 2 wc w.heap.size (fun k_ => some k_ ≠ (v259 : Value).ownBlock) (.slice Ao24 t261.length co24) t268) ∧ Aside0 (Below w.heap.size w wc))
       case first =>
        have H := HC23.out
        clear HC23
        by_cases c26 : t269 < 0
        ·rw [if_pos c26] at H
         have c26b0 : decide (t269 < 0) = true := decide_eq_true c26
         clear c26
         (first | rw [c26b0] | (simp only [i64_w, i32_w]; rw [c26b0]) | rw [c26b1] | rw [c26b2] | rw [c26b3] | rw [c26b4] | skip)
         obtain rfl := Option.some.inj H
         go_wp2
         go_ret
         exact ⟨eQ, bQ⟩
        ·rw [if_neg c26] at H
         have c26b0 : decide (t269 < 0) = false := decide_eq_false c26
         clear c26
         (first | rw [c26b0] | (simp only [i64_w, i32_w]; rw [c26b0]) | rw [c26b1] | rw [c26b2] | rw [c26b3] | rw [c26b4] | skip)
         have H' := aM H
         clear H
         go_wp2
         go_meet
         case rel => exact ⟨_, H', ⟨by have := HJ2.out; have := HJ6.out; have := HJ18.out; first | omega | exact Nat.le_refl _⟩, ⟨by (with_reducible repeat (first | apply rA | apply rN | apply rD)); exact HO_5.out⟩, ⟨by (with_reducible repeat (first | apply rA | apply rN | apply rD)); exact HO_8.out⟩, ⟨bQ⟩⟩
       case rest =>
        clear HC23
        try clear c1
        try clear c2
        try clear p2
        try clear c4
        try clear c4b0
        try clear c4b1
        try clear c4b2
        try clear c11
        try clear c12
        try clear c12b0
        try clear c12b1
        try clear c12b2
        try clear c15
        try clear c16
        try clear c17
        try clear c18
        try clear c19
        try clear c20
        try clear c26
        try clear c26b0
        try clear c26b1
        try clear c26b2
        try clear p2
        obtain ⟨kq, HA, HJ22, HO_5, HO_8, HB⟩ := hcut
        have hl8_22 := (Kd.R_reads' HO_8.out).1
        rw [hl8_22] at HO_8
        (try simp only [hl8_22])
        (try simp only [hl8_22] at HO_5)
        cases kq with
        | zero => exact absurd HA.out (by simp [laws_FnExactDecodeClass.j3])
        | succ kj22 =>
         have H := HA.out
         clear HA
         simp only [laws_FnExactDecodeClass.j3] at H
         have HC27 := aM H
         clear H
         go_upto_if 57 with (fail)
         go_cut [] (fun wc => ∃ (kq : Nat), Aside0 (laws_FnExactDecodeClass.j4 kq a0 a1 t256 t257 t258 t268 t267 = some r) ∧ Aside0 (kq ≤ kj22) ∧ Aside0 (Kd.R (Kd.int .i64) 2 wc w.heap.size (fun k_ => some k_ ≠ ((.slice Ao24 t268.length co24) : Value).ownBlock) v259 t256) ∧ Aside0 (Kd.R (Kd.int .i64) 2 wc w.heap.size (fun k_ => some k_ ≠ (v259 : Value).ownBlock) (.slice Ao24 t268.length co24) t268) ∧ Aside0 (Below w.heap.size w wc))
         case first =>
          have H := HC27.out
          clear HC27
          by_cases c28 : t269 = t267
          ·rw [if_pos c28] at H
           have c28b0 : (t269 == t267) = true := beq_iff_eq.mpr c28
           have c28b1 : (t269 != t267) = false := bne_eq_false_iff_eq.mpr c28
           clear c28
           (first | rw [c28b0] | (simp only [i64_w, i32_w]; rw [c28b0]) | rw [c28b1] | rw [c28b2] | rw [c28b3] | rw [c28b4] | skip)
           have H' := aM H
           clear H
           go_wp2
           go_meet
           case rel => exact ⟨_, H', ⟨by have := HJ2.out; have := HJ6.out; have := HJ18.out; have := HJ22.out; first | omega | exact Nat.le_refl _⟩, ⟨by (try simp only [hl8_22]); (with_reducible repeat (first | apply rA | apply rN | apply rD)); exact HO_5.out⟩, ⟨by (try simp only [hl8_22]); (with_reducible repeat (first | apply rA | apply rN | apply rD)); exact HO_8.out⟩, ⟨bQ⟩⟩
          ·rw [if_neg c28] at H
           have c28b0 : (t269 == t267) = false := beq_eq_false_iff_ne.mpr c28
           have c28b1 : (t269 != t267) = true := bne_iff_ne.mpr c28
           (first | rw [c28b0] | (simp only [i64_w, i32_w]; rw [c28b0]) | rw [c28b1] | rw [c28b2] | rw [c28b3] | rw [c28b4] | skip)
           obtain rfl := Option.some.inj H
           go_wp2
           go_ret
           exact ⟨eQ, bQ⟩
         case rest =>
          clear HC27
          try clear c1
          try clear c2
          try clear p2
          try clear c4
          try clear c4b0
          try clear c4b1
          try clear c4b2
          try clear c11
          try clear c12
          try clear c12b0
          try clear c12b1
          try clear c12b2
          try clear c15
          try clear c16
          try clear c17
          try clear c18
          try clear c19
          try clear c20
          try clear c26
          try clear c26b0
          try clear c26b1
          try clear c26b2
          try clear c28
          try clear c28b0
          try clear c28b1
          try clear c28b2
          try clear p2
          obtain ⟨kq, HA, HJ26, HO_5, HO_8, HB⟩ := hcut
          cases kq with
          | zero => exact absurd HA.out (by simp [laws_FnExactDecodeClass.j4])
          | succ kj26 =>
           have H := HA.out
           clear HA
           simp only [laws_FnExactDecodeClass.j4] at H
           replace H := Option.bind_eq_some_iff.mp H
           obtain ⟨⟨t270, t271, t272⟩, A290, H⟩ := H
           replace H : ((laws_eqInt64S.f kj26 t270 t256).bind fun t275 => (if t275 = true then (if t271 = t257 then (laws_FnExactDecodeClass.j5 kj26 t268 t267 (t272 != t258)) else (laws_FnExactDecodeClass.j5 kj26 t268 t267 true)) else (laws_FnExactDecodeClass.j5 kj26 t268 t267 true))) = some r := H
           have A29 := aM A290
           clear A290
           have HC30 := aM H
           clear H
           go_upto_region 16 with (first | ((with_reducible refine gate_callee (f := 17) rfl ?_); refine goesL_ (some 61) rfl rfl Try.func17 (by kernel_rfl) rfl #[.string a0, .int .i64 a1] rfl gQ ?_; (with_reducible refine (impl_DecodeClass.calls kj26 a0 a1 t270 t271 t272 _ A29.out).mono ?_); rintro e w31 ⟨v273, rfl, ho0, hb⟩; refine ⟨_, rfl, ?_⟩; have n0_ := aM (Kd.R_elder' (by (with_reducible repeat (first | apply rA | apply rN | apply rD)); exact HO_5.out) (Kd.R_base ho0) hb); have n1_ := aM (Kd.R_elder' (by (with_reducible repeat (first | apply rA | apply rN | apply rD)); exact HO_8.out) (Kd.R_base ho0) hb); have n2_ := aM (Kd.R_lower (Kd.R_new' (Kd.R_new' ho0 (Kd.R_lt (by (with_reducible repeat (first | apply rA | apply rN | apply rD)); exact HO_5.out))) (Kd.R_lt (by (with_reducible repeat (first | apply rA | apply rN | apply rD)); exact HO_8.out))) (below_size bQ)); have n3_ := aM (below_step bQ hb); clear HO_5; clear HO_8; clear HB; have HO_5 := n0_; have HO_8 := n1_; have HO274 := n2_; have HB := n3_; clear n0_ n1_ n2_ n3_; (try clear hb); (try clear hb2); (try clear hk); (try clear hi); (try clear ho0)))
           (try simp only [Act.put, sI, sZ, sS])
           go_cut [78] (fun v78 wc => ∃ (kq : Nat) (x78_29 : Bool), v78 = .bool x78_29 ∧ Aside0 (laws_FnExactDecodeClass.j5 kq t268 t267 x78_29 = some r) ∧ Aside0 (kq ≤ kj26) ∧ Aside0 (Kd.R (Kd.int .i64) 2 wc w.heap.size (fun _ => True) (.slice Ao24 t268.length co24) t268) ∧ Aside0 (Below w.heap.size w wc))
           case first =>
            have H := HC30.out
            clear HC30
            replace H := Option.bind_eq_some_iff.mp H
            obtain ⟨t275, A320, H⟩ := H
            replace H : (if t275 = true then (if t271 = t257 then (laws_FnExactDecodeClass.j5 kj26 t268 t267 (t272 != t258)) else (laws_FnExactDecodeClass.j5 kj26 t268 t267 true)) else (laws_FnExactDecodeClass.j5 kj26 t268 t267 true)) = some r := H
            have A32 := aM A320
            clear A320
            by_cases c33 : t275 = true
            ·subst c33
             have H1 : (if t271 = t257 then (laws_FnExactDecodeClass.j5 kj26 t268 t267 (t272 != t258)) else (laws_FnExactDecodeClass.j5 kj26 t268 t267 true)) = some r := by rw [if_pos rfl] at H; exact H
             clear H
             have H := H1
             clear H1
             by_cases c34 : t271 = t257
             ·rw [if_pos c34] at H
              have c34b0 : (t271 == t257) = true := beq_iff_eq.mpr c34
              have c34b1 : (t271 != t257) = false := bne_eq_false_iff_eq.mpr c34
              clear c34
              (first | rw [c34b0] | (simp only [i64_w, i32_w]; rw [c34b0]) | rw [c34b1] | rw [c34b2] | rw [c34b3] | rw [c34b4] | skip)
              have H' := aM H
              clear H
              obtain ⟨Ao35, co35, eo35⟩ := Kd.R_slice HO274.out
              subst eo35
              obtain ⟨Ao36, co36, eo36⟩ := Kd.R_slice HO_5.out
              subst eo36
              go_wp2_with (first | ((with_reducible refine gate_callee (f := 15) rfl ?_); refine goesL_ (some 67) rfl rfl Try.func15 (by kernel_rfl) rfl #[.slice Ao35 t270.length co35, .slice Ao36 t256.length co36] rfl gQ ?_; (with_reducible refine (laws_eqInt64S.calls kj26 _ _ t270 _ _ t256 true _ ?side1 ?side2 ?side3 ?side4 A32.out).mono ?_); (case side1 => repeat (first | exact (Kd.R_reads' HO274.out).2.2 | (with_reducible first | refine cA ?_ _ | refine cN ?_ _ | refine cD ?_))); (case side2 => exact (Kd.R_reads' HO274.out).2.1); (case side3 => repeat (first | exact (Kd.R_reads' HO_5.out).2.2 | (with_reducible first | refine cA ?_ _ | refine cN ?_ _ | refine cD ?_))); (case side4 => exact (Kd.R_reads' HO_5.out).2.1); rintro e w' ⟨rfl, ⟨nd, rfl⟩⟩; refine ⟨_, rfl, ?_⟩))
              go_meet
              case rel => exact ⟨_, ((t272 != t258)), rQ, H', ⟨by have := HJ2.out; have := HJ6.out; have := HJ18.out; have := HJ22.out; have := HJ26.out; first | omega | exact Nat.le_refl _⟩, ⟨by (try simp only [hl8_22]); (with_reducible repeat (first | apply rA | apply rN | apply rD)); exact Kd.R_mono HO_8.out (fun _ hk => trivial)⟩, ⟨bQ⟩⟩
             ·rw [if_neg c34] at H
              have c34b0 : (t271 == t257) = false := beq_eq_false_iff_ne.mpr c34
              have c34b1 : (t271 != t257) = true := bne_iff_ne.mpr c34
              (first | rw [c34b0] | (simp only [i64_w, i32_w]; rw [c34b0]) | rw [c34b1] | rw [c34b2] | rw [c34b3] | rw [c34b4] | skip)
              have H' := aM H
              clear H
              obtain ⟨Ao37, co37, eo37⟩ := Kd.R_slice HO274.out
              subst eo37
              obtain ⟨Ao38, co38, eo38⟩ := Kd.R_slice HO_5.out
              subst eo38
              go_wp2_with (first | ((with_reducible refine gate_callee (f := 15) rfl ?_); refine goesL_ (some 67) rfl rfl Try.func15 (by kernel_rfl) rfl #[.slice Ao37 t270.length co37, .slice Ao38 t256.length co38] rfl gQ ?_; (with_reducible refine (laws_eqInt64S.calls kj26 _ _ t270 _ _ t256 true _ ?side1 ?side2 ?side3 ?side4 A32.out).mono ?_); (case side1 => repeat (first | exact (Kd.R_reads' HO274.out).2.2 | (with_reducible first | refine cA ?_ _ | refine cN ?_ _ | refine cD ?_))); (case side2 => exact (Kd.R_reads' HO274.out).2.1); (case side3 => repeat (first | exact (Kd.R_reads' HO_5.out).2.2 | (with_reducible first | refine cA ?_ _ | refine cN ?_ _ | refine cD ?_))); (case side4 => exact (Kd.R_reads' HO_5.out).2.1); rintro e w' ⟨rfl, ⟨nd, rfl⟩⟩; refine ⟨_, rfl, ?_⟩))
              go_meet
              case rel => exact ⟨_, (true), rQ, H', ⟨by have := HJ2.out; have := HJ6.out; have := HJ18.out; have := HJ22.out; have := HJ26.out; first | omega | exact Nat.le_refl _⟩, ⟨by (try simp only [hl8_22]); (with_reducible repeat (first | apply rA | apply rN | apply rD)); exact Kd.R_mono HO_8.out (fun _ hk => trivial)⟩, ⟨bQ⟩⟩
            ·replace c33 := Bool.eq_false_iff.mpr c33
             subst c33
             have H1 : (laws_FnExactDecodeClass.j5 kj26 t268 t267 true) = some r := by rw [if_neg (show ¬ (false = true) by decide)] at H; exact H
             clear H
             have H := H1
             clear H1
             have H' := aM H
             clear H
             obtain ⟨Ao39, co39, eo39⟩ := Kd.R_slice HO274.out
             subst eo39
             obtain ⟨Ao40, co40, eo40⟩ := Kd.R_slice HO_5.out
             subst eo40
             go_wp2_with (first | ((with_reducible refine gate_callee (f := 15) rfl ?_); refine goesL_ (some 67) rfl rfl Try.func15 (by kernel_rfl) rfl #[.slice Ao39 t270.length co39, .slice Ao40 t256.length co40] rfl gQ ?_; (with_reducible refine (laws_eqInt64S.calls kj26 _ _ t270 _ _ t256 false _ ?side1 ?side2 ?side3 ?side4 A32.out).mono ?_); (case side1 => repeat (first | exact (Kd.R_reads' HO274.out).2.2 | (with_reducible first | refine cA ?_ _ | refine cN ?_ _ | refine cD ?_))); (case side2 => exact (Kd.R_reads' HO274.out).2.1); (case side3 => repeat (first | exact (Kd.R_reads' HO_5.out).2.2 | (with_reducible first | refine cA ?_ _ | refine cN ?_ _ | refine cD ?_))); (case side4 => exact (Kd.R_reads' HO_5.out).2.1); rintro e w' ⟨rfl, ⟨nd, rfl⟩⟩; refine ⟨_, rfl, ?_⟩))
             go_meet
             case rel => exact ⟨_, (true), rQ, H', ⟨by have := HJ2.out; have := HJ6.out; have := HJ18.out; have := HJ22.out; have := HJ26.out; first | omega | exact Nat.le_refl _⟩, ⟨by (try simp only [hl8_22]); (with_reducible repeat (first | apply rA | apply rN | apply rD)); exact Kd.R_mono HO_8.out (fun _ hk => trivial)⟩, ⟨bQ⟩⟩
           case rest =>
            clear HC30
            try clear c1
            try clear c2
            try clear p2
            try clear c3
            try clear c4
            try clear c4b0
            try clear c4b1
            try clear c4b2
            try clear c11
            try clear c12
            try clear c12b0
            try clear c12b1
            try clear c12b2
            try clear c15
            try clear c16
            try clear c17
            try clear c18
            try clear c19
            try clear c20
            try clear c26
            try clear c26b0
            try clear c26b1
            try clear c26b2
            try clear c28
            try clear c28b0
            try clear c28b1
            try clear c28b2
            try clear c33
            try clear c34
            try clear c34b0
            try clear c34b1
            try clear c34b2
            try clear p2
            obtain ⟨kq, x78_29, rfl, HA, HJ29, HO_8, HB⟩ := hcut
            cases kq with
            | zero => exact absurd HA.out (by simp [laws_FnExactDecodeClass.j5])
            | succ kj29 =>
             have H := HA.out
             clear HA
             simp only [laws_FnExactDecodeClass.j5] at H
             have HC41 := aM H
             clear H
             go_upto_if 78 with (fail)
             go_cut [] (fun wc => ∃ (kq : Nat), Aside0 (laws_FnExactDecodeClass.j6 kq t268 t267 = some r) ∧ Aside0 (kq ≤ kj29) ∧ Aside0 (Kd.R (Kd.int .i64) 2 wc w.heap.size (fun _ => True) (.slice Ao24 t268.length co24) t268) ∧ Aside0 (Below w.heap.size w wc))
             case first =>
              have H := HC41.out
              clear HC41
              by_cases c42 : x78_29 = true
              ·subst c42
               have H1 : (some false) = some r := by rw [if_pos rfl] at H; exact H
               clear H
               have H := H1
               clear H1
               obtain rfl := Option.some.inj H
               go_wp2
               go_ret
               exact ⟨eQ, bQ⟩
              ·replace c42 := Bool.eq_false_iff.mpr c42
               subst c42
               have H1 : (laws_FnExactDecodeClass.j6 kj29 t268 t267) = some r := by rw [if_neg (show ¬ (false = true) by decide)] at H; exact H
               clear H
               have H := H1
               clear H1
               have H' := aM H
               clear H
               go_wp2
               go_meet
               case rel => exact ⟨_, H', ⟨by have := HJ2.out; have := HJ6.out; have := HJ18.out; have := HJ22.out; have := HJ26.out; have := HJ29.out; first | omega | exact Nat.le_refl _⟩, ⟨by (try simp only [hl8_22]); (with_reducible repeat (first | apply rA | apply rN | apply rD)); exact HO_8.out⟩, ⟨bQ⟩⟩
             case rest =>
              clear HC41
              try clear c1
              try clear c2
              try clear p2
              try clear c3
              try clear c4
              try clear c4b0
              try clear c4b1
              try clear c4b2
              try clear c11
              try clear c12
              try clear c12b0
              try clear c12b1
              try clear c12b2
              try clear c15
              try clear c16
              try clear c17
              try clear c18
              try clear c19
              try clear c20
              try clear c26
              try clear c26b0
              try clear c26b1
              try clear c26b2
              try clear c28
              try clear c28b0
              try clear c28b1
              try clear c28b2
              try clear c33
              try clear c34
              try clear c34b0
              try clear c34b1
              try clear c34b2
              try clear c42
              try clear p2
              obtain ⟨kq, HA, HJ40, HO_8, HB⟩ := hcut
              cases kq with
              | zero => exact absurd HA.out (by simp [laws_FnExactDecodeClass.j6])
              | succ kj40 =>
               have H := HA.out
               clear HA
               simp only [laws_FnExactDecodeClass.j6] at H
               replace H := Option.bind_eq_some_iff.mp H
               obtain ⟨t276, A430, H⟩ := H
               replace H : (if t276 < 0 then (some false) else (if t276 = t267 then (some true) else (some false))) = some r := H
               have A43 := aM A430
               clear A430
               by_cases c44 : t276 < 0
               ·rw [if_pos c44] at H
                have c44b0 : decide (t276 < 0) = true := decide_eq_true c44
                clear c44
                obtain rfl := Option.some.inj H
                go_wp2_with (first | ((with_reducible refine gate_callee (f := 19) rfl ?_); refine goesL_ (some 81) rfl rfl Try.func19 (by kernel_rfl) rfl #[.slice Ao24 t268.length co24, .int .i64 1] rfl gQ ?_; (with_reducible refine (laws_heldInt64S.calls kj40 _ _ t268 1 t276 _ ?side1 ?side2 A43.out).mono ?_); (case side1 => repeat (first | exact (Kd.R_reads' HO_8.out).2.2 | (with_reducible first | refine cA ?_ _ | refine cN ?_ _ | refine cD ?_))); (case side2 => exact (Kd.R_reads' HO_8.out).2.1); rintro e w' ⟨rfl, ⟨nd, rfl⟩⟩; refine ⟨_, rfl, ?_⟩))
                go_ret
                exact ⟨eQ, bQ⟩
               ·rw [if_neg c44] at H
                have c44b0 : decide (t276 < 0) = false := decide_eq_false c44
                clear c44
                by_cases c45 : t276 = t267
                ·rw [if_pos c45] at H
                 have c45b0 : (t276 == t267) = true := beq_iff_eq.mpr c45
                 have c45b1 : (t276 != t267) = false := bne_eq_false_iff_eq.mpr c45
                 clear c45
                 obtain rfl := Option.some.inj H
                 go_wp2_with (first | ((with_reducible refine gate_callee (f := 19) rfl ?_); refine goesL_ (some 81) rfl rfl Try.func19 (by kernel_rfl) rfl #[.slice Ao24 t268.length co24, .int .i64 1] rfl gQ ?_; (with_reducible refine (laws_heldInt64S.calls kj40 _ _ t268 1 t276 _ ?side1 ?side2 A43.out).mono ?_); (case side1 => repeat (first | exact (Kd.R_reads' HO_8.out).2.2 | (with_reducible first | refine cA ?_ _ | refine cN ?_ _ | refine cD ?_))); (case side2 => exact (Kd.R_reads' HO_8.out).2.1); rintro e w' ⟨rfl, ⟨nd, rfl⟩⟩; refine ⟨_, rfl, ?_⟩))
                 go_ret
                 exact ⟨eQ, bQ⟩
                ·rw [if_neg c45] at H
                 have c45b0 : (t276 == t267) = false := beq_eq_false_iff_ne.mpr c45
                 have c45b1 : (t276 != t267) = true := bne_iff_ne.mpr c45
                 obtain rfl := Option.some.inj H
                 go_wp2_with (first | ((with_reducible refine gate_callee (f := 19) rfl ?_); refine goesL_ (some 81) rfl rfl Try.func19 (by kernel_rfl) rfl #[.slice Ao24 t268.length co24, .int .i64 1] rfl gQ ?_; (with_reducible refine (laws_heldInt64S.calls kj40 _ _ t268 1 t276 _ ?side1 ?side2 A43.out).mono ?_); (case side1 => repeat (first | exact (Kd.R_reads' HO_8.out).2.2 | (with_reducible first | refine cA ?_ _ | refine cN ?_ _ | refine cD ?_))); (case side2 => exact (Kd.R_reads' HO_8.out).2.1); rintro e w' ⟨rfl, ⟨nd, rfl⟩⟩; refine ⟨_, rfl, ?_⟩))
                 go_ret
                 exact ⟨eQ, bQ⟩

/-- THE ONE PURE STATEMENT of laws_FnExactDecodeClass: yours. -/
def laws_FnExactDecodeClass.Pure : Prop := ∀ (a0 : ByteArray) (a1 : Int), a0.size ≤ 140737488351232 → (Lit.int .i64 a1).wf = true → ∃ k, laws_FnExactDecodeClass.f k a0 a1 = some true
theorem laws_FnExactDecodeClass.walk (P : laws_FnExactDecodeClass.Pure) (a0 : ByteArray) (a1 : Int) (w : World) (w0 : a0.size ≤ 140737488351232) (w1 : (Lit.int .i64 a1).wf = true) :
  Calls Try.prog 4 #[.string a0, .int .i64 a1] w fun e w' => e = .returned (.bool true) ∧ Below w.heap.size w w' := by
 obtain ⟨k, h⟩ := P a0 a1 w0 w1
 refine (laws_FnExactDecodeClass.calls k a0 a1 true w h).mono ?_
 rintro e w' ⟨rfl, hd⟩
 exact ⟨rfl, hd⟩

end Go.Proofs.Ytdahcapolipnbaa.QFnExactDecodeClass
