/- What some Go functions answer, each as a Lean function, and that the machine answers so: written by a program of this session out of the translation. -/
import Derived.Test.YtdahcapolipnbaaQFnExactDecodeClassx0
import Derived.Test.YtdahcapolipnbaaQFnExactDecodeClassx1
import Derived.Test.YtdahcapolipnbaaQFnExactDecodeClassx2
import Derived.Test.YtdahcapolipnbaaQFnExactDecodeClassx4
namespace Go.Proofs.Ytdahcapolipnbaa.QFnExactDecodeClass
open Go.RowKit Go.Proofs.YtdahcapolipnbaaW.PrintWords Go.Proofs.YtdahcapolipnbaaW.PrintLast Go.Proofs.YtdahcapolipnbaaW.PrintMore Go.Proofs.Ytdahcapolipnbaa.Rp
attribute [local go_sem] max2_int min2_int max_two min_two max_three min_three max_four min_four   -- for this text's walks alone
set_option linter.unusedVariables false
set_option linter.unusedSimpArgs false

/-! ### spec_DecodeClass: function 16 -/
mutual
abbrev mkspec_D607_0 : Array Bool := #[ff,ff,ff,ff,ff,ff,ff,ff,ff,ff,ff,ff,ff,ff,ff]
abbrev mkspec_D607_1 : Array Bool := #[tt,ff,ff,ff,ff,ff,ff,ff,ff,ff,ff,ff,ff,ff,ff]
abbrev mkspec_D607_2 : Array Bool := #[tt,tt,ff,ff,ff,ff,ff,ff,ff,ff,ff,ff,ff,ff,ff]
abbrev mkspec_D607_3 : Array Bool := #[tt,tt,tt,ff,ff,ff,ff,ff,ff,ff,ff,ff,ff,ff,ff]
abbrev mkspec_D607_4 : Array Bool := #[tt,tt,tt,tt,ff,ff,ff,ff,ff,ff,ff,ff,ff,ff,ff]
abbrev mkspec_D607_5 : Array Bool := #[tt,tt,tt,tt,ff,tt,ff,ff,ff,ff,ff,ff,ff,ff,ff]
abbrev mkspec_D607_6 : Array Bool := #[tt,tt,tt,tt,tt,ff,ff,ff,ff,ff,ff,ff,ff,ff,ff]
abbrev mkspec_D607_7 : Array Bool := #[tt,tt,tt,tt,ff,tt,tt,ff,ff,ff,ff,ff,ff,ff,ff]
abbrev mkspec_D607_8 : Array Bool := #[tt,tt,tt,tt,tt,tt,ff,ff,ff,ff,ff,ff,ff,ff,ff]
abbrev mkspec_D607_9 : Array Bool := #[tt,tt,tt,tt,ff,tt,tt,tt,ff,ff,ff,ff,ff,ff,ff]
abbrev mkspec_D607_10 : Array Bool := #[tt,tt,tt,tt,tt,tt,tt,ff,ff,ff,ff,ff,ff,ff,ff]
abbrev mkspec_D607_11 : Array Bool := #[tt,tt,tt,tt,ff,tt,tt,tt,tt,ff,ff,ff,ff,ff,ff]
abbrev mkspec_D607_12 : Array Bool := #[tt,tt,tt,tt,tt,tt,tt,tt,ff,ff,ff,ff,ff,ff,ff]
abbrev mkspec_D607_13 : Array Bool := #[tt,tt,tt,tt,ff,tt,tt,tt,tt,tt,ff,ff,ff,ff,ff]
abbrev mkspec_D607_14 : Array Bool := #[tt,tt,tt,tt,tt,tt,tt,tt,tt,ff,ff,ff,ff,ff,ff]
abbrev mkspec_D607_15 : Array Bool := #[tt,tt,tt,tt,ff,tt,tt,tt,tt,tt,tt,ff,ff,ff,ff]
abbrev mkspec_D607_16 : Array Bool := #[tt,tt,tt,tt,tt,tt,tt,tt,tt,tt,ff,ff,ff,ff,ff]
abbrev mkspec_D607_17 : Array Bool := #[tt,tt,tt,tt,ff,tt,tt,tt,tt,tt,tt,tt,ff,ff,ff]
abbrev mkspec_D607_18 : Array Bool := #[tt,tt,tt,tt,tt,tt,tt,tt,tt,tt,tt,ff,ff,ff,ff]
abbrev mkspec_D607_19 : Array Bool := #[tt,tt,tt,tt,ff,tt,tt,tt,tt,tt,tt,tt,tt,ff,ff]
abbrev mkspec_D607_20 : Array Bool := #[tt,tt,tt,tt,tt,tt,tt,tt,tt,tt,tt,tt,ff,ff,ff]
abbrev mkspec_D607_21 : Array Bool := #[tt,tt,tt,tt,tt,tt,tt,tt,tt,tt,tt,tt,tt,ff,ff]
abbrev mkspec_D607_22 : Array Bool := #[tt,tt,tt,tt,tt,tt,tt,tt,tt,tt,tt,tt,tt,tt,ff]
abbrev mkspec_D607_23 : Array Bool := #[tt,tt,tt,tt,tt,tt,tt,tt,tt,tt,tt,tt,tt,tt,tt]
def spec_DecodeClass.j0 : Nat → ByteArray → Int → Int → Int → Int → Option (List Int × Int × Int)
 | 0, _, _, _, _, _ => none
 | k + 1, x0, x1, x7, x8, x9 => (spec_l00In.f x8 1 2).bind fun t179 => (if t179 = true then (spec_DecodeClass.j1 k x0 x1 x8 x9 (decide ((wrap64 (x7 - x1)) < (wrap64 (4 + (wrap64 (2 * x9))))))) else (spec_DecodeClass.j1 k x0 x1 x8 x9 false))
def spec_DecodeClass.j1 : Nat → ByteArray → Int → Int → Int → Bool → Option (List Int × Int × Int)
 | 0, _, _, _, _, _ => none
 | k + 1, x0, x1, x8, x9, x45 => if x45 = true then (some (([] : List Int), 0, 11)) else ((spec_l00In.f x8 1 2).bind fun t180 => (if t180 = true then (spec_DecodeClass.l0 k x0 x1 x8 x9 (([] : List Int)) 0) else (some (([] : List Int), 0, 9))))
def spec_DecodeClass.l0 : Nat → ByteArray → Int → Int → Int → List Int → Int → Option (List Int × Int × Int)
 | 0, _, _, _, _, _, _ => none
 | k + 1, x0, x1, x8, x9, x10, x11 => if x11 < x9 then ((spec_l01Get.f k x0 (wrap64 ((wrap64 (x1 + 4)) + (wrap64 (2 * x11)))) 2).bind fun t184 => (if x10.length < 17592186044416 then (spec_DecodeClass.l0 k x0 x1 x8 x9 (x10 ++ [t184]) (wrap64 (x11 + 1))) else (none))) else ((spec_l23Decode.f k x8 x10).bind fun bt188 => (if bt188.2 = true then ((spec_l23Encode.f k bt188.1).bind fun t192 => (if 0 ≤ x1 then (if x1 ≤ (wrap64 ((wrap64 (x1 + 4)) + (wrap64 (2 * x9)))) then (if (wrap64 ((wrap64 (x1 + 4)) + (wrap64 (2 * x9)))) ≤ (x0.size : Int) then (if t192.toList = (x0.extract (x1 : Int).toNat ((wrap64 ((wrap64 (x1 + 4)) + (wrap64 (2 * x9)))) : Int).toNat).toList then (some (bt188.1, wrap64 (4 + (wrap64 (2 * x9))), 0)) else (some (([] : List Int), 0, 9))) else (none)) else (none)) else (none))) else (some (([] : List Int), 0, 9))))
end
def spec_DecodeClass.f (k : Nat) (a0 : ByteArray) (a1 : Int) : Option (List Int × Int × Int) := (spec_l00In.f a1 0 (a0.size : Int)).bind fun t176 => (if t176 = true then (if (wrap64 ((a0.size : Int) - a1)) < 4 then (some (([] : List Int), 0, 11)) else ((spec_l01Get.f k a0 a1 2).bind fun t177 => ((spec_l01Get.f k a0 (wrap64 (a1 + 2)) 2).bind fun t178 => (if t177 = 2 then (spec_DecodeClass.j0 k a0 a1 (a0.size : Int) t177 (wrap64 (t178 * 3))) else (spec_DecodeClass.j0 k a0 a1 (a0.size : Int) t177 t178))))) else (some (([] : List Int), 0, 2)))
theorem spec_DecodeClass.mono_l : ∀ k, (∀ y0 y1 y2 y3 y4, LeO (spec_DecodeClass.j0 k y0 y1 y2 y3 y4) (spec_DecodeClass.j0 (k + 1) y0 y1 y2 y3 y4)) ∧ (∀ y0 y1 y2 y3 y4, LeO (spec_DecodeClass.j1 k y0 y1 y2 y3 y4) (spec_DecodeClass.j1 (k + 1) y0 y1 y2 y3 y4)) ∧ (∀ y0 y1 y2 y3 y4 y5, LeO (spec_DecodeClass.l0 k y0 y1 y2 y3 y4 y5) (spec_DecodeClass.l0 (k + 1) y0 y1 y2 y3 y4 y5))
 | 0 => ⟨fun _ _ _ _ _ r h => by simp [spec_DecodeClass.j0] at h, fun _ _ _ _ _ r h => by simp [spec_DecodeClass.j1] at h, fun _ _ _ _ _ _ r h => by simp [spec_DecodeClass.l0] at h⟩
 | k + 1 => by
  obtain ⟨ih0, ih1, ih2⟩ := spec_DecodeClass.mono_l k
  refine ⟨?_, ?_, ?_⟩
  ·intro y0 y1 y2 y3 y4
   unfold spec_DecodeClass.j0
   repeat' first
   | (with_reducible exact ih0 _ _ _ _ _)
   | (with_reducible exact ih1 _ _ _ _ _)
   | (with_reducible exact ih2 _ _ _ _ _ _)
   | (with_reducible exact spec_l01Get.mono _ _ _ _)
   | (with_reducible exact spec_l23Decode.mono _ _ _)
   | (with_reducible exact spec_l23Encode.mono _ _)
   | (with_reducible exact LeO.refl _)
   | (with_reducible exact LeO.none _)
   | (with_reducible refine LeO.ite ?_ ?_)
   | (with_reducible refine LeO.bind ?_ (fun _ => ?_))
   | exact ih0 _ _ _ _ _
   | exact ih1 _ _ _ _ _
   | exact ih2 _ _ _ _ _ _
   | exact spec_l01Get.mono _ _ _ _
   | exact spec_l23Decode.mono _ _ _
   | exact spec_l23Encode.mono _ _
   | exact LeO.none _
   | refine LeO.ite ?_ ?_
   | refine LeO.bind ?_ (fun _ => ?_)
  ·intro y0 y1 y2 y3 y4
   unfold spec_DecodeClass.j1
   repeat' first
   | (with_reducible exact ih0 _ _ _ _ _)
   | (with_reducible exact ih1 _ _ _ _ _)
   | (with_reducible exact ih2 _ _ _ _ _ _)
   | (with_reducible exact spec_l01Get.mono _ _ _ _)
   | (with_reducible exact spec_l23Decode.mono _ _ _)
   | (with_reducible exact spec_l23Encode.mono _ _)
   | (with_reducible exact LeO.refl _)
   | (with_reducible exact LeO.none _)
   | (with_reducible refine LeO.ite ?_ ?_)
   | (with_reducible refine LeO.bind ?_ (fun _ => ?_))
   | exact ih0 _ _ _ _ _
   | exact ih1 _ _ _ _ _
   | exact ih2 _ _ _ _ _ _
   | exact spec_l01Get.mono _ _ _ _
   | exact spec_l23Decode.mono _ _ _
   | exact spec_l23Encode.mono _ _
   | exact LeO.none _
   | refine LeO.ite ?_ ?_
   | refine LeO.bind ?_ (fun _ => ?_)
  ·intro y0 y1 y2 y3 y4 y5
   unfold spec_DecodeClass.l0
   repeat' first
   | (with_reducible exact ih0 _ _ _ _ _)
   | (with_reducible exact ih1 _ _ _ _ _)
   | (with_reducible exact ih2 _ _ _ _ _ _)
   | (with_reducible exact spec_l01Get.mono _ _ _ _)
   | (with_reducible exact spec_l23Decode.mono _ _ _)
   | (with_reducible exact spec_l23Encode.mono _ _)
   | (with_reducible exact LeO.refl _)
   | (with_reducible exact LeO.none _)
   | (with_reducible refine LeO.ite ?_ ?_)
   | (with_reducible refine LeO.bind ?_ (fun _ => ?_))
   | exact ih0 _ _ _ _ _
   | exact ih1 _ _ _ _ _
   | exact ih2 _ _ _ _ _ _
   | exact spec_l01Get.mono _ _ _ _
   | exact spec_l23Decode.mono _ _ _
   | exact spec_l23Encode.mono _ _
   | exact LeO.none _
   | refine LeO.ite ?_ ?_
   | refine LeO.bind ?_ (fun _ => ?_)
theorem spec_DecodeClass.mono : ∀ a0 a1 k, LeO (spec_DecodeClass.f k a0 a1) (spec_DecodeClass.f (k + 1) a0 a1) := by
 intro a0 a1 k
 obtain ⟨ih0, ih1, ih2⟩ := spec_DecodeClass.mono_l k
 unfold spec_DecodeClass.f
 repeat' first
   | (with_reducible exact ih0 _ _ _ _ _)
   | (with_reducible exact ih1 _ _ _ _ _)
   | (with_reducible exact ih2 _ _ _ _ _ _)
   | (with_reducible exact spec_l01Get.mono _ _ _ _)
   | (with_reducible exact spec_l23Decode.mono _ _ _)
   | (with_reducible exact spec_l23Encode.mono _ _)
   | (with_reducible exact LeO.refl _)
   | (with_reducible exact LeO.none _)
   | (with_reducible refine LeO.ite ?_ ?_)
   | (with_reducible refine LeO.bind ?_ (fun _ => ?_))
   | exact ih0 _ _ _ _ _
   | exact ih1 _ _ _ _ _
   | exact ih2 _ _ _ _ _ _
   | exact spec_l01Get.mono _ _ _ _
   | exact spec_l23Decode.mono _ _ _
   | exact spec_l23Encode.mono _ _
   | exact LeO.none _
   | refine LeO.ite ?_ ?_
   | refine LeO.bind ?_ (fun _ => ?_)
def spec_DecodeClass.T20 : Bool × List (List Nat × List Nat) := (true, [([], []), ([0], [0]), ([1], [1]), ([2], [2]), ([3, 2, 2], [2, 3]), ([2], [2]), ([2], [2]), ([2], [2]), ([7, 2], [2, 7]), ([2], [2]), ([9, 2], [2, 9]), ([8, 10, 2], [2, 8, 10]), ([5, 6, 11, 2], [2, 5, 6, 11]), ([4, 12, 2], [2, 4, 12]), ([2, 13], [2, 13])])
def spec_DecodeClass.B20 : List Nat := [0, 1, 3, 7, 15, 7, 7, 7, 135, 7, 519, 1927, 4071, 8191, 16383]
theorem spec_DecodeClass.tab20 : rtab .any (opsOf Try.f16 20) = spec_DecodeClass.T20 := by kernel_rfl
theorem spec_DecodeClass.bits20 : waitsOk spec_DecodeClass.T20.2 spec_DecodeClass.B20 = true := by kernel_rfl
set_option maxHeartbeats 8000000 in
set_option maxRecDepth 100000 in
theorem spec_DecodeClass.calls (k : Nat) (a0 : ByteArray) (a1 : Int) (r1 : List Int) (r2 : Int) (r3 : Int) (w : World) (h : spec_DecodeClass.f k a0 a1 = some (r1, r2, r3)) :
  Calls Try.prog 16 #[.string a0, .int .i64 a1] w fun e w' => ∃ v0_ : Value, e = .returned (.tuple #[v0_, .int .i64 r2, .int .i64 r3]) ∧ Kd.R (Kd.int .i64) 2 w' w.heap.size (fun _ => True) v0_ r1 ∧ Below w.heap.size w w' := by
 have HB := aM (Below.refl w.heap.size w)
 have H : ((spec_l00In.f a1 0 (a0.size : Int)).bind fun t176 => (if t176 = true then (if (wrap64 ((a0.size : Int) - a1)) < 4 then (some (([] : List Int), 0, 11)) else ((spec_l01Get.f k a0 a1 2).bind fun t177 => ((spec_l01Get.f k a0 (wrap64 (a1 + 2)) 2).bind fun t178 => (if t177 = 2 then (spec_DecodeClass.j0 k a0 a1 (a0.size : Int) t177 (wrap64 (t178 * 3))) else (spec_DecodeClass.j0 k a0 a1 (a0.size : Int) t177 t178))))) else (some (([] : List Int), 0, 2)))) = some (r1, r2, r3) := h
 clear h
 replace H := Option.bind_eq_some_iff.mp H
 obtain ⟨t176, A30, H⟩ := H
 replace H : (if t176 = true then (if (wrap64 ((a0.size : Int) - a1)) < 4 then (some (([] : List Int), 0, 11)) else ((spec_l01Get.f k a0 a1 2).bind fun t177 => ((spec_l01Get.f k a0 (wrap64 (a1 + 2)) 2).bind fun t178 => (if t177 = 2 then (spec_DecodeClass.j0 k a0 a1 (a0.size : Int) t177 (wrap64 (t178 * 3))) else (spec_DecodeClass.j0 k a0 a1 (a0.size : Int) t177 t178))))) else (some (([] : List Int), 0, 2))) = some (r1, r2, r3) := H
 have A3 := aM A30
 clear A30
 by_cases c4 : t176 = true
 ·subst c4
  have H1 : (if (wrap64 ((a0.size : Int) - a1)) < 4 then (some (([] : List Int), 0, 11)) else ((spec_l01Get.f k a0 a1 2).bind fun t177 => ((spec_l01Get.f k a0 (wrap64 (a1 + 2)) 2).bind fun t178 => (if t177 = 2 then (spec_DecodeClass.j0 k a0 a1 (a0.size : Int) t177 (wrap64 (t178 * 3))) else (spec_DecodeClass.j0 k a0 a1 (a0.size : Int) t177 t178))))) = some (r1, r2, r3) := by rw [if_pos rfl] at H; exact H
  clear H
  have H := H1
  clear H1
  by_cases c5 : (wrap64 ((a0.size : Int) - a1)) < 4
  ·rw [if_pos c5] at H
   have c5b0 : decide ((wrap64 ((a0.size : Int) - a1)) < 4) = true := decide_eq_true c5
   clear c5
   simp only [Option.some.injEq, Prod.mk.injEq] at H
   obtain ⟨rfl, rfl, rfl⟩ := H
   go_enter Try.func16, Try.ntmps16
   go_wp2_with (first | ((with_reducible refine gate_callee (f := 54) rfl ?_); refine goesL_ (some 18) rfl rfl Try.func54 (by kernel_rfl) rfl #[.int .i64 a1, .int .i64 0, .int .i64 (a0.size : Int)] rfl gQ ?_; (with_reducible refine (spec_l00In.calls a1 0 (a0.size : Int) true _ A3.out).mono ?_); rintro e w' ⟨rfl, ⟨nd, rfl⟩⟩; refine ⟨_, rfl, ?_⟩))
   go_ret3
   exact ⟨_, eQ, by first | exact Kd.R_nil _ _ _ _ _ | exact Kd.N_nil _ _ _ _ _ | exact Kd.V_nil _ _ _ _ _ | exact Kd.Q_nil _ _ _ _ _ | exact Kd.S_nil _ _ _ _ _, bQ⟩
  ·rw [if_neg c5] at H
   have c5b0 : decide ((wrap64 ((a0.size : Int) - a1)) < 4) = false := decide_eq_false c5
   clear c5
   replace H := Option.bind_eq_some_iff.mp H
   obtain ⟨t177, A60, H⟩ := H
   replace H : ((spec_l01Get.f k a0 (wrap64 (a1 + 2)) 2).bind fun t178 => (if t177 = 2 then (spec_DecodeClass.j0 k a0 a1 (a0.size : Int) t177 (wrap64 (t178 * 3))) else (spec_DecodeClass.j0 k a0 a1 (a0.size : Int) t177 t178))) = some (r1, r2, r3) := H
   have A6 := aM A60
   clear A60
   replace H := Option.bind_eq_some_iff.mp H
   obtain ⟨t178, A70, H⟩ := H
   replace H : (if t177 = 2 then (spec_DecodeClass.j0 k a0 a1 (a0.size : Int) t177 (wrap64 (t178 * 3))) else (spec_DecodeClass.j0 k a0 a1 (a0.size : Int) t177 t178)) = some (r1, r2, r3) := H
   have A7 := aM A70
   clear A70
   have HC8 := aM H
   clear H
   go_enter Try.func16, Try.ntmps16
   go_upto_if 32 with (first | ((with_reducible refine gate_callee (f := 54) rfl ?_); refine goesL_ (some 18) rfl rfl Try.func54 (by kernel_rfl) rfl #[.int .i64 a1, .int .i64 0, .int .i64 (a0.size : Int)] rfl gQ ?_; (with_reducible refine (spec_l00In.calls a1 0 (a0.size : Int) true _ A3.out).mono ?_); rintro e w' ⟨rfl, ⟨nd, rfl⟩⟩; refine ⟨_, rfl, ?_⟩) | ((with_reducible refine gate_callee (f := 55) rfl ?_); refine goesL_ (some 26) rfl rfl Try.func55 (by kernel_rfl) rfl #[.string a0, .int .i64 a1, .int .i64 2] rfl gQ ?_; (with_reducible refine (spec_l01Get.calls k a0 a1 2 t177 _ A6.out).mono ?_); rintro e w' ⟨rfl, ⟨nd, rfl⟩⟩; refine ⟨_, rfl, ?_⟩) | ((with_reducible refine gate_callee (f := 55) rfl ?_); refine goesL_ (some 30) rfl rfl Try.func55 (by kernel_rfl) rfl #[.string a0, .int .i64 (wrap64 (a1 + 2)), .int .i64 2] rfl gQ ?_; (with_reducible refine (spec_l01Get.calls k a0 (wrap64 (a1 + 2)) 2 t178 _ A7.out).mono ?_); rintro e w' ⟨rfl, ⟨nd, rfl⟩⟩; refine ⟨_, rfl, ?_⟩))
   (try simp only [Act.put, sI, sZ, sS])
   go_cut [9] (fun v9 wc => ∃ (kq : Nat) (x9_7 : Int), v9 = .int .i64 x9_7 ∧ Aside0 (spec_DecodeClass.j0 kq a0 a1 (a0.size : Int) t177 x9_7 = some (r1, r2, r3)) ∧ Aside0 (kq ≤ k) ∧ Aside0 (Below w.heap.size w wc))
   case first =>
    have H := HC8.out
    clear HC8
    by_cases c9 : t177 = 2
    ·rw [if_pos c9] at H
     have c9b0 : (t177 == 2) = true := beq_iff_eq.mpr c9
     have c9b1 : (t177 != 2) = false := bne_eq_false_iff_eq.mpr c9
     clear c9
     (first | rw [c9b0] | (simp only [i64_w, i32_w]; rw [c9b0]) | rw [c9b1] | rw [c9b2] | rw [c9b3] | rw [c9b4] | skip)
     have H' := aM H
     clear H
     go_wp2
     go_meet
     case rel => exact ⟨_, (wrap64 (t178 * 3)), rQ, H', ⟨by first | omega | exact Nat.le_refl _⟩, ⟨bQ⟩⟩
    ·rw [if_neg c9] at H
     have c9b0 : (t177 == 2) = false := beq_eq_false_iff_ne.mpr c9
     have c9b1 : (t177 != 2) = true := bne_iff_ne.mpr c9
     (first | rw [c9b0] | (simp only [i64_w, i32_w]; rw [c9b0]) | rw [c9b1] | rw [c9b2] | rw [c9b3] | rw [c9b4] | skip)
     have H' := aM H
     clear H
     go_wp2
     go_meet
     case rel => exact ⟨_, (t178), rQ, H', ⟨by first | omega | exact Nat.le_refl _⟩, ⟨bQ⟩⟩
   case rest =>
    clear HC8
    try clear c1
    try clear p2
    try clear c4
    try clear c5
    try clear c5b0
    try clear p6
    try clear c9
    try clear c9b0
    try clear c9b1
    try clear c9b2
    obtain ⟨kq, x9_7, rfl, HA, HJ7, HB⟩ := hcut
    cases kq with
    | zero => exact absurd HA.out (by simp [spec_DecodeClass.j0])
    | succ kj7 =>
     have H := HA.out
     clear HA
     simp only [spec_DecodeClass.j0] at H
     have HC10 := aM H
     clear H
     go_upto_region 10 with (fail)
     go_cut [45] (fun v45 wc => ∃ (kq : Nat) (x45_9 : Bool), v45 = .bool x45_9 ∧ Aside0 (spec_DecodeClass.j1 kq a0 a1 t177 x9_7 x45_9 = some (r1, r2, r3)) ∧ Aside0 (kq ≤ kj7) ∧ Aside0 (Below w.heap.size w wc))
     case first =>
      have H := HC10.out
      clear HC10
      replace H := Option.bind_eq_some_iff.mp H
      obtain ⟨t179, A110, H⟩ := H
      replace H : (if t179 = true then (spec_DecodeClass.j1 kj7 a0 a1 t177 x9_7 (decide ((wrap64 ((a0.size : Int) - a1)) < (wrap64 (4 + (wrap64 (2 * x9_7))))))) else (spec_DecodeClass.j1 kj7 a0 a1 t177 x9_7 false)) = some (r1, r2, r3) := H
      have A11 := aM A110
      clear A110
      by_cases c12 : t179 = true
      ·subst c12
       have H1 : (spec_DecodeClass.j1 kj7 a0 a1 t177 x9_7 (decide ((wrap64 ((a0.size : Int) - a1)) < (wrap64 (4 + (wrap64 (2 * x9_7))))))) = some (r1, r2, r3) := by rw [if_pos rfl] at H; exact H
       clear H
       have H := H1
       clear H1
       have H' := aM H
       clear H
       go_wp2_with (first | ((with_reducible refine gate_callee (f := 54) rfl ?_); refine goesL_ (some 36) rfl rfl Try.func54 (by kernel_rfl) rfl #[.int .i64 t177, .int .i64 1, .int .i64 2] rfl gQ ?_; (with_reducible refine (spec_l00In.calls t177 1 2 true _ A11.out).mono ?_); rintro e w' ⟨rfl, ⟨nd, rfl⟩⟩; refine ⟨_, rfl, ?_⟩))
       go_meet
       case rel => exact ⟨_, (decide ((wrap64 ((a0.size : Int) - a1)) < (wrap64 (4 + (wrap64 (2 * x9_7)))))), rQ, H', ⟨by have := HJ7.out; first | omega | exact Nat.le_refl _⟩, ⟨bQ⟩⟩
      ·replace c12 := Bool.eq_false_iff.mpr c12
       subst c12
       have H1 : (spec_DecodeClass.j1 kj7 a0 a1 t177 x9_7 false) = some (r1, r2, r3) := by rw [if_neg (show ¬ (false = true) by decide)] at H; exact H
       clear H
       have H := H1
       clear H1
       have H' := aM H
       clear H
       go_wp2_with (first | ((with_reducible refine gate_callee (f := 54) rfl ?_); refine goesL_ (some 36) rfl rfl Try.func54 (by kernel_rfl) rfl #[.int .i64 t177, .int .i64 1, .int .i64 2] rfl gQ ?_; (with_reducible refine (spec_l00In.calls t177 1 2 false _ A11.out).mono ?_); rintro e w' ⟨rfl, ⟨nd, rfl⟩⟩; refine ⟨_, rfl, ?_⟩))
       go_meet
       case rel => exact ⟨_, (false), rQ, H', ⟨by have := HJ7.out; first | omega | exact Nat.le_refl _⟩, ⟨bQ⟩⟩
     case rest =>
      clear HC10
      try clear c1
      try clear p2
      try clear c4
      try clear c5
      try clear c5b0
      try clear p6
      try clear c9
      try clear c9b0
      try clear c9b1
      try clear c9b2
      try clear c12
      try clear p2
      try clear p6
      obtain ⟨kq, x45_9, rfl, HA, HJ9, HB⟩ := hcut
      cases kq with
      | zero => exact absurd HA.out (by simp [spec_DecodeClass.j1])
      | succ kj9 =>
       have H := HA.out
       clear HA
       simp only [spec_DecodeClass.j1] at H
       by_cases c13 : x45_9 = true
       ·subst c13
        have H1 : (some (([] : List Int), 0, 11)) = some (r1, r2, r3) := by rw [if_pos rfl] at H; exact H
        clear H
        have H := H1
        clear H1
        simp only [Option.some.injEq, Prod.mk.injEq] at H
        obtain ⟨rfl, rfl, rfl⟩ := H
        go_wp2
        go_ret3
        exact ⟨_, eQ, by first | exact Kd.R_nil _ _ _ _ _ | exact Kd.N_nil _ _ _ _ _ | exact Kd.V_nil _ _ _ _ _ | exact Kd.Q_nil _ _ _ _ _ | exact Kd.S_nil _ _ _ _ _, bQ⟩
       ·replace c13 := Bool.eq_false_iff.mpr c13
        subst c13
        have H1 : ((spec_l00In.f t177 1 2).bind fun t180 => (if t180 = true then (spec_DecodeClass.l0 kj9 a0 a1 t177 x9_7 (([] : List Int)) 0) else (some (([] : List Int), 0, 9)))) = some (r1, r2, r3) := by rw [if_neg (show ¬ (false = true) by decide)] at H; exact H
        clear H
        have H := H1
        clear H1
        replace H := Option.bind_eq_some_iff.mp H
        obtain ⟨t180, A140, H⟩ := H
        replace H : (if t180 = true then (spec_DecodeClass.l0 kj9 a0 a1 t177 x9_7 (([] : List Int)) 0) else (some (([] : List Int), 0, 9))) = some (r1, r2, r3) := H
        have A14 := aM A140
        clear A140
        by_cases c15 : t180 = true
        ·subst c15
         have H1 : (spec_DecodeClass.l0 kj9 a0 a1 t177 x9_7 (([] : List Int)) 0) = some (r1, r2, r3) := by rw [if_pos rfl] at H; exact H
         clear H
         have H := H1
         clear H1
         obtain ⟨y181, hy181⟩ : ∃ y_ : List Int, y_ = (([] : List Int)) := ⟨_, rfl⟩
         replace H : (spec_DecodeClass.l0 kj9 a0 a1 t177 x9_7 y181 0) = some (r1, r2, r3) := by first | (rw [hy181]; with_reducible exact H) | (have H2_ := bS H; rw [hy181]; with_reducible exact H2_) | (have H2_ := bS H; with_reducible exact H2_) | with_reducible exact H | (rw [hy181]; exact H) | exact H
         have Ny181 := aM hy181
         clear hy181
         have H' := aM H
         clear H
         go_wp2_with (first | ((with_reducible refine gate_callee (f := 54) rfl ?_); refine goesL_ (some 47) rfl rfl Try.func54 (by kernel_rfl) rfl #[.int .i64 t177, .int .i64 1, .int .i64 2] rfl gQ ?_; (with_reducible refine (spec_l00In.calls t177 1 2 true _ A14.out).mono ?_); rintro e w' ⟨rfl, ⟨nd, rfl⟩⟩; refine ⟨_, rfl, ?_⟩) | ((with_reducible refine gate_dst (N := 49) rfl ?_); refine Kd.R_lit (Kd.int .i64) _ 2 ?hg (N := 49) ?hd (xs := ([] : List Int)) (inner := []) (ok := fun _ => True) (okp := fun _ => True) ?hr ?hp (fun _ hk => hk) trivial (Below.refl _ _) (Nat.le_refl _) (by simp) ?_; (case hd => rfl); (case hg => rfl); (case hr => first | (go_simp; done) | (go_simp; rfl)); (case hp => exact (Reps.none _ _)); intro v182 w16 ho17 hb hg_ hnew_; clear hg_ hnew_; (first | rw [← Ny181.out] at ho17 | (simp only [Int.reduceToNat] at ho17; rw [← Ny181.out] at ho17)); have n0_ := aM (Kd.R_lower ho17 (below_size bQ)); have n1_ := aM (below_step bQ hb); clear HB; have HO183 := n0_; have HB := n1_; clear n0_ n1_; clear hb ho17))
         go_loopg [10, 11] kj9 (fun kq v10 v11 w' => ∃ (x10_3 : List Int) (x11_3 : Int), v11 = .int .i64 x11_3 ∧ Aside0 (spec_DecodeClass.l0 kq a0 a1 t177 x9_7 x10_3 x11_3 = some (r1, r2, r3)) ∧ Aside0 (kq ≤ kj9) ∧ Aside0 (Kd.R (Kd.int .i64) 2 w' w.heap.size (fun _ => True) v10 x10_3) ∧ Aside0 (Below w.heap.size w w'))
         case atStart => exact ⟨(y181), (0), rQ, H', ⟨Nat.le_refl _⟩, ⟨by (with_reducible repeat (first | apply rA | apply rN | apply rD)); exact HO183.out⟩, ⟨bQ⟩⟩
         case round =>
          clear H'
          try clear c1
          try clear p2
          try clear c4
          try clear c5
          try clear c5b0
          try clear p6
          try clear c9
          try clear c9b0
          try clear c9b1
          try clear c9b2
          try clear c12
          try clear c13
          try clear c15
          try clear c16
          try clear p2
          try clear p6
          obtain ⟨x10_3, x11_3, rfl, HA, HK3, HO_10, HB⟩ := hrel
          cases gk with
          | zero => exact absurd HA.out (by simp [spec_DecodeClass.l0])
          | succ k3 =>
           have H := HA.out
           clear HA
           simp only [spec_DecodeClass.l0] at H
           by_cases c18 : x11_3 < x9_7
           ·rw [if_pos c18] at H
            have c18b0 : decide (x11_3 < x9_7) = true := decide_eq_true c18
            clear c18
            replace H := Option.bind_eq_some_iff.mp H
            obtain ⟨t184, A190, H⟩ := H
            replace H : (if x10_3.length < 17592186044416 then (spec_DecodeClass.l0 k3 a0 a1 t177 x9_7 (x10_3 ++ [t184]) (wrap64 (x11_3 + 1))) else (none)) = some (r1, r2, r3) := H
            have A19 := aM A190
            clear A190
            by_cases c20 : x10_3.length < 17592186044416
            ·rw [if_pos c20] at H
             have LMc20 := aM c20
             clear c20
             obtain ⟨y185, hy185⟩ : ∃ y_ : List Int, y_ = (x10_3 ++ [t184]) := ⟨_, rfl⟩
             replace H : (spec_DecodeClass.l0 k3 a0 a1 t177 x9_7 y185 (wrap64 (x11_3 + 1))) = some (r1, r2, r3) := by first | (rw [hy185]; with_reducible exact H) | (have H2_ := bS H; rw [hy185]; with_reducible exact H2_) | (have H2_ := bS H; with_reducible exact H2_) | with_reducible exact H | (rw [hy185]; exact H) | exact H
             have Ny185 := aM hy185
             clear hy185
             have H' := aM H
             clear H
             go_wp2_with (first | ((with_reducible refine gate_callee (f := 55) rfl ?_); refine goesL_ (some 62) rfl rfl Try.func55 (by kernel_rfl) rfl #[.string a0, .int .i64 (wrap64 ((wrap64 (a1 + 4)) + (wrap64 (2 * x11_3)))), .int .i64 2] rfl gQ ?_; (with_reducible refine (spec_l01Get.calls k3 a0 (wrap64 ((wrap64 (a1 + 4)) + (wrap64 (2 * x11_3)))) 2 t184 _ A19.out).mono ?_); rintro e w' ⟨rfl, ⟨nd, rfl⟩⟩; refine ⟨_, rfl, ?_⟩) | ((with_reducible refine gate_builtin (b := .append) (xs := #[.tmp 55, .tmp 63]) rfl ?_); at_builtin; refine Kd.R_append (Kd.int .i64) (w0 := w) w.heap.size rfl (.tmp 55) (.tmp 63) 22 2 (.int .i64 0) 8 rfl Try.underlying22 info2 rfl (by decide) (by omega) u10 x10_3 t184 [.int .i64 t184] (fun _ => True) (fun _ => False) rfl rfl ?aP (fun _ hk => hk.elim) ?aF ?aO ?aB ?aS ?aL ?_; (case aP => exact rfl); (case aB => exact bQ); (case aF => exact (fun _ _ => trivial)); (case aO => exact (by (with_reducible repeat (first | apply rA | apply rN | apply rD)); exact HO_10.out)); (case aS => exact (below_size bQ)); (case aL => have := LMc20.out; omega); intro v186 w21 ho hb hg hat; rw [← Ny185.out] at ho; have n0_ := aM (hb); have n1_ := aM (ho); clear HB; clear HO_10; have HB := n0_; have HO187 := n1_; clear n0_ n1_; clear ho hb hg hat))
             go_roundg k3
             case measure => have := HJ7.out; have := HJ9.out; have := HK3.out; omega
             case rel => exact ⟨(y185), (wrap64 (x11_3 + 1)), rQ, H', ⟨by have := HJ7.out; have := HJ9.out; have := HK3.out; omega⟩, ⟨by (with_reducible repeat (first | apply rA | apply rN | apply rD)); exact HO187.out⟩, ⟨bQ⟩⟩
            ·rw [if_neg c20] at H
             exact absurd H (by simp)
           ·rw [if_neg c18] at H
            have c18b0 : decide (x11_3 < x9_7) = false := decide_eq_false c18
            clear c18
            replace H := Option.bind_eq_some_iff.mp H
            obtain ⟨⟨t188, t191⟩, A220, H⟩ := H
            replace H : (if t191 = true then ((spec_l23Encode.f k3 t188).bind fun t192 => (if 0 ≤ a1 then (if a1 ≤ (wrap64 ((wrap64 (a1 + 4)) + (wrap64 (2 * x9_7)))) then (if (wrap64 ((wrap64 (a1 + 4)) + (wrap64 (2 * x9_7)))) ≤ (a0.size : Int) then (if t192.toList = (a0.extract (a1 : Int).toNat ((wrap64 ((wrap64 (a1 + 4)) + (wrap64 (2 * x9_7)))) : Int).toNat).toList then (some (t188, wrap64 (4 + (wrap64 (2 * x9_7))), 0)) else (some (([] : List Int), 0, 9))) else (none)) else (none)) else (none))) else (some (([] : List Int), 0, 9))) = some (r1, r2, r3) := H
            have A22 := aM A220
            clear A220
            by_cases c23 : t191 = true
            ·subst c23
             have H1 : ((spec_l23Encode.f k3 t188).bind fun t192 => (if 0 ≤ a1 then (if a1 ≤ (wrap64 ((wrap64 (a1 + 4)) + (wrap64 (2 * x9_7)))) then (if (wrap64 ((wrap64 (a1 + 4)) + (wrap64 (2 * x9_7)))) ≤ (a0.size : Int) then (if t192.toList = (a0.extract (a1 : Int).toNat ((wrap64 ((wrap64 (a1 + 4)) + (wrap64 (2 * x9_7)))) : Int).toNat).toList then (some (t188, wrap64 (4 + (wrap64 (2 * x9_7))), 0)) else (some (([] : List Int), 0, 9))) else (none)) else (none)) else (none))) = some (r1, r2, r3) := by rw [if_pos rfl] at H; exact H
             clear H
             have H := H1
             clear H1
             replace H := Option.bind_eq_some_iff.mp H
             obtain ⟨t192, A240, H⟩ := H
             replace H : (if 0 ≤ a1 then (if a1 ≤ (wrap64 ((wrap64 (a1 + 4)) + (wrap64 (2 * x9_7)))) then (if (wrap64 ((wrap64 (a1 + 4)) + (wrap64 (2 * x9_7)))) ≤ (a0.size : Int) then (if t192.toList = (a0.extract (a1 : Int).toNat ((wrap64 ((wrap64 (a1 + 4)) + (wrap64 (2 * x9_7)))) : Int).toNat).toList then (some (t188, wrap64 (4 + (wrap64 (2 * x9_7))), 0)) else (some (([] : List Int), 0, 9))) else (none)) else (none)) else (none)) = some (r1, r2, r3) := H
             have A24 := aM A240
             clear A240
             by_cases c25 : 0 ≤ a1
             ·rw [if_pos c25] at H
              have c25b0 := eq_true c25
              have c25b1 : decide (0 ≤ a1) = true := decide_eq_true c25
              clear c25
              by_cases c26 : a1 ≤ (wrap64 ((wrap64 (a1 + 4)) + (wrap64 (2 * x9_7))))
              ·rw [if_pos c26] at H
               have c26b0 := eq_true c26
               have c26b1 : decide (a1 ≤ (wrap64 ((wrap64 (a1 + 4)) + (wrap64 (2 * x9_7))))) = true := decide_eq_true c26
               by_cases c27 : (wrap64 ((wrap64 (a1 + 4)) + (wrap64 (2 * x9_7)))) ≤ (a0.size : Int)
               ·rw [if_pos c27] at H
                have c27b0 := eq_true c27
                have c27b1 : decide ((wrap64 ((wrap64 (a1 + 4)) + (wrap64 (2 * x9_7)))) ≤ (a0.size : Int)) = true := decide_eq_true c27
                by_cases c28 : t192.toList = (a0.extract (a1 : Int).toNat ((wrap64 ((wrap64 (a1 + 4)) + (wrap64 (2 * x9_7)))) : Int).toNat).toList
                ·rw [if_pos c28] at H
                 have c28b0 : (t192.toList == (a0.extract (a1 : Int).toNat ((wrap64 ((wrap64 (a1 + 4)) + (wrap64 (2 * x9_7)))) : Int).toNat).toList) = true := beq_iff_eq.mpr c28
                 have c28b1 : (t192.toList != (a0.extract (a1 : Int).toNat ((wrap64 ((wrap64 (a1 + 4)) + (wrap64 (2 * x9_7)))) : Int).toNat).toList) = false := bne_eq_false_iff_eq.mpr c28
                 clear c28
                 simp only [Option.some.injEq, Prod.mk.injEq] at H
                 obtain ⟨rfl, rfl, rfl⟩ := H
                 obtain ⟨Ao29, co29, eo29⟩ := Kd.R_slice HO_10.out
                 subst eo29
                 try go_wp2_with (first | ((with_reducible refine gate_callee (f := 56) rfl ?_); refine goesL_ (some 68) rfl rfl Try.func56 (by kernel_rfl) rfl #[.int .i64 t177, .slice Ao29 x10_3.length co29] rfl gQ ?_; (with_reducible refine (spec_l23Decode.calls k3 t177 (fun k_ => some k_ = (.slice Ao29 x10_3.length co29 : Value).ownBlock) (.slice Ao29 x10_3.length co29) x10_3 t188 true w _ ?side1 ?side2 A22.out).mono ?_); (case side1 => repeat (first | (with_reducible first | exact HB.out | apply bA | apply bN | apply bD) | exact HB.out)); (case side2 => exact Kd.R_tight rfl HO_10.out); rintro e w30 ⟨v189, rfl, ho0, hb, hkp⟩; refine ⟨_, rfl, ?_⟩; have n0_ := aM (Kd.R_mono (ok' := fun k_ => True) ho0 (fun k_ hk_ => trivial)); have n1_ := aM (hb); clear HB; clear HO_10; have HO190 := n0_; have HB := n1_; clear n0_ n1_; (try clear hb); (try clear hkp); (try clear ho0)))
                 have n0_ := aM (Kd.R_drew HO190.out)
                 have n1_ := aM (below_drew1 HB.out)
                 clear HO190
                 clear HB
                 have HO190 := n0_
                 have HB := n1_
                 clear n0_ n1_
                 obtain ⟨Ao32, co32, eo32⟩ := Kd.R_slice HO190.out
                 (first | subst eo32 | (injection eo32 with f1_ f2_ f3_; have f4_ := f1_.symm; have f5_ := f3_.symm; clear f1_ f2_ f3_; subst f4_; subst f5_))
                 refine start_ (n := 15) (S := fun w' => True) (ds := []) mkspec_D607_0 (by kernel_rfl) rfl rfl trivial (fun hHeld => ?_); refine with_tabW spec_DecodeClass.tab20 spec_DecodeClass.bits20 (fun HT_ HW_ => ?_)
                 generalize w30.drew = w31 at HO190 HB hHeld ⊢
                 refine pQ (i := 0) (N := some 71) mkspec_D607_1 ?_
                 refine pQ (i := 1) (N := some 72) mkspec_D607_2 ?_
                 refine pQ (i := 2) (N := some 73) mkspec_D607_3 ?_
                 refine pQ (i := 3) (N := some 74) mkspec_D607_4 ?_
                 refine pQ (i := 5) (N := some 76) mkspec_D607_5 ?_
                 refine pQ (i := 6) (N := some 77) mkspec_D607_7 ?_
                 refine pQ (i := 7) (N := some 78) mkspec_D607_9 ?_
                 refine pQ (i := 8) (N := some 79) mkspec_D607_11 ?_
                 refine pQ (i := 9) (N := some 80) mkspec_D607_13 ?_
                 refine pQ (i := 10) (N := some 81) mkspec_D607_15 ?_
                 refine pQ (i := 11) (N := some 82) mkspec_D607_17 ?_
                 refine pQ (i := 12) (N := some 83) mkspec_D607_19 ?_
                 refine one_ (i := 4) (N := some 75) mkspec_D607_21 rfl rfl (one_of HT_.out (by kernel_rfl)) (by decide) (fun K hK => ?_)
                 refine goes_ Try.func57 (by kernel_rfl) rfl #[.slice Ao32 t188.length co32] (by rfl) rfl rfl gQ ?_
                 with_reducible refine (spec_l23Encode.calls k3 _ _ t188 t192 _ ?side1 ?side2 A24.out).mono ?_
                 (case side1 => repeat (first | exact (Kd.R_reads' HO190.out).2.2 | (with_reducible first | refine cA ?_ _ | refine cN ?_ _ | refine cD ?_)))
                 (case side2 => exact (Kd.R_reads' HO190.out).2.1)
                 rintro e w33 ⟨rfl, hb⟩
                 refine ⟨_, rfl, ?_⟩
                 have n0_ := aM (Kd.R_below (by (with_reducible repeat (first | apply rA | apply rN | apply rD)); exact HO190.out) hb)
                 have n1_ := aM (below_step bQ hb)
                 clear HO190
                 clear HB
                 have HO190 := n0_
                 have HB := n1_
                 clear n0_ n1_
                 (try clear hb)
                 (try clear hb2)
                 (try clear hk)
                 (try clear hi)
                 refine hK.out _ _ trivial (fun hHeld => ?_)
                 clear hK K
                 refine norm_ (a' := ?_) ?_ ?_
                 rotate_left
                 ·show Act.put _ (some 75) _ = _
                  simp only [Act.put, sI, sZ, sS, i64_w, i32_w]
                  rfl
                 refine pQ (i := 13) (N := some 84) mkspec_D607_22 ?_
                 refine pQ (i := 14) (N := some 85) mkspec_D607_23 ?_
                 refine done_ (done_of HT_.out (by kernel_rfl)) ?_
                 try go_wp2
                 go_ret3
                 exact ⟨_, eQ, by (with_reducible repeat (first | apply rA | apply rN | apply rD)); exact HO190.out, bQ⟩
                ·rw [if_neg c28] at H
                 have c28b0 : (t192.toList == (a0.extract (a1 : Int).toNat ((wrap64 ((wrap64 (a1 + 4)) + (wrap64 (2 * x9_7)))) : Int).toNat).toList) = false := beq_eq_false_iff_ne.mpr c28
                 have c28b1 : (t192.toList != (a0.extract (a1 : Int).toNat ((wrap64 ((wrap64 (a1 + 4)) + (wrap64 (2 * x9_7)))) : Int).toNat).toList) = true := bne_iff_ne.mpr c28
                 simp only [Option.some.injEq, Prod.mk.injEq] at H
                 obtain ⟨rfl, rfl, rfl⟩ := H
                 obtain ⟨Ao34, co34, eo34⟩ := Kd.R_slice HO_10.out
                 subst eo34
                 try go_wp2_with (first | ((with_reducible refine gate_callee (f := 56) rfl ?_); refine goesL_ (some 68) rfl rfl Try.func56 (by kernel_rfl) rfl #[.int .i64 t177, .slice Ao34 x10_3.length co34] rfl gQ ?_; (with_reducible refine (spec_l23Decode.calls k3 t177 (fun k_ => some k_ = (.slice Ao34 x10_3.length co34 : Value).ownBlock) (.slice Ao34 x10_3.length co34) x10_3 t188 true w _ ?side1 ?side2 A22.out).mono ?_); (case side1 => repeat (first | (with_reducible first | exact HB.out | apply bA | apply bN | apply bD) | exact HB.out)); (case side2 => exact Kd.R_tight rfl HO_10.out); rintro e w35 ⟨v189, rfl, ho0, hb, hkp⟩; refine ⟨_, rfl, ?_⟩; have n0_ := aM (Kd.R_mono (ok' := fun k_ => True) ho0 (fun k_ hk_ => trivial)); have n1_ := aM (hb); clear HB; clear HO_10; have HO190 := n0_; have HB := n1_; clear n0_ n1_; (try clear hb); (try clear hkp); (try clear ho0)))
                 have n0_ := aM (Kd.R_drew HO190.out)
                 have n1_ := aM (below_drew1 HB.out)
                 clear HO190
                 clear HB
                 have HO190 := n0_
                 have HB := n1_
                 clear n0_ n1_
                 obtain ⟨Ao37, co37, eo37⟩ := Kd.R_slice HO190.out
                 (first | subst eo37 | (injection eo37 with f1_ f2_ f3_; have f4_ := f1_.symm; have f5_ := f3_.symm; clear f1_ f2_ f3_; subst f4_; subst f5_))
                 refine start_ (n := 15) (S := fun w' => True) (ds := []) mkspec_D607_0 (by kernel_rfl) rfl rfl trivial (fun hHeld => ?_); refine with_tabW spec_DecodeClass.tab20 spec_DecodeClass.bits20 (fun HT_ HW_ => ?_)
                 generalize w35.drew = w36 at HO190 HB hHeld ⊢
                 refine pQ (i := 0) (N := some 71) mkspec_D607_1 ?_
                 refine pQ (i := 1) (N := some 72) mkspec_D607_2 ?_
                 refine pQ (i := 2) (N := some 73) mkspec_D607_3 ?_
                 refine pQ (i := 3) (N := some 74) mkspec_D607_4 ?_
                 refine pQ (i := 5) (N := some 76) mkspec_D607_5 ?_
                 refine pQ (i := 6) (N := some 77) mkspec_D607_7 ?_
                 refine pQ (i := 7) (N := some 78) mkspec_D607_9 ?_
                 refine pQ (i := 8) (N := some 79) mkspec_D607_11 ?_
                 refine pQ (i := 9) (N := some 80) mkspec_D607_13 ?_
                 refine pQ (i := 10) (N := some 81) mkspec_D607_15 ?_
                 refine pQ (i := 11) (N := some 82) mkspec_D607_17 ?_
                 refine pQ (i := 12) (N := some 83) mkspec_D607_19 ?_
                 refine one_ (i := 4) (N := some 75) mkspec_D607_21 rfl rfl (one_of HT_.out (by kernel_rfl)) (by decide) (fun K hK => ?_)
                 refine goes_ Try.func57 (by kernel_rfl) rfl #[.slice Ao37 t188.length co37] (by rfl) rfl rfl gQ ?_
                 with_reducible refine (spec_l23Encode.calls k3 _ _ t188 t192 _ ?side1 ?side2 A24.out).mono ?_
                 (case side1 => repeat (first | exact (Kd.R_reads' HO190.out).2.2 | (with_reducible first | refine cA ?_ _ | refine cN ?_ _ | refine cD ?_)))
                 (case side2 => exact (Kd.R_reads' HO190.out).2.1)
                 rintro e w38 ⟨rfl, hb⟩
                 refine ⟨_, rfl, ?_⟩
                 have n0_ := aM (Kd.R_below (by (with_reducible repeat (first | apply rA | apply rN | apply rD)); exact HO190.out) hb)
                 have n1_ := aM (below_step bQ hb)
                 clear HO190
                 clear HB
                 have HO190 := n0_
                 have HB := n1_
                 clear n0_ n1_
                 (try clear hb)
                 (try clear hb2)
                 (try clear hk)
                 (try clear hi)
                 refine hK.out _ _ trivial (fun hHeld => ?_)
                 clear hK K
                 refine norm_ (a' := ?_) ?_ ?_
                 rotate_left
                 ·show Act.put _ (some 75) _ = _
                  simp only [Act.put, sI, sZ, sS, i64_w, i32_w]
                  rfl
                 refine pQ (i := 13) (N := some 84) mkspec_D607_22 ?_
                 refine pQ (i := 14) (N := some 85) mkspec_D607_23 ?_
                 refine done_ (done_of HT_.out (by kernel_rfl)) ?_
                 try go_wp2
                 go_ret3
                 exact ⟨_, eQ, by first | exact Kd.R_nil _ _ _ _ _ | exact Kd.N_nil _ _ _ _ _ | exact Kd.V_nil _ _ _ _ _ | exact Kd.Q_nil _ _ _ _ _ | exact Kd.S_nil _ _ _ _ _, bQ⟩
               ·rw [if_neg c27] at H
                exact absurd H (by simp)
              ·rw [if_neg c26] at H
               exact absurd H (by simp)
             ·rw [if_neg c25] at H
              exact absurd H (by simp)
            ·replace c23 := Bool.eq_false_iff.mpr c23
             subst c23
             have H1 : (some (([] : List Int), 0, 9)) = some (r1, r2, r3) := by rw [if_neg (show ¬ (false = true) by decide)] at H; exact H
             clear H
             have H := H1
             clear H1
             simp only [Option.some.injEq, Prod.mk.injEq] at H
             obtain ⟨rfl, rfl, rfl⟩ := H
             obtain ⟨Ao39, co39, eo39⟩ := Kd.R_slice HO_10.out
             subst eo39
             try go_wp2_with (first | ((with_reducible refine gate_callee (f := 56) rfl ?_); refine goesL_ (some 68) rfl rfl Try.func56 (by kernel_rfl) rfl #[.int .i64 t177, .slice Ao39 x10_3.length co39] rfl gQ ?_; (with_reducible refine (spec_l23Decode.calls k3 t177 (fun k_ => some k_ = (.slice Ao39 x10_3.length co39 : Value).ownBlock) (.slice Ao39 x10_3.length co39) x10_3 t188 false w _ ?side1 ?side2 A22.out).mono ?_); (case side1 => repeat (first | (with_reducible first | exact HB.out | apply bA | apply bN | apply bD) | exact HB.out)); (case side2 => exact Kd.R_tight rfl HO_10.out); rintro e w40 ⟨v189, rfl, ho0, hb, hkp⟩; refine ⟨_, rfl, ?_⟩; have n0_ := aM (Kd.R_mono (ok' := fun k_ => True) ho0 (fun k_ hk_ => trivial)); have n1_ := aM (hb); clear HB; clear HO_10; have HO190 := n0_; have HB := n1_; clear n0_ n1_; (try clear hb); (try clear hkp); (try clear ho0)))
             have n0_ := aM (Kd.R_drew HO190.out)
             have n1_ := aM (below_drew1 HB.out)
             clear HO190
             clear HB
             have HO190 := n0_
             have HB := n1_
             clear n0_ n1_
             refine start_ (n := 15) (S := fun w' => True) (ds := []) mkspec_D607_0 (by kernel_rfl) rfl rfl trivial (fun hHeld => ?_); refine with_tabW spec_DecodeClass.tab20 spec_DecodeClass.bits20 (fun HT_ HW_ => ?_)
             generalize w40.drew = w41 at HO190 HB hHeld ⊢
             refine pQ (i := 0) (N := some 71) mkspec_D607_1 ?_
             refine pQ (i := 1) (N := some 72) mkspec_D607_2 ?_
             refine pQ (i := 2) (N := some 73) mkspec_D607_3 ?_
             refine uQ (i := 3) (N := some 74) mkspec_D607_4 ?_
             refine uQ (i := 4) (N := some 75) mkspec_D607_6 ?_
             refine uQ (i := 5) (N := some 76) mkspec_D607_8 ?_
             refine uQ (i := 6) (N := some 77) mkspec_D607_10 ?_
             refine uQ (i := 7) (N := some 78) mkspec_D607_12 ?_
             refine uQ (i := 8) (N := some 79) mkspec_D607_14 ?_
             refine uQ (i := 9) (N := some 80) mkspec_D607_16 ?_
             refine uQ (i := 10) (N := some 81) mkspec_D607_18 ?_
             refine uQ (i := 11) (N := some 82) mkspec_D607_20 ?_
             refine uQ (i := 12) (N := some 83) mkspec_D607_21 ?_
             refine uQ (i := 13) (N := some 84) mkspec_D607_22 ?_
             refine pQ (i := 14) (N := some 85) mkspec_D607_23 ?_
             refine done_ (done_of HT_.out (by kernel_rfl)) ?_
             try go_wp2
             go_ret3
             exact ⟨_, eQ, by first | exact Kd.R_nil _ _ _ _ _ | exact Kd.N_nil _ _ _ _ _ | exact Kd.V_nil _ _ _ _ _ | exact Kd.Q_nil _ _ _ _ _ | exact Kd.S_nil _ _ _ _ _, bQ⟩
        ·replace c15 := Bool.eq_false_iff.mpr c15
         subst c15
         have H1 : (some (([] : List Int), 0, 9)) = some (r1, r2, r3) := by rw [if_neg (show ¬ (false = true) by decide)] at H; exact H
         clear H
         have H := H1
         clear H1
         simp only [Option.some.injEq, Prod.mk.injEq] at H
         obtain ⟨rfl, rfl, rfl⟩ := H
         go_wp2_with (first | ((with_reducible refine gate_callee (f := 54) rfl ?_); refine goesL_ (some 47) rfl rfl Try.func54 (by kernel_rfl) rfl #[.int .i64 t177, .int .i64 1, .int .i64 2] rfl gQ ?_; (with_reducible refine (spec_l00In.calls t177 1 2 false _ A14.out).mono ?_); rintro e w' ⟨rfl, ⟨nd, rfl⟩⟩; refine ⟨_, rfl, ?_⟩))
         go_ret3
         exact ⟨_, eQ, by first | exact Kd.R_nil _ _ _ _ _ | exact Kd.N_nil _ _ _ _ _ | exact Kd.V_nil _ _ _ _ _ | exact Kd.Q_nil _ _ _ _ _ | exact Kd.S_nil _ _ _ _ _, bQ⟩
 ·replace c4 := Bool.eq_false_iff.mpr c4
  subst c4
  have H1 : (some (([] : List Int), 0, 2)) = some (r1, r2, r3) := by rw [if_neg (show ¬ (false = true) by decide)] at H; exact H
  clear H
  have H := H1
  clear H1
  simp only [Option.some.injEq, Prod.mk.injEq] at H
  obtain ⟨rfl, rfl, rfl⟩ := H
  go_enter Try.func16, Try.ntmps16
  go_wp2_with (first | ((with_reducible refine gate_callee (f := 54) rfl ?_); refine goesL_ (some 18) rfl rfl Try.func54 (by kernel_rfl) rfl #[.int .i64 a1, .int .i64 0, .int .i64 (a0.size : Int)] rfl gQ ?_; (with_reducible refine (spec_l00In.calls a1 0 (a0.size : Int) false _ A3.out).mono ?_); rintro e w' ⟨rfl, ⟨nd, rfl⟩⟩; refine ⟨_, rfl, ?_⟩))
  go_ret3
  exact ⟨_, eQ, by first | exact Kd.R_nil _ _ _ _ _ | exact Kd.N_nil _ _ _ _ _ | exact Kd.V_nil _ _ _ _ _ | exact Kd.Q_nil _ _ _ _ _ | exact Kd.S_nil _ _ _ _ _, bQ⟩

/-! ### impl_GetWord: function 58 -/
mutual
def impl_GetWord.j0 : Nat → ByteArray → Int → Int → Bool → Option (Int × Bool)
 | 0, _, _, _, _ => none
 | k + 1, x0, x1, x2, x27 => if x27 = true then (some (0, false)) else (impl_GetWord.l0 k x0 x1 x2 0 0)
def impl_GetWord.l0 : Nat → ByteArray → Int → Int → Int → Int → Option (Int × Bool)
 | 0, _, _, _, _, _ => none
 | k + 1, x0, x1, x2, x8, x9 => if x9 < x2 then (if 0 ≤ (wrap64 (x1 + x9)) then (if (wrap64 (x1 + x9)) < (x0.size : Int) then (impl_GetWord.l0 k x0 x1 x2 (Go.bits .or .i64 (wrap64 (x8 * 256)) (wrap64 (bt x0 (wrap64 (x1 + x9))))) (wrap64 (x9 + 1))) else (none)) else (none)) else (some (x8, true))
end
def impl_GetWord.f (k : Nat) (a0 : ByteArray) (a1 : Int) (a2 : Int) : Option (Int × Bool) := if a2 < 1 then (impl_GetWord.j0 k a0 a1 a2 true) else (if a2 > 4 then (impl_GetWord.j0 k a0 a1 a2 true) else (if a1 < 0 then (impl_GetWord.j0 k a0 a1 a2 true) else (impl_GetWord.j0 k a0 a1 a2 (decide (a1 > (wrap64 ((a0.size : Int) - a2)))))))
theorem impl_GetWord.mono_l : ∀ k, (∀ y0 y1 y2 y3, LeO (impl_GetWord.j0 k y0 y1 y2 y3) (impl_GetWord.j0 (k + 1) y0 y1 y2 y3)) ∧ (∀ y0 y1 y2 y3 y4, LeO (impl_GetWord.l0 k y0 y1 y2 y3 y4) (impl_GetWord.l0 (k + 1) y0 y1 y2 y3 y4))
 | 0 => ⟨fun _ _ _ _ r h => by simp [impl_GetWord.j0] at h, fun _ _ _ _ _ r h => by simp [impl_GetWord.l0] at h⟩
 | k + 1 => by
  obtain ⟨ih0, ih1⟩ := impl_GetWord.mono_l k
  refine ⟨?_, ?_⟩
  ·intro y0 y1 y2 y3
   unfold impl_GetWord.j0
   repeat' first
   | (with_reducible exact ih0 _ _ _ _)
   | (with_reducible exact ih1 _ _ _ _ _)
   | (with_reducible exact LeO.refl _)
   | (with_reducible exact LeO.none _)
   | (with_reducible refine LeO.ite ?_ ?_)
   | (with_reducible refine LeO.bind ?_ (fun _ => ?_))
   | exact ih0 _ _ _ _
   | exact ih1 _ _ _ _ _
   | exact LeO.none _
   | refine LeO.ite ?_ ?_
   | refine LeO.bind ?_ (fun _ => ?_)
  ·intro y0 y1 y2 y3 y4
   unfold impl_GetWord.l0
   repeat' first
   | (with_reducible exact ih0 _ _ _ _)
   | (with_reducible exact ih1 _ _ _ _ _)
   | (with_reducible exact LeO.refl _)
   | (with_reducible exact LeO.none _)
   | (with_reducible refine LeO.ite ?_ ?_)
   | (with_reducible refine LeO.bind ?_ (fun _ => ?_))
   | exact ih0 _ _ _ _
   | exact ih1 _ _ _ _ _
   | exact LeO.none _
   | refine LeO.ite ?_ ?_
   | refine LeO.bind ?_ (fun _ => ?_)
theorem impl_GetWord.mono : ∀ a0 a1 a2 k, LeO (impl_GetWord.f k a0 a1 a2) (impl_GetWord.f (k + 1) a0 a1 a2) := by
 intro a0 a1 a2 k
 obtain ⟨ih0, ih1⟩ := impl_GetWord.mono_l k
 unfold impl_GetWord.f
 repeat' first
   | (with_reducible exact ih0 _ _ _ _)
   | (with_reducible exact ih1 _ _ _ _ _)
   | (with_reducible exact LeO.refl _)
   | (with_reducible exact LeO.none _)
   | (with_reducible refine LeO.ite ?_ ?_)
   | (with_reducible refine LeO.bind ?_ (fun _ => ?_))
   | exact ih0 _ _ _ _
   | exact ih1 _ _ _ _ _
   | exact LeO.none _
   | refine LeO.ite ?_ ?_
   | refine LeO.bind ?_ (fun _ => ?_)
set_option maxHeartbeats 8000000 in
set_option maxRecDepth 100000 in
theorem impl_GetWord.calls (k : Nat) (a0 : ByteArray) (a1 : Int) (a2 : Int) (r1 : Int) (r2 : Bool) (w : World) (h : impl_GetWord.f k a0 a1 a2 = some (r1, r2)) :
  Calls Try.prog 58 #[.string a0, .int .i64 a1, .int .i64 a2] w fun e w' => e = .returned (.tuple #[.int .i64 r1, .bool r2]) ∧ Drawn0 w w' := by
 have H : (if a2 < 1 then (impl_GetWord.j0 k a0 a1 a2 true) else (if a2 > 4 then (impl_GetWord.j0 k a0 a1 a2 true) else (if a1 < 0 then (impl_GetWord.j0 k a0 a1 a2 true) else (impl_GetWord.j0 k a0 a1 a2 (decide (a1 > (wrap64 ((a0.size : Int) - a2)))))))) = some (r1, r2) := h
 clear h
 have HC4 := aM H
 clear H
 go_enter Try.func58, Try.ntmps58
 go_upto_region 1 with (fail)
 go_cut [27] (fun v27 wc => ∃ (kq : Nat) (x27_3 : Bool), v27 = .bool x27_3 ∧ Aside0 (impl_GetWord.j0 kq a0 a1 a2 x27_3 = some (r1, r2)) ∧ Aside0 (kq ≤ k) ∧ Drawn0 w wc)
 case first =>
  have H := HC4.out
  clear HC4
  by_cases c5 : a2 < 1
  ·rw [if_pos c5] at H
   have c5b0 : decide (a2 < 1) = true := decide_eq_true c5
   clear c5
   (first | rw [c5b0] | (simp only [i64_w, i32_w]; rw [c5b0]) | rw [c5b1] | rw [c5b2] | rw [c5b3] | rw [c5b4] | skip)
   have H' := aM H
   clear H
   go_wp2
   go_meet
   case rel => exact ⟨_, (true), rQ, H', ⟨by first | omega | exact Nat.le_refl _⟩, by repeat (first | exact Drawn0.refl _ | apply Drawn0.step)⟩
  ·rw [if_neg c5] at H
   have c5b0 : decide (a2 < 1) = false := decide_eq_false c5
   clear c5
   (first | rw [c5b0] | (simp only [i64_w, i32_w]; rw [c5b0]) | rw [c5b1] | rw [c5b2] | rw [c5b3] | rw [c5b4] | skip)
   by_cases c6 : a2 > 4
   ·rw [if_pos c6] at H
    have c6b0 : decide (4 < a2) = true := decide_eq_true c6
    clear c6
    have H' := aM H
    clear H
    go_wp2
    go_meet
    case rel => exact ⟨_, (true), rQ, H', ⟨by first | omega | exact Nat.le_refl _⟩, by repeat (first | exact Drawn0.refl _ | apply Drawn0.step)⟩
   ·rw [if_neg c6] at H
    have c6b0 : decide (4 < a2) = false := decide_eq_false c6
    clear c6
    by_cases c7 : a1 < 0
    ·rw [if_pos c7] at H
     have c7b0 : decide (a1 < 0) = true := decide_eq_true c7
     clear c7
     have H' := aM H
     clear H
     go_wp2
     go_meet
     case rel => exact ⟨_, (true), rQ, H', ⟨by first | omega | exact Nat.le_refl _⟩, by repeat (first | exact Drawn0.refl _ | apply Drawn0.step)⟩
    ·rw [if_neg c7] at H
     have c7b0 : decide (a1 < 0) = false := decide_eq_false c7
     clear c7
     have H' := aM H
     clear H
     go_wp2
     go_meet
     case rel => exact ⟨_, (decide (a1 > (wrap64 ((a0.size : Int) - a2)))), rQ, H', ⟨by first | omega | exact Nat.le_refl _⟩, by repeat (first | exact Drawn0.refl _ | apply Drawn0.step)⟩
 case rest =>
  clear HC4
  try clear p2
  try clear c5
  try clear c5b0
  try clear c5b1
  try clear c5b2
  try clear c6
  try clear c6b0
  try clear p6
  try clear c7
  try clear c7b0
  obtain ⟨kq, x27_3, rfl, HA, HJ3, ⟨mc3, rfl⟩⟩ := hcut
  cases kq with
  | zero => exact absurd HA.out (by simp [impl_GetWord.j0])
  | succ kj3 =>
   have H := HA.out
   clear HA
   simp only [impl_GetWord.j0] at H
   by_cases c8 : x27_3 = true
   ·subst c8
    have H1 : (some (0, false)) = some (r1, r2) := by rw [if_pos rfl] at H; exact H
    clear H
    have H := H1
    clear H1
    simp only [Option.some.injEq, Prod.mk.injEq] at H
    obtain ⟨rfl, rfl⟩ := H
    go_wp2
    go_ret2
    exact ⟨rQ, by repeat (first | exact Drawn0.refl _ | apply Drawn0.step)⟩
   ·replace c8 := Bool.eq_false_iff.mpr c8
    subst c8
    have H1 : (impl_GetWord.l0 kj3 a0 a1 a2 0 0) = some (r1, r2) := by rw [if_neg (show ¬ (false = true) by decide)] at H; exact H
    clear H
    have H := H1
    clear H1
    have H' := aM H
    clear H
    go_wp2
    go_loopg [8, 9] kj3 (fun kq v8 v9 w' => ∃ (x8_2 : Int) (x9_2 : Int), v8 = .int .i64 x8_2 ∧ v9 = .int .i64 x9_2 ∧ Aside0 (impl_GetWord.l0 kq a0 a1 a2 x8_2 x9_2 = some (r1, r2)) ∧ Aside0 (kq ≤ kj3) ∧ Drawn0 w w')
    case atStart => exact ⟨(0), (0), rQ, rQ, H', ⟨Nat.le_refl _⟩, by repeat (first | exact Drawn0.refl _ | apply Drawn0.step)⟩
    case round =>
     clear H'
     try clear p2
     try clear c3
     try clear c5
     try clear c5b0
     try clear c5b1
     try clear c5b2
     try clear c6
     try clear c6b0
     try clear p6
     try clear c7
     try clear c7b0
     try clear c8
     try clear p2
     try clear p6
     obtain ⟨x8_2, x9_2, rfl, rfl, HA, HK2, ⟨m2, rfl⟩⟩ := hrel
     cases gk with
     | zero => exact absurd HA.out (by simp [impl_GetWord.l0])
     | succ k2 =>
      have H := HA.out
      clear HA
      simp only [impl_GetWord.l0] at H
      by_cases c9 : x9_2 < a2
      ·rw [if_pos c9] at H
       have c9b0 : decide (x9_2 < a2) = true := decide_eq_true c9
       clear c9
       obtain ⟨ji10, hji10⟩ : ∃ j_ : Int, (wrap64 (a1 + x9_2)) = j_ := ⟨_, rfl⟩
       replace H : (if 0 ≤ (ji10) then (if (ji10) < (a0.size : Int) then (impl_GetWord.l0 k2 a0 a1 a2 (Go.bits .or .i64 (wrap64 (x8_2 * 256)) (wrap64 (bt a0 (ji10)))) (wrap64 (x9_2 + 1))) else (none)) else (none)) = some (r1, r2) := by first | (rw [hji10] at H; exact H) | (simp only [hji10] at H ⊢; exact H)
       have hji10w : (IntKind.i64.wrap (a1 + x9_2)) = ji10 := (i64_w _).trans hji10
       by_cases c11 : 0 ≤ (ji10)
       ·rw [if_pos c11] at H
        have c11b0 : decide (0 ≤ (ji10)) = true := decide_eq_true c11
        clear c11
        by_cases c12 : (ji10) < (a0.size : Int)
        ·rw [if_pos c12] at H
         have c12b0 : decide ((ji10) < (a0.size : Int)) = true := decide_eq_true c12
         clear c12
         have H' := aM H
         clear H
         have p13 : 0 ≤ ((ji10) : Int) := dA
         have q13 : (ji10) < (a0.size : Int) := dA
         have hx13 := bt_at a0 (ji10)
         replace p13 := eq_true p13
         replace q13 := eq_true q13
         go_wp2
         go_roundg k2
         case measure => have := HJ3.out; have := HK2.out; omega
         case rel => exact ⟨(Go.bits .or .i64 (wrap64 (x8_2 * 256)) (wrap64 (bt a0 (ji10)))), (wrap64 (x9_2 + 1)), (by first | rfl | (simp; done) | (simp only [← hji10] <;> (first | rfl | simp)) | (simp [*]; done)), rQ, H', ⟨by have := HJ3.out; have := HK2.out; omega⟩, by repeat (first | exact Drawn0.refl _ | apply Drawn0.step)⟩
        ·rw [if_neg c12] at H
         exact absurd H (by simp)
       ·rw [if_neg c11] at H
        exact absurd H (by simp)
      ·rw [if_neg c9] at H
       have c9b0 : decide (x9_2 < a2) = false := decide_eq_false c9
       clear c9
       simp only [Option.some.injEq, Prod.mk.injEq] at H
       obtain ⟨rfl, rfl⟩ := H
       go_wp2
       go_ret2
       exact ⟨rQ, by repeat (first | exact Drawn0.refl _ | apply Drawn0.step)⟩

/-! ### impl_isGlyphNumber: function 119 -/
def impl_isGlyphNumber.f (a0 : Int) : Option (Bool) := if a0 ≥ 0 then (some (decide (a0 < 40))) else (some false)
set_option maxHeartbeats 8000000 in
set_option maxRecDepth 100000 in
theorem impl_isGlyphNumber.calls (a0 : Int) (r : Bool) (w : World) (h : impl_isGlyphNumber.f a0 = some r) :
  Calls Try.prog 119 #[.int .i64 a0] w fun e w' => e = .returned (.bool r) ∧ Drawn0 w w' := by
 have H : (if a0 ≥ 0 then (some (decide (a0 < 40))) else (some false)) = some r := h
 clear h
 by_cases c2 : a0 ≥ 0
 ·rw [if_pos c2] at H
  have c2b0 : decide (0 ≤ a0) = true := decide_eq_true c2
  clear c2
  obtain rfl := Option.some.inj H
  go_enter Try.func119, Try.ntmps119
  go_wp2
  go_ret
  exact ⟨rQ, by repeat (first | exact Drawn0.refl _ | apply Drawn0.step)⟩
 ·rw [if_neg c2] at H
  have c2b0 : decide (0 ≤ a0) = false := decide_eq_false c2
  clear c2
  obtain rfl := Option.some.inj H
  go_enter Try.func119, Try.ntmps119
  go_wp2
  go_ret
  exact ⟨rQ, by repeat (first | exact Drawn0.refl _ | apply Drawn0.step)⟩

end Go.Proofs.Ytdahcapolipnbaa.QFnExactDecodeClass
