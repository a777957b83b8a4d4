/- What some Go functions answer, each as a Lean function, and that the machine answers so: written by a program of this session out of the translation. -/
import Derived.Test.YtdahcapolipnbaaQFnExactDecodeClassx0
import Derived.Test.YtdahcapolipnbaaQFnExactDecodeClassx5
import Derived.Test.YtdahcapolipnbaaQFnExactDecodeClassx6
import Derived.Test.YtdahcapolipnbaaQFnExactDecodeClassx7
namespace Go.Proofs.Ytdahcapolipnbaa.QFnExactDecodeClass
open Go.RowKit Go.Proofs.YtdahcapolipnbaaW.PrintWords Go.Proofs.YtdahcapolipnbaaW.PrintLast Go.Proofs.YtdahcapolipnbaaW.PrintMore Go.Proofs.Ytdahcapolipnbaa.Rp
attribute [local go_sem] max2_int min2_int max_two min_two max_three min_three max_four min_four   -- for this text's walks alone
set_option linter.unusedVariables false
set_option linter.unusedSimpArgs false

/-! ### impl_DecodeClass: function 17 -/
mutual
abbrev mkimpl_D614_0 : Array Bool := #[ff,ff,ff,ff,ff,ff,ff,ff,ff,ff]
abbrev mkimpl_D614_1 : Array Bool := #[tt,ff,ff,ff,ff,ff,ff,ff,ff,ff]
abbrev mkimpl_D614_2 : Array Bool := #[tt,tt,ff,ff,ff,ff,ff,ff,ff,ff]
abbrev mkimpl_D614_3 : Array Bool := #[tt,tt,tt,ff,ff,ff,ff,ff,ff,ff]
abbrev mkimpl_D614_4 : Array Bool := #[tt,tt,tt,tt,ff,ff,ff,ff,ff,ff]
abbrev mkimpl_D614_5 : Array Bool := #[tt,tt,tt,tt,ff,tt,ff,ff,ff,ff]
abbrev mkimpl_D614_6 : Array Bool := #[tt,tt,tt,tt,tt,ff,ff,ff,ff,ff]
abbrev mkimpl_D614_7 : Array Bool := #[tt,tt,tt,tt,ff,tt,tt,ff,ff,ff]
abbrev mkimpl_D614_8 : Array Bool := #[tt,tt,tt,tt,tt,tt,ff,ff,ff,ff]
abbrev mkimpl_D614_9 : Array Bool := #[tt,tt,tt,tt,ff,tt,tt,tt,ff,ff]
abbrev mkimpl_D614_10 : Array Bool := #[tt,tt,tt,tt,tt,tt,tt,ff,ff,ff]
abbrev mkimpl_D614_11 : Array Bool := #[tt,tt,tt,tt,tt,tt,tt,tt,ff,ff]
abbrev mkimpl_D614_12 : Array Bool := #[tt,tt,tt,tt,tt,tt,tt,tt,tt,ff]
abbrev mkimpl_D614_13 : Array Bool := #[tt,tt,tt,tt,tt,tt,tt,tt,tt,tt]
def impl_DecodeClass.j0 : Nat → ByteArray → Int → Bool → Option (List Int × Int × Int)
 | 0, _, _, _ => none
 | k + 1, x0, x1, x24 => if x24 = true then (some (([] : List Int), 0, 2)) else (if 0 ≤ x1 then (if x1 ≤ (x0.size : Int) then ((impl_GetWord.f k (x0.extract (x1 : Int).toNat x0.size) 0 2).bind fun bt232 => ((impl_GetWord.f k (x0.extract (x1 : Int).toNat x0.size) 2 2).bind fun bt234 => (if bt234.2 = true then (if bt232.1 = 1 then (impl_DecodeClass.j1 k (x0.extract (x1 : Int).toNat x0.size) bt232.1 bt234.1 (wrap64 (4 + (wrap64 (2 * bt234.1))))) else (if bt232.1 = 2 then (impl_DecodeClass.j1 k (x0.extract (x1 : Int).toNat x0.size) bt232.1 bt234.1 (wrap64 (4 + (wrap64 (6 * bt234.1))))) else (some (([] : List Int), 0, 9)))) else (some (([] : List Int), 0, 11))))) else (none)) else (none))
def impl_DecodeClass.j1 : Nat → ByteArray → Int → Int → Int → Option (List Int × Int × Int)
 | 0, _, _, _, _ => none
 | k + 1, x0, x7, x9, x11 => if x11 > (x0.size : Int) then (some (([] : List Int), 0, 11)) else (impl_DecodeClass.l0 k x0 x7 x9 x11 ([] : List (S92)) 0)
def impl_DecodeClass.l0 : Nat → ByteArray → Int → Int → Int → List (S92) → Int → Option (List Int × Int × Int)
 | 0, _, _, _, _, _, _ => none
 | k + 1, x0, x7, x9, x11, x12, x13 => if x13 < x9 then (if x7 = 1 then ((impl_GetWord.f k x0 (wrap64 (4 + (wrap64 (2 * x13)))) 2).bind fun bt237 => (if x12.length < 8796093022208 then (impl_DecodeClass.l0 k x0 x7 x9 x11 (x12 ++ [(⟨bt237.1, bt237.1⟩ : S92)]) (wrap64 (x13 + 1))) else (none))) else ((impl_GetWord.f k x0 (wrap64 (4 + (wrap64 (6 * x13)))) 2).bind fun bt242 => ((impl_GetWord.f k x0 (wrap64 (6 + (wrap64 (6 * x13)))) 2).bind fun bt244 => (if x12.length < 8796093022208 then (impl_DecodeClass.l0 k x0 x7 x9 x11 (x12 ++ [(⟨bt242.1, bt244.1⟩ : S92)]) (wrap64 (x13 + 1))) else (none))))) else ((impl_ClassOfRanges.f k x12).bind fun bt249 => (if bt249.2 = 0 then ((impl_encodeClass.f k bt249.1).bind fun t253 => (if 0 ≤ x11 then (if x11 ≤ (x0.size : Int) then (if t253.toList = (x0.extract 0 (x11 : Int).toNat).toList then (some (bt249.1, x11, 0)) else (some (([] : List Int), 0, 9))) else (none)) else (none))) else (some (([] : List Int), 0, 9))))
end
def impl_DecodeClass.f (k : Nat) (a0 : ByteArray) (a1 : Int) : Option (List Int × Int × Int) := if a1 < 0 then (impl_DecodeClass.j0 k a0 a1 true) else (impl_DecodeClass.j0 k a0 a1 (decide (a1 > (a0.size : Int))))
theorem impl_DecodeClass.mono_l : ∀ k, (∀ y0 y1 y2, LeO (impl_DecodeClass.j0 k y0 y1 y2) (impl_DecodeClass.j0 (k + 1) y0 y1 y2)) ∧ (∀ y0 y1 y2 y3, LeO (impl_DecodeClass.j1 k y0 y1 y2 y3) (impl_DecodeClass.j1 (k + 1) y0 y1 y2 y3)) ∧ (∀ y0 y1 y2 y3 y4 y5, LeO (impl_DecodeClass.l0 k y0 y1 y2 y3 y4 y5) (impl_DecodeClass.l0 (k + 1) y0 y1 y2 y3 y4 y5))
 | 0 => ⟨fun _ _ _ r h => by simp [impl_DecodeClass.j0] at h, fun _ _ _ _ r h => by simp [impl_DecodeClass.j1] at h, fun _ _ _ _ _ _ r h => by simp [impl_DecodeClass.l0] at h⟩
 | k + 1 => by
  obtain ⟨ih0, ih1, ih2⟩ := impl_DecodeClass.mono_l k
  refine ⟨?_, ?_, ?_⟩
  ·intro y0 y1 y2
   unfold impl_DecodeClass.j0
   repeat' first
   | (with_reducible exact ih0 _ _ _)
   | (with_reducible exact ih1 _ _ _ _)
   | (with_reducible exact ih2 _ _ _ _ _ _)
   | (with_reducible exact impl_ClassOfRanges.mono _ _)
   | (with_reducible exact impl_GetWord.mono _ _ _ _)
   | (with_reducible exact impl_encodeClass.mono _ _)
   | (with_reducible exact LeO.refl _)
   | (with_reducible exact LeO.none _)
   | (with_reducible refine LeO.ite ?_ ?_)
   | (with_reducible refine LeO.bind ?_ (fun _ => ?_))
   | exact ih0 _ _ _
   | exact ih1 _ _ _ _
   | exact ih2 _ _ _ _ _ _
   | exact impl_ClassOfRanges.mono _ _
   | exact impl_GetWord.mono _ _ _ _
   | exact impl_encodeClass.mono _ _
   | exact LeO.none _
   | refine LeO.ite ?_ ?_
   | refine LeO.bind ?_ (fun _ => ?_)
  ·intro y0 y1 y2 y3
   unfold impl_DecodeClass.j1
   repeat' first
   | (with_reducible exact ih0 _ _ _)
   | (with_reducible exact ih1 _ _ _ _)
   | (with_reducible exact ih2 _ _ _ _ _ _)
   | (with_reducible exact impl_ClassOfRanges.mono _ _)
   | (with_reducible exact impl_GetWord.mono _ _ _ _)
   | (with_reducible exact impl_encodeClass.mono _ _)
   | (with_reducible exact LeO.refl _)
   | (with_reducible exact LeO.none _)
   | (with_reducible refine LeO.ite ?_ ?_)
   | (with_reducible refine LeO.bind ?_ (fun _ => ?_))
   | exact ih0 _ _ _
   | exact ih1 _ _ _ _
   | exact ih2 _ _ _ _ _ _
   | exact impl_ClassOfRanges.mono _ _
   | exact impl_GetWord.mono _ _ _ _
   | exact impl_encodeClass.mono _ _
   | exact LeO.none _
   | refine LeO.ite ?_ ?_
   | refine LeO.bind ?_ (fun _ => ?_)
  ·intro y0 y1 y2 y3 y4 y5
   unfold impl_DecodeClass.l0
   repeat' first
   | (with_reducible exact ih0 _ _ _)
   | (with_reducible exact ih1 _ _ _ _)
   | (with_reducible exact ih2 _ _ _ _ _ _)
   | (with_reducible exact impl_ClassOfRanges.mono _ _)
   | (with_reducible exact impl_GetWord.mono _ _ _ _)
   | (with_reducible exact impl_encodeClass.mono _ _)
   | (with_reducible exact LeO.refl _)
   | (with_reducible exact LeO.none _)
   | (with_reducible refine LeO.ite ?_ ?_)
   | (with_reducible refine LeO.bind ?_ (fun _ => ?_))
   | exact ih0 _ _ _
   | exact ih1 _ _ _ _
   | exact ih2 _ _ _ _ _ _
   | exact impl_ClassOfRanges.mono _ _
   | exact impl_GetWord.mono _ _ _ _
   | exact impl_encodeClass.mono _ _
   | exact LeO.none _
   | refine LeO.ite ?_ ?_
   | refine LeO.bind ?_ (fun _ => ?_)
theorem impl_DecodeClass.mono : ∀ a0 a1 k, LeO (impl_DecodeClass.f k a0 a1) (impl_DecodeClass.f (k + 1) a0 a1) := by
 intro a0 a1 k
 obtain ⟨ih0, ih1, ih2⟩ := impl_DecodeClass.mono_l k
 unfold impl_DecodeClass.f
 repeat' first
   | (with_reducible exact ih0 _ _ _)
   | (with_reducible exact ih1 _ _ _ _)
   | (with_reducible exact ih2 _ _ _ _ _ _)
   | (with_reducible exact impl_ClassOfRanges.mono _ _)
   | (with_reducible exact impl_GetWord.mono _ _ _ _)
   | (with_reducible exact impl_encodeClass.mono _ _)
   | (with_reducible exact LeO.refl _)
   | (with_reducible exact LeO.none _)
   | (with_reducible refine LeO.ite ?_ ?_)
   | (with_reducible refine LeO.bind ?_ (fun _ => ?_))
   | exact ih0 _ _ _
   | exact ih1 _ _ _ _
   | exact ih2 _ _ _ _ _ _
   | exact impl_ClassOfRanges.mono _ _
   | exact impl_GetWord.mono _ _ _ _
   | exact impl_encodeClass.mono _ _
   | exact LeO.none _
   | refine LeO.ite ?_ ?_
   | refine LeO.bind ?_ (fun _ => ?_)
def impl_DecodeClass.T29 : Bool × List (List Nat × List Nat) := (true, [([], []), ([0], [0]), ([1], [1]), ([2], [2]), ([3, 2, 2], [2, 3]), ([2], [2]), ([2], [2]), ([5, 6, 2], [2, 5, 6]), ([4, 7, 2], [2, 4, 7]), ([2, 8], [2, 8])])
def impl_DecodeClass.B29 : List Nat := [0, 1, 3, 7, 15, 7, 7, 103, 255, 511]
theorem impl_DecodeClass.tab29 : rtab .any (opsOf Try.f17 29) = impl_DecodeClass.T29 := by kernel_rfl
theorem impl_DecodeClass.bits29 : waitsOk impl_DecodeClass.T29.2 impl_DecodeClass.B29 = true := by kernel_rfl
set_option maxHeartbeats 8000000 in
set_option maxRecDepth 100000 in
theorem impl_DecodeClass.calls (k : Nat) (a0 : ByteArray) (a1 : Int) (r1 : List Int) (r2 : Int) (r3 : Int) (w : World) (h : impl_DecodeClass.f k a0 a1 = some (r1, r2, r3)) :
  Calls Try.prog 17 #[.string a0, .int .i64 a1] w fun e w' => ∃ v0_ : Value, e = .returned (.tuple #[v0_, .int .i64 r2, .int .i64 r3]) ∧ Kd.R (Kd.int .i64) 2 w' w.heap.size (fun _ => True) v0_ r1 ∧ Below w.heap.size w w' := by
 have hu92 := Try.underlying92
 have HB := aM (Below.refl w.heap.size w)
 have H : (if a1 < 0 then (impl_DecodeClass.j0 k a0 a1 true) else (impl_DecodeClass.j0 k a0 a1 (decide (a1 > (a0.size : Int))))) = some (r1, r2, r3) := h
 clear h
 have HC3 := aM H
 clear H
 go_enter Try.func17, Try.ntmps17
 go_upto_region 1 with (fail)
 go_cut [24] (fun v24 wc => ∃ (kq : Nat) (x24_2 : Bool), v24 = .bool x24_2 ∧ Aside0 (impl_DecodeClass.j0 kq a0 a1 x24_2 = some (r1, r2, r3)) ∧ Aside0 (kq ≤ k) ∧ Aside0 (Below w.heap.size w wc))
 case first =>
  have H := HC3.out
  clear HC3
  by_cases c4 : a1 < 0
  ·rw [if_pos c4] at H
   have c4b0 : decide (a1 < 0) = true := decide_eq_true c4
   clear c4
   (first | rw [c4b0] | (simp only [i64_w, i32_w]; rw [c4b0]) | rw [c4b1] | rw [c4b2] | rw [c4b3] | rw [c4b4] | skip)
   have H' := aM H
   clear H
   go_wp2
   go_meet
   case rel => exact ⟨_, (true), rQ, H', ⟨by first | omega | exact Nat.le_refl _⟩, ⟨bQ⟩⟩
  ·rw [if_neg c4] at H
   have c4b0 : decide (a1 < 0) = false := decide_eq_false c4
   clear c4
   (first | rw [c4b0] | (simp only [i64_w, i32_w]; rw [c4b0]) | rw [c4b1] | rw [c4b2] | rw [c4b3] | rw [c4b4] | skip)
   have H' := aM H
   clear H
   go_wp2
   go_meet
   case rel => exact ⟨_, (decide (a1 > (a0.size : Int))), rQ, H', ⟨by first | omega | exact Nat.le_refl _⟩, ⟨bQ⟩⟩
 case rest =>
  clear HC3
  try clear c1
  try clear p2
  try clear c4
  try clear c4b0
  try clear c4b1
  try clear c4b2
  obtain ⟨kq, x24_2, rfl, HA, HJ2, HB⟩ := hcut
  cases kq with
  | zero => exact absurd HA.out (by simp [impl_DecodeClass.j0])
  | succ kj2 =>
   have H := HA.out
   clear HA
   simp only [impl_DecodeClass.j0] at H
   by_cases c5 : x24_2 = true
   ·subst c5
    have H1 : (some (([] : List Int), 0, 2)) = some (r1, r2, r3) := by rw [if_pos rfl] at H; exact H
    clear H
    have H := H1
    clear H1
    simp only [Option.some.injEq, Prod.mk.injEq] at H
    obtain ⟨rfl, rfl, rfl⟩ := H
    go_wp2
    go_ret3
    exact ⟨_, eQ, by first | exact Kd.R_nil _ _ _ _ _ | exact Kd.N_nil _ _ _ _ _ | exact Kd.V_nil _ _ _ _ _ | exact Kd.Q_nil _ _ _ _ _ | exact Kd.S_nil _ _ _ _ _, bQ⟩
   ·replace c5 := Bool.eq_false_iff.mpr c5
    subst c5
    have H1 : (if 0 ≤ a1 then (if a1 ≤ (a0.size : Int) then ((impl_GetWord.f kj2 (a0.extract (a1 : Int).toNat a0.size) 0 2).bind fun bt232 => ((impl_GetWord.f kj2 (a0.extract (a1 : Int).toNat a0.size) 2 2).bind fun bt234 => (if bt234.2 = true then (if bt232.1 = 1 then (impl_DecodeClass.j1 kj2 (a0.extract (a1 : Int).toNat a0.size) bt232.1 bt234.1 (wrap64 (4 + (wrap64 (2 * bt234.1))))) else (if bt232.1 = 2 then (impl_DecodeClass.j1 kj2 (a0.extract (a1 : Int).toNat a0.size) bt232.1 bt234.1 (wrap64 (4 + (wrap64 (6 * bt234.1))))) else (some (([] : List Int), 0, 9)))) else (some (([] : List Int), 0, 11))))) else (none)) else (none)) = some (r1, r2, r3) := by rw [if_neg (show ¬ (false = true) by decide)] at H; exact H
    clear H
    have H := H1
    clear H1
    by_cases c6 : 0 ≤ a1
    ·rw [if_pos c6] at H
     have c6b0 := eq_true c6
     have c6b1 : decide (0 ≤ a1) = true := decide_eq_true c6
     clear c6
     by_cases c7 : a1 ≤ (a0.size : Int)
     ·rw [if_pos c7] at H
      have c7b0 := eq_true c7
      have c7b1 : decide (a1 ≤ (a0.size : Int)) = true := decide_eq_true c7
      clear c7
      replace H := Option.bind_eq_some_iff.mp H
      obtain ⟨⟨t232, t233⟩, A80, H⟩ := H
      replace H : ((impl_GetWord.f kj2 (a0.extract (a1 : Int).toNat a0.size) 2 2).bind fun bt234 => (if bt234.2 = true then (if t232 = 1 then (impl_DecodeClass.j1 kj2 (a0.extract (a1 : Int).toNat a0.size) t232 bt234.1 (wrap64 (4 + (wrap64 (2 * bt234.1))))) else (if t232 = 2 then (impl_DecodeClass.j1 kj2 (a0.extract (a1 : Int).toNat a0.size) t232 bt234.1 (wrap64 (4 + (wrap64 (6 * bt234.1))))) else (some (([] : List Int), 0, 9)))) else (some (([] : List Int), 0, 11)))) = some (r1, r2, r3) := H
      have A8 := aM A80
      clear A80
      replace H := Option.bind_eq_some_iff.mp H
      obtain ⟨⟨t234, t235⟩, A90, H⟩ := H
      replace H : (if t235 = true then (if t232 = 1 then (impl_DecodeClass.j1 kj2 (a0.extract (a1 : Int).toNat a0.size) t232 t234 (wrap64 (4 + (wrap64 (2 * t234))))) else (if t232 = 2 then (impl_DecodeClass.j1 kj2 (a0.extract (a1 : Int).toNat a0.size) t232 t234 (wrap64 (4 + (wrap64 (6 * t234))))) else (some (([] : List Int), 0, 9)))) else (some (([] : List Int), 0, 11))) = some (r1, r2, r3) := H
      have A9 := aM A90
      clear A90
      by_cases c10 : t235 = true
      ·subst c10
       have H1 : (if t232 = 1 then (impl_DecodeClass.j1 kj2 (a0.extract (a1 : Int).toNat a0.size) t232 t234 (wrap64 (4 + (wrap64 (2 * t234))))) else (if t232 = 2 then (impl_DecodeClass.j1 kj2 (a0.extract (a1 : Int).toNat a0.size) t232 t234 (wrap64 (4 + (wrap64 (6 * t234))))) else (some (([] : List Int), 0, 9)))) = some (r1, r2, r3) := by rw [if_pos rfl] at H; exact H
       clear H
       have H := H1
       clear H1
       have HC11 := aM H
       clear H
       go_upto_block 0 with (first | ((with_reducible refine gate_callee (f := 58) rfl ?_); refine goesL_ (some 30) rfl rfl Try.func58 (by kernel_rfl) rfl #[.string (a0.extract (a1 : Int).toNat a0.size), .int .i64 0, .int .i64 2] rfl gQ ?_; (with_reducible refine (impl_GetWord.calls kj2 (a0.extract (a1 : Int).toNat a0.size) 0 2 t232 t233 _ A8.out).mono ?_); rintro e w' ⟨rfl, ⟨nd, rfl⟩⟩; refine ⟨_, rfl, ?_⟩) | ((with_reducible refine gate_callee (f := 58) rfl ?_); refine goesL_ (some 35) rfl rfl Try.func58 (by kernel_rfl) rfl #[.string (a0.extract (a1 : Int).toNat a0.size), .int .i64 2, .int .i64 2] rfl gQ ?_; (with_reducible refine (impl_GetWord.calls kj2 (a0.extract (a1 : Int).toNat a0.size) 2 2 t234 true _ A9.out).mono ?_); rintro e w' ⟨rfl, ⟨nd, rfl⟩⟩; refine ⟨_, rfl, ?_⟩))
       (try simp only [Act.put, sI, sZ, sS])
       go_cut [11] (fun v11 wc => ∃ (kq : Nat) (x11_10 : Int), v11 = .int .i64 x11_10 ∧ Aside0 (impl_DecodeClass.j1 kq (a0.extract (a1 : Int).toNat a0.size) t232 t234 x11_10 = some (r1, r2, r3)) ∧ Aside0 (kq ≤ kj2) ∧ Aside0 (Below w.heap.size w wc))
       case first =>
        have H := HC11.out
        clear HC11
        by_cases c12 : t232 = 1
        ·rw [if_pos c12] at H
         have c12b0 : (t232 == 1) = true := beq_iff_eq.mpr c12
         have c12b1 : (t232 != 1) = false := bne_eq_false_iff_eq.mpr c12
         clear c12
         (first | rw [c12b0] | (simp only [i64_w, i32_w]; rw [c12b0]) | rw [c12b1] | rw [c12b2] | rw [c12b3] | rw [c12b4] | skip)
         have H' := aM H
         clear H
         go_wp2
         go_meet
         case rel => exact ⟨_, (wrap64 (4 + (wrap64 (2 * t234)))), rQ, H', ⟨by have := HJ2.out; first | omega | exact Nat.le_refl _⟩, ⟨bQ⟩⟩
        ·rw [if_neg c12] at H
         have c12b0 : (t232 == 1) = false := beq_eq_false_iff_ne.mpr c12
         have c12b1 : (t232 != 1) = true := bne_iff_ne.mpr c12
         (first | rw [c12b0] | (simp only [i64_w, i32_w]; rw [c12b0]) | rw [c12b1] | rw [c12b2] | rw [c12b3] | rw [c12b4] | skip)
         by_cases c13 : t232 = 2
         ·rw [if_pos c13] at H
          have c13b0 : (t232 == 2) = true := beq_iff_eq.mpr c13
          have c13b1 : (t232 != 2) = false := bne_eq_false_iff_eq.mpr c13
          clear c13
          have H' := aM H
          clear H
          go_wp2
          go_meet
          case rel => exact ⟨_, (wrap64 (4 + (wrap64 (6 * t234)))), rQ, H', ⟨by have := HJ2.out; first | omega | exact Nat.le_refl _⟩, ⟨bQ⟩⟩
         ·rw [if_neg c13] at H
          have c13b0 : (t232 == 2) = false := beq_eq_false_iff_ne.mpr c13
          have c13b1 : (t232 != 2) = true := bne_iff_ne.mpr c13
          simp only [Option.some.injEq, Prod.mk.injEq] at H
          obtain ⟨rfl, rfl, rfl⟩ := H
          go_wp2
          go_ret3
          exact ⟨_, eQ, by first | exact Kd.R_nil _ _ _ _ _ | exact Kd.N_nil _ _ _ _ _ | exact Kd.V_nil _ _ _ _ _ | exact Kd.Q_nil _ _ _ _ _ | exact Kd.S_nil _ _ _ _ _, bQ⟩
       case rest =>
        clear HC11
        try clear c1
        try clear p2
        try clear c4
        try clear c4b0
        try clear c4b1
        try clear c4b2
        try clear c5
        try clear c6
        try clear c6b0
        try clear c6b1
        try clear p6
        try clear c7
        try clear c7b0
        try clear c7b1
        try clear c10
        try clear c12
        try clear c12b0
        try clear c12b1
        try clear c12b2
        try clear c13
        try clear c13b0
        try clear c13b1
        try clear p2
        obtain ⟨kq, x11_10, rfl, HA, HJ10, HB⟩ := hcut
        cases kq with
        | zero => exact absurd HA.out (by simp [impl_DecodeClass.j1])
        | succ kj10 =>
         have H := HA.out
         clear HA
         simp only [impl_DecodeClass.j1] at H
         by_cases c14 : x11_10 > ((a0.extract (a1 : Int).toNat a0.size).size : Int)
         ·rw [if_pos c14] at H
          have c14b0 : decide (((a0.extract (a1 : Int).toNat a0.size).size : Int) < x11_10) = true := decide_eq_true c14
          try (have c14b6 := c14b0; simp only [ByteArray.size_append, ByteArray.size_extract, Nat.min_self, Int.natCast_add] at c14b6)
          clear c14
          simp only [Option.some.injEq, Prod.mk.injEq] at H
          obtain ⟨rfl, rfl, rfl⟩ := H
          go_wp2
          go_ret3
          exact ⟨_, eQ, by first | exact Kd.R_nil _ _ _ _ _ | exact Kd.N_nil _ _ _ _ _ | exact Kd.V_nil _ _ _ _ _ | exact Kd.Q_nil _ _ _ _ _ | exact Kd.S_nil _ _ _ _ _, bQ⟩
         ·rw [if_neg c14] at H
          have c14b0 : decide (((a0.extract (a1 : Int).toNat a0.size).size : Int) < x11_10) = false := decide_eq_false c14
          try (have c14b6 := c14b0; simp only [ByteArray.size_append, ByteArray.size_extract, Nat.min_self, Int.natCast_add] at c14b6)
          clear c14
          have H' := aM H
          clear H
          go_wp2
          go_loopg [12, 13] kj10 (fun kq v12 v13 w' => ∃ (x12_3 : List (S92)) (x13_3 : Int), v13 = .int .i64 x13_3 ∧ Aside0 (impl_DecodeClass.l0 kq (a0.extract (a1 : Int).toNat a0.size) t232 t234 x11_10 x12_3 x13_3 = some (r1, r2, r3)) ∧ Aside0 (kq ≤ kj10) ∧ Aside0 (Kd.R k92 92 w' w.heap.size (fun _ => True) v12 x12_3) ∧ Aside0 (Below w.heap.size w w'))
          case atStart => exact ⟨(([] : List (S92))), (0), rQ, H', ⟨Nat.le_refl _⟩, ⟨by first | exact Kd.R_nil _ _ _ _ _ | exact Kd.N_nil _ _ _ _ _ | exact Kd.V_nil _ _ _ _ _ | exact Kd.Q_nil _ _ _ _ _ | exact Kd.S_nil _ _ _ _ _⟩, ⟨bQ⟩⟩
          case round =>
           clear H'
           try clear c1
           try clear p2
           try clear c4
           try clear c4b0
           try clear c4b1
           try clear c4b2
           try clear c5
           try clear c6
           try clear c6b0
           try clear c6b1
           try clear p6
           try clear c7
           try clear c7b0
           try clear c7b1
           try clear c10
           try clear c12
           try clear c12b0
           try clear c12b1
           try clear c12b2
           try clear c13
           try clear c13b0
           try clear c13b1
           try clear c14
           try clear c14b0
           try clear p2
           try clear p6
           obtain ⟨x12_3, x13_3, rfl, HA, HK3, HO_12, HB⟩ := hrel
           cases gk with
           | zero => exact absurd HA.out (by simp [impl_DecodeClass.l0])
           | succ k3 =>
            have H := HA.out
            clear HA
            simp only [impl_DecodeClass.l0] at H
            by_cases c15 : x13_3 < t234
            ·rw [if_pos c15] at H
             have c15b0 : decide (x13_3 < t234) = true := decide_eq_true c15
             clear c15
             by_cases c16 : t232 = 1
             ·rw [if_pos c16] at H
              have c16b0 : (t232 == 1) = true := beq_iff_eq.mpr c16
              have c16b1 : (t232 != 1) = false := bne_eq_false_iff_eq.mpr c16
              clear c16
              replace H := Option.bind_eq_some_iff.mp H
              obtain ⟨⟨t237, t238⟩, A170, H⟩ := H
              replace H : (if x12_3.length < 8796093022208 then (impl_DecodeClass.l0 k3 (a0.extract (a1 : Int).toNat a0.size) t232 t234 x11_10 (x12_3 ++ [(⟨t237, t237⟩ : S92)]) (wrap64 (x13_3 + 1))) else (none)) = some (r1, r2, r3) := H
              have A17 := aM A170
              clear A170
              by_cases c18 : x12_3.length < 8796093022208
              ·rw [if_pos c18] at H
               have LMc18 := aM c18
               clear c18
               obtain ⟨y239, hy239⟩ : ∃ y_ : List (S92), y_ = (x12_3 ++ [(⟨t237, t237⟩ : S92)]) := ⟨_, rfl⟩
               replace H : (impl_DecodeClass.l0 k3 (a0.extract (a1 : Int).toNat a0.size) t232 t234 x11_10 y239 (wrap64 (x13_3 + 1))) = some (r1, r2, r3) := by first | (rw [hy239]; with_reducible exact H) | (have H2_ := bS H; rw [hy239]; with_reducible exact H2_) | (have H2_ := bS H; with_reducible exact H2_) | with_reducible exact H | (rw [hy239]; exact H) | exact H
               have Ny239 := aM hy239
               clear hy239
               have H' := aM H
               clear H
               go_wp2_with (first | ((with_reducible refine gate_dst (N := 14) rfl ?_); (try (refine gate_guard (by rfl) ?_; dsimp only)); refine box_event ?hg (N := 14) ?hd (cs := #[.int .i64 0, .int .i64 0]) (t := 92) ?hr ?_; (case hd => rfl); (case hg => rfl); (case hr => first | (go_simp; done) | (go_simp; rfl)); intro gb236 hg w19 hbox hb; have n0_ := aM (Kd.R_below (Kd.R_elderB (by (with_reducible repeat (first | apply rA | apply rN | apply rD)); exact HO_12.out) gb236 (Nat.le_of_eq hg.symm)) hb); have n1_ := aM (below_step bQ hb); have n2_ := aM (hbox); have n3_ := aM ((by rw [hg]; exact (below_size bQ) : w.heap.size ≤ gb236)); have n4_ := aM ((by rw [hg]; exact (below_size bQ) : w.heap.size ≤ gb236)); clear HO_12; clear HB; have HO_12 := n0_; have HB := n1_; have BK236 := n2_; have GW236 := n3_; have GE236 := n4_; clear n0_ n1_ n2_ n3_ n4_; clear hb hbox hg) | ((with_reducible refine gate_callee (f := 58) rfl ?_); refine goesL_ (some 67) rfl rfl Try.func58 (by kernel_rfl) rfl #[.string (a0.extract (a1 : Int).toNat a0.size), .int .i64 (wrap64 (4 + (wrap64 (2 * x13_3)))), .int .i64 2] rfl gQ ?_; (with_reducible refine (impl_GetWord.calls k3 (a0.extract (a1 : Int).toNat a0.size) (wrap64 (4 + (wrap64 (2 * x13_3)))) 2 t237 t238 _ A17.out).mono ?_); rintro e w' ⟨rfl, ⟨nd, rfl⟩⟩; refine ⟨_, rfl, ?_⟩; (try (rw [drewN_self w19]; generalize hq_ : World.drewN w19 _ = w19; have n0_ : Aside0 (Kd.R k92 92 w19 w.heap.size (fun k_ => (True ∧ k_ ≠ gb236)) u12 x12_3) := ⟨by rw [← hq_]; exact (by (with_reducible repeat (first | apply rA | apply rN | apply rD)); exact HO_12.out)⟩; have n1_ : Aside0 (w19.heap[gb236]? = some (.cells #[.int .i64 0, .int .i64 0] 92 (0, 0))) := ⟨by rw [← hq_]; exact (by (with_reducible repeat (first | refine blk_drewN ?_ _ | refine blk_drew ?_ | refine blk_alloc ?_ _)); exact BK236.out)⟩; have n2_ : Aside0 (Below w.heap.size w w19) := ⟨by rw [← hq_]; exact (by repeat (first | (with_reducible first | exact HB.out | apply bA | apply bN | apply bD | refine below_set ?_ GE236.out) | exact HB.out))⟩; clear HO_12 BK236 HB hq_; have HO_12 := n0_; have BK236 := n1_; have HB := n2_; clear n0_ n1_ n2_)); have hcz20_0 : w19.cell? ⟨gb236, 0, none⟩ = some (.int .i64 0) := (blk_cell BK236.out 0).trans rfl; have hcz20_1 : w19.cell? ⟨gb236, 1, none⟩ = some (.int .i64 0) := (blk_cell BK236.out 1).trans rfl; have hfz20_0 := blk_frozen BK236.out 0; have hfz20_1 := blk_frozen BK236.out 1) | ((with_reducible refine gate_builtin (b := .append) (xs := #[.tmp 92, .tmp 94]) rfl ?_); (try (refine gate_guard (by rfl) ?_; dsimp only)); at_builtin; refine Kd.R_append k92 (w0 := w) w.heap.size rfl (.tmp 92) (.tmp 94) 90 92 (.agg #[(.int .i64 0), (.int .i64 0)]) 16 rfl Try.underlying90 info92 rfl (by decide) (by omega) u12 x12_3 (⟨t237, t237⟩ : S92) [.int .i64 t237, .int .i64 t237] (fun k_ => k_ ≠ gb236) (fun _ => False) rfl (by first | (go_simp; done) | (go_simp; rfl)) ?aP (fun _ hk => hk.elim) ?aF ?aO ?aB ?aS ?aL ?_; (case aP => exact k92_mkM _ _ _ (⟨t237, t237⟩ : S92)); (case aB => exact (by repeat (first | (with_reducible first | exact HB.out | apply bA | apply bN | apply bD | refine below_set ?_ GE236.out) | exact HB.out))); (case aF => exact (fun k_ hk => Kd.freshB (g := gb236) (o := .cells #[.int .i64 t237, .int .i64 t237] 92 (0, 0)) (by (with_reducible repeat (first | refine blk_drewN ?_ _ | refine blk_drew ?_ | refine blk_alloc ?_ _)); refine blk_put (cs := #[.int .i64 t237, .int .i64 0]) ?_ 1 _ rfl; (with_reducible repeat (first | refine blk_drewN ?_ _ | refine blk_drew ?_ | refine blk_alloc ?_ _)); refine blk_put (cs := #[.int .i64 0, .int .i64 0]) ?_ 0 _ rfl; (with_reducible repeat (first | refine blk_drewN ?_ _ | refine blk_drew ?_ | refine blk_alloc ?_ _)); exact BK236.out) k_ hk)); (case aO => exact (by (with_reducible repeat (first | apply rA | apply rN | apply rD)); exact Kd.R_mono (Kd.R_far (p := ⟨gb236, 1, none⟩) (Kd.R_far (p := ⟨gb236, 0, none⟩) (Kd.R_mono HO_12.out (fun k_ hk => (⟨hk, hk.2⟩ : _ ∧ k_ ≠ gb236))) h2_ (.int .i64 t237)) h2_ (.int .i64 t237)) (fun _ hk => hk.1.2))); (case aS => exact (below_size (by repeat (first | (with_reducible first | exact HB.out | apply bA | apply bN | apply bD | refine below_set ?_ GE236.out) | exact HB.out)))); (case aL => have := LMc18.out; omega); intro v240 w21 ho hb hg hat; rw [← Ny239.out] at ho; have n0_ := aM (blk_grown (g := gb236) (o := .cells #[.int .i64 t237, .int .i64 t237] 92 (0, 0)) (by (with_reducible repeat (first | refine blk_drewN ?_ _ | refine blk_drew ?_ | refine blk_alloc ?_ _)); refine blk_put (cs := #[.int .i64 t237, .int .i64 0]) ?_ 1 _ rfl; (with_reducible repeat (first | refine blk_drewN ?_ _ | refine blk_drew ?_ | refine blk_alloc ?_ _)); refine blk_put (cs := #[.int .i64 0, .int .i64 0]) ?_ 0 _ rfl; (with_reducible repeat (first | refine blk_drewN ?_ _ | refine blk_drew ?_ | refine blk_alloc ?_ _)); exact BK236.out) hg (Kd.R_away HO_12.out h2_)); have n1_ := aM (hb); have n2_ := aM (ho); clear BK236; clear HB; clear HO_12; have BK236 := n0_; have HB := n1_; have HO241 := n2_; clear n0_ n1_ n2_; clear ho hb hg hat))
               go_roundg k3
               case measure => have := HJ2.out; have := HJ10.out; have := HK3.out; omega
               case rel => exact ⟨(y239), (wrap64 (x13_3 + 1)), rQ, H', ⟨by have := HJ2.out; have := HJ10.out; have := HK3.out; omega⟩, ⟨by (with_reducible repeat (first | apply rA | apply rN | apply rD)); exact Kd.R_mono HO241.out (fun _ hk => trivial)⟩, ⟨by repeat (first | (with_reducible first | exact HB.out | apply bA | apply bN | apply bD | refine below_set ?_ GE236.out) | exact HB.out)⟩⟩
              ·rw [if_neg c18] at H
               exact absurd H (by simp)
             ·rw [if_neg c16] at H
              have c16b0 : (t232 == 1) = false := beq_eq_false_iff_ne.mpr c16
              have c16b1 : (t232 != 1) = true := bne_iff_ne.mpr c16
              replace H := Option.bind_eq_some_iff.mp H
              obtain ⟨⟨t242, t243⟩, A220, H⟩ := H
              replace H : ((impl_GetWord.f k3 (a0.extract (a1 : Int).toNat a0.size) (wrap64 (6 + (wrap64 (6 * x13_3)))) 2).bind fun bt244 => (if x12_3.length < 8796093022208 then (impl_DecodeClass.l0 k3 (a0.extract (a1 : Int).toNat a0.size) t232 t234 x11_10 (x12_3 ++ [(⟨t242, bt244.1⟩ : S92)]) (wrap64 (x13_3 + 1))) else (none))) = some (r1, r2, r3) := H
              have A22 := aM A220
              clear A220
              replace H := Option.bind_eq_some_iff.mp H
              obtain ⟨⟨t244, t245⟩, A230, H⟩ := H
              replace H : (if x12_3.length < 8796093022208 then (impl_DecodeClass.l0 k3 (a0.extract (a1 : Int).toNat a0.size) t232 t234 x11_10 (x12_3 ++ [(⟨t242, t244⟩ : S92)]) (wrap64 (x13_3 + 1))) else (none)) = some (r1, r2, r3) := H
              have A23 := aM A230
              clear A230
              by_cases c24 : x12_3.length < 8796093022208
              ·rw [if_pos c24] at H
               have LMc24 := aM c24
               clear c24
               obtain ⟨y246, hy246⟩ : ∃ y_ : List (S92), y_ = (x12_3 ++ [(⟨t242, t244⟩ : S92)]) := ⟨_, rfl⟩
               replace H : (impl_DecodeClass.l0 k3 (a0.extract (a1 : Int).toNat a0.size) t232 t234 x11_10 y246 (wrap64 (x13_3 + 1))) = some (r1, r2, r3) := by first | (rw [hy246]; with_reducible exact H) | (have H2_ := bS H; rw [hy246]; with_reducible exact H2_) | (have H2_ := bS H; with_reducible exact H2_) | with_reducible exact H | (rw [hy246]; exact H) | exact H
               have Ny246 := aM hy246
               clear hy246
               have H' := aM H
               clear H
               go_wp2_with (first | ((with_reducible refine gate_dst (N := 14) rfl ?_); (try (refine gate_guard (by rfl) ?_; dsimp only)); refine box_event ?hg (N := 14) ?hd (cs := #[.int .i64 0, .int .i64 0]) (t := 92) ?hr ?_; (case hd => rfl); (case hg => rfl); (case hr => first | (go_simp; done) | (go_simp; rfl)); intro gb236 hg w25 hbox hb; have n0_ := aM (Kd.R_below (Kd.R_elderB (by (with_reducible repeat (first | apply rA | apply rN | apply rD)); exact HO_12.out) gb236 (Nat.le_of_eq hg.symm)) hb); have n1_ := aM (below_step bQ hb); have n2_ := aM (hbox); have n3_ := aM ((by rw [hg]; exact (below_size bQ) : w.heap.size ≤ gb236)); have n4_ := aM ((by rw [hg]; exact (below_size bQ) : w.heap.size ≤ gb236)); clear HO_12; clear HB; have HO_12 := n0_; have HB := n1_; have BK236 := n2_; have GW236 := n3_; have GE236 := n4_; clear n0_ n1_ n2_ n3_ n4_; clear hb hbox hg) | ((with_reducible refine gate_callee (f := 58) rfl ?_); refine goesL_ (some 79) rfl rfl Try.func58 (by kernel_rfl) rfl #[.string (a0.extract (a1 : Int).toNat a0.size), .int .i64 (wrap64 (4 + (wrap64 (6 * x13_3)))), .int .i64 2] rfl gQ ?_; (with_reducible refine (impl_GetWord.calls k3 (a0.extract (a1 : Int).toNat a0.size) (wrap64 (4 + (wrap64 (6 * x13_3)))) 2 t242 t243 _ A22.out).mono ?_); rintro e w' ⟨rfl, ⟨nd, rfl⟩⟩; refine ⟨_, rfl, ?_⟩; (try (rw [drewN_self w25]; generalize hq_ : World.drewN w25 _ = w25; have n0_ : Aside0 (Kd.R k92 92 w25 w.heap.size (fun k_ => (True ∧ k_ ≠ gb236)) u12 x12_3) := ⟨by rw [← hq_]; exact (by (with_reducible repeat (first | apply rA | apply rN | apply rD)); exact HO_12.out)⟩; have n1_ : Aside0 (w25.heap[gb236]? = some (.cells #[.int .i64 0, .int .i64 0] 92 (0, 0))) := ⟨by rw [← hq_]; exact (by (with_reducible repeat (first | refine blk_drewN ?_ _ | refine blk_drew ?_ | refine blk_alloc ?_ _)); exact BK236.out)⟩; have n2_ : Aside0 (Below w.heap.size w w25) := ⟨by rw [← hq_]; exact (by repeat (first | (with_reducible first | exact HB.out | apply bA | apply bN | apply bD | refine below_set ?_ GE236.out) | exact HB.out))⟩; clear HO_12 BK236 HB hq_; have HO_12 := n0_; have BK236 := n1_; have HB := n2_; clear n0_ n1_ n2_)); have hcz26_0 : w25.cell? ⟨gb236, 0, none⟩ = some (.int .i64 0) := (blk_cell BK236.out 0).trans rfl; have hcz26_1 : w25.cell? ⟨gb236, 1, none⟩ = some (.int .i64 0) := (blk_cell BK236.out 1).trans rfl; have hfz26_0 := blk_frozen BK236.out 0; have hfz26_1 := blk_frozen BK236.out 1) | ((with_reducible refine gate_callee (f := 58) rfl ?_); refine goesL_ (some 88) rfl rfl Try.func58 (by kernel_rfl) rfl #[.string (a0.extract (a1 : Int).toNat a0.size), .int .i64 (wrap64 (6 + (wrap64 (6 * x13_3)))), .int .i64 2] rfl gQ ?_; (with_reducible refine (impl_GetWord.calls k3 (a0.extract (a1 : Int).toNat a0.size) (wrap64 (6 + (wrap64 (6 * x13_3)))) 2 t244 t245 _ A23.out).mono ?_); rintro e w' ⟨rfl, ⟨nd, rfl⟩⟩; refine ⟨_, rfl, ?_⟩) | ((with_reducible refine gate_builtin (b := .append) (xs := #[.tmp 92, .tmp 94]) rfl ?_); (try (refine gate_guard (by rfl) ?_; dsimp only)); at_builtin; refine Kd.R_append k92 (w0 := w) w.heap.size rfl (.tmp 92) (.tmp 94) 90 92 (.agg #[(.int .i64 0), (.int .i64 0)]) 16 rfl Try.underlying90 info92 rfl (by decide) (by omega) u12 x12_3 (⟨t242, t244⟩ : S92) [.int .i64 t242, .int .i64 t244] (fun k_ => k_ ≠ gb236) (fun _ => False) rfl (by first | (go_simp; done) | (go_simp; rfl)) ?aP (fun _ hk => hk.elim) ?aF ?aO ?aB ?aS ?aL ?_; (case aP => exact k92_mkM _ _ _ (⟨t242, t244⟩ : S92)); (case aB => exact (by repeat (first | (with_reducible first | exact HB.out | apply bA | apply bN | apply bD | refine below_set ?_ GE236.out) | exact HB.out))); (case aF => exact (fun k_ hk => Kd.freshB (g := gb236) (o := .cells #[.int .i64 t242, .int .i64 t244] 92 (0, 0)) (by (with_reducible repeat (first | refine blk_drewN ?_ _ | refine blk_drew ?_ | refine blk_alloc ?_ _)); refine blk_put (cs := #[.int .i64 t242, .int .i64 0]) ?_ 1 _ rfl; (with_reducible repeat (first | refine blk_drewN ?_ _ | refine blk_drew ?_ | refine blk_alloc ?_ _)); refine blk_put (cs := #[.int .i64 0, .int .i64 0]) ?_ 0 _ rfl; (with_reducible repeat (first | refine blk_drewN ?_ _ | refine blk_drew ?_ | refine blk_alloc ?_ _)); exact BK236.out) k_ hk)); (case aO => exact (by (with_reducible repeat (first | apply rA | apply rN | apply rD)); exact Kd.R_mono (Kd.R_far (p := ⟨gb236, 1, none⟩) (Kd.R_far (p := ⟨gb236, 0, none⟩) (Kd.R_mono HO_12.out (fun k_ hk => (⟨hk, hk.2⟩ : _ ∧ k_ ≠ gb236))) h2_ (.int .i64 t242)) h2_ (.int .i64 t244)) (fun _ hk => hk.1.2))); (case aS => exact (below_size (by repeat (first | (with_reducible first | exact HB.out | apply bA | apply bN | apply bD | refine below_set ?_ GE236.out) | exact HB.out)))); (case aL => have := LMc24.out; omega); intro v247 w27 ho hb hg hat; rw [← Ny246.out] at ho; have n0_ := aM (blk_grown (g := gb236) (o := .cells #[.int .i64 t242, .int .i64 t244] 92 (0, 0)) (by (with_reducible repeat (first | refine blk_drewN ?_ _ | refine blk_drew ?_ | refine blk_alloc ?_ _)); refine blk_put (cs := #[.int .i64 t242, .int .i64 0]) ?_ 1 _ rfl; (with_reducible repeat (first | refine blk_drewN ?_ _ | refine blk_drew ?_ | refine blk_alloc ?_ _)); refine blk_put (cs := #[.int .i64 0, .int .i64 0]) ?_ 0 _ rfl; (with_reducible repeat (first | refine blk_drewN ?_ _ | refine blk_drew ?_ | refine blk_alloc ?_ _)); exact BK236.out) hg (Kd.R_away HO_12.out h2_)); have n1_ := aM (hb); have n2_ := aM (ho); clear BK236; clear HB; clear HO_12; have BK236 := n0_; have HB := n1_; have HO248 := n2_; clear n0_ n1_ n2_; clear ho hb hg hat))
               go_roundg k3
               case measure => have := HJ2.out; have := HJ10.out; have := HK3.out; omega
               case rel => exact ⟨(y246), (wrap64 (x13_3 + 1)), rQ, H', ⟨by have := HJ2.out; have := HJ10.out; have := HK3.out; omega⟩, ⟨by (with_reducible repeat (first | apply rA | apply rN | apply rD)); exact Kd.R_mono HO248.out (fun _ hk => trivial)⟩, ⟨by repeat (first | (with_reducible first | exact HB.out | apply bA | apply bN | apply bD | refine below_set ?_ GE236.out) | exact HB.out)⟩⟩
              ·rw [if_neg c24] at H
               exact absurd H (by simp)
            ·rw [if_neg c15] at H
             have c15b0 : decide (x13_3 < t234) = false := decide_eq_false c15
             clear c15
             replace H := Option.bind_eq_some_iff.mp H
             obtain ⟨⟨t249, t250⟩, A280, H⟩ := H
             replace H : (if t250 = 0 then ((impl_encodeClass.f k3 t249).bind fun t253 => (if 0 ≤ x11_10 then (if x11_10 ≤ ((a0.extract (a1 : Int).toNat a0.size).size : Int) then (if t253.toList = ((a0.extract (a1 : Int).toNat a0.size).extract 0 (x11_10 : Int).toNat).toList then (some (t249, x11_10, 0)) else (some (([] : List Int), 0, 9))) else (none)) else (none))) else (some (([] : List Int), 0, 9))) = some (r1, r2, r3) := H
             have A28 := aM A280
             clear A280
             by_cases c29 : t250 = 0
             ·rw [if_pos c29] at H
              have c29b0 : (t250 == 0) = true := beq_iff_eq.mpr c29
              have c29b1 : (t250 != 0) = false := bne_eq_false_iff_eq.mpr c29
              clear c29
              replace H := Option.bind_eq_some_iff.mp H
              obtain ⟨t253, A300, H⟩ := H
              replace H : (if 0 ≤ x11_10 then (if x11_10 ≤ ((a0.extract (a1 : Int).toNat a0.size).size : Int) then (if t253.toList = ((a0.extract (a1 : Int).toNat a0.size).extract 0 (x11_10 : Int).toNat).toList then (some (t249, x11_10, 0)) else (some (([] : List Int), 0, 9))) else (none)) else (none)) = some (r1, r2, r3) := H
              have A30 := aM A300
              clear A300
              by_cases c31 : 0 ≤ x11_10
              ·rw [if_pos c31] at H
               have c31b0 := eq_true c31
               have c31b1 : decide (0 ≤ x11_10) = true := decide_eq_true c31
               clear c31
               by_cases c32 : x11_10 ≤ ((a0.extract (a1 : Int).toNat a0.size).size : Int)
               ·rw [if_pos c32] at H
                have c32b0 := eq_true c32
                have c32b1 : decide (x11_10 ≤ ((a0.extract (a1 : Int).toNat a0.size).size : Int)) = true := decide_eq_true c32
                try (have c32b6 := c32b0; simp only [ByteArray.size_append, ByteArray.size_extract, Nat.min_self, Int.natCast_add] at c32b6)
                try (have c32b7 := c32b1; simp only [ByteArray.size_append, ByteArray.size_extract, Nat.min_self, Int.natCast_add] at c32b7)
                clear c32
                by_cases c33 : t253.toList = ((a0.extract (a1 : Int).toNat a0.size).extract 0 (x11_10 : Int).toNat).toList
                ·rw [if_pos c33] at H
                 have c33b0 : (t253.toList == ((a0.extract (a1 : Int).toNat a0.size).extract 0 (x11_10 : Int).toNat).toList) = true := beq_iff_eq.mpr c33
                 have c33b1 : (t253.toList != ((a0.extract (a1 : Int).toNat a0.size).extract 0 (x11_10 : Int).toNat).toList) = false := bne_eq_false_iff_eq.mpr c33
                 try (have c33b6 := c33b0; simp only [ByteArray.size_append, ByteArray.size_extract, Nat.min_self, Int.natCast_add] at c33b6)
                 try (have c33b7 := c33b1; simp only [ByteArray.size_append, ByteArray.size_extract, Nat.min_self, Int.natCast_add] at c33b7)
                 clear c33
                 simp only [Option.some.injEq, Prod.mk.injEq] at H
                 obtain ⟨rfl, rfl, rfl⟩ := H
                 obtain ⟨Ao34, co34, eo34⟩ := Kd.R_slice HO_12.out
                 subst eo34
                 try go_wp2_with (first | ((with_reducible refine gate_callee (f := 59) rfl ?_); refine goesL_ (some 98) rfl rfl Try.func59 (by kernel_rfl) rfl #[.slice Ao34 x12_3.length co34] rfl gQ ?_; (with_reducible refine (impl_ClassOfRanges.calls k3 _ _ x12_3 t249 t250 _ ?side1 ?side2 A28.out).mono ?_); (case side1 => repeat (first | exact (Kd.R_reads' HO_12.out).2.2 | (with_reducible first | refine cA ?_ _ | refine cN ?_ _ | refine cD ?_))); (case side2 => exact (Kd.R_reads' HO_12.out).2.1); rintro e w35 ⟨v251, rfl, ho0, hb⟩; refine ⟨_, rfl, ?_⟩; have n0_ := aM (Kd.R_below (by (with_reducible repeat (first | apply rA | apply rN | apply rD)); exact HO_12.out) hb); have n1_ := aM (Kd.R_lower ho0 (below_size bQ)); have n2_ := aM (below_step bQ hb); clear HO_12; clear HB; have HO_12 := n0_; have HO252 := n1_; have HB := n2_; clear n0_ n1_ n2_; (try clear hb); (try clear hb2); (try clear hk); (try clear hi); (try clear ho0)))
                 have n0_ := aM (Kd.R_drew HO_12.out)
                 have n1_ := aM (Kd.R_drew HO252.out)
                 have n2_ := aM (below_drew1 HB.out)
                 clear HO_12
                 clear HO252
                 clear HB
                 have HO_12 := n0_
                 have HO252 := n1_
                 have HB := n2_
                 clear n0_ n1_ n2_
                 obtain ⟨Ao37, co37, eo37⟩ := Kd.R_slice HO252.out
                 (first | subst eo37 | (injection eo37 with f1_ f2_ f3_; have f4_ := f1_.symm; have f5_ := f3_.symm; clear f1_ f2_ f3_; subst f4_; subst f5_))
                 refine start_ (n := 10) (S := fun w' => True) (ds := []) mkimpl_D614_0 (by kernel_rfl) rfl rfl trivial (fun hHeld => ?_); refine with_tabW impl_DecodeClass.tab29 impl_DecodeClass.bits29 (fun HT_ HW_ => ?_)
                 generalize w35.drew = w36 at HO_12 HO252 HB hHeld ⊢
                 refine pQ (i := 0) (N := some 101) mkimpl_D614_1 ?_
                 refine pQ (i := 1) (N := some 102) mkimpl_D614_2 ?_
                 refine pQ (i := 2) (N := some 103) mkimpl_D614_3 ?_
                 refine pQ (i := 3) (N := some 104) mkimpl_D614_4 ?_
                 refine pQ (i := 5) (N := some 106) mkimpl_D614_5 ?_
                 refine pQ (i := 6) (N := some 107) mkimpl_D614_7 ?_
                 refine pQ (i := 7) (N := some 108) mkimpl_D614_9 ?_
                 refine one_ (i := 4) (N := some 105) mkimpl_D614_11 rfl rfl (one_of HT_.out (by kernel_rfl)) (by decide) (fun K hK => ?_)
                 refine goes_ Try.func60 (by kernel_rfl) rfl #[.slice Ao37 t249.length co37] (by rfl) rfl rfl gQ ?_
                 with_reducible refine (impl_encodeClass.calls k3 _ _ t249 t253 _ ?side1 ?side2 A30.out).mono ?_
                 (case side1 => repeat (first | exact (Kd.R_reads' HO252.out).2.2 | (with_reducible first | refine cA ?_ _ | refine cN ?_ _ | refine cD ?_)))
                 (case side2 => exact (Kd.R_reads' HO252.out).2.1)
                 rintro e w38 ⟨rfl, hb⟩
                 refine ⟨_, rfl, ?_⟩
                 have n0_ := aM (Kd.R_below (by (with_reducible repeat (first | apply rA | apply rN | apply rD)); exact HO_12.out) hb)
                 have n1_ := aM (Kd.R_below (by (with_reducible repeat (first | apply rA | apply rN | apply rD)); exact HO252.out) hb)
                 have n2_ := aM (below_step bQ hb)
                 clear HO_12
                 clear HO252
                 clear HB
                 have HO_12 := n0_
                 have HO252 := n1_
                 have HB := n2_
                 clear n0_ n1_ n2_
                 (try clear hb)
                 (try clear hb2)
                 (try clear hk)
                 (try clear hi)
                 refine hK.out _ _ trivial (fun hHeld => ?_)
                 clear hK K
                 refine norm_ (a' := ?_) ?_ ?_
                 rotate_left
                 ·show Act.put _ (some 105) _ = _
                  simp only [Act.put, sI, sZ, sS, i64_w, i32_w]
                  rfl
                 refine pQ (i := 8) (N := some 109) mkimpl_D614_12 ?_
                 refine pQ (i := 9) (N := some 110) mkimpl_D614_13 ?_
                 refine done_ (done_of HT_.out (by kernel_rfl)) ?_
                 try go_wp2
                 go_ret3
                 exact ⟨_, eQ, by (with_reducible repeat (first | apply rA | apply rN | apply rD)); exact HO252.out, bQ⟩
                ·rw [if_neg c33] at H
                 have c33b0 : (t253.toList == ((a0.extract (a1 : Int).toNat a0.size).extract 0 (x11_10 : Int).toNat).toList) = false := beq_eq_false_iff_ne.mpr c33
                 have c33b1 : (t253.toList != ((a0.extract (a1 : Int).toNat a0.size).extract 0 (x11_10 : Int).toNat).toList) = true := bne_iff_ne.mpr c33
                 try (have c33b6 := c33b0; simp only [ByteArray.size_append, ByteArray.size_extract, Nat.min_self, Int.natCast_add] at c33b6)
                 try (have c33b7 := c33b1; simp only [ByteArray.size_append, ByteArray.size_extract, Nat.min_self, Int.natCast_add] at c33b7)
                 simp only [Option.some.injEq, Prod.mk.injEq] at H
                 obtain ⟨rfl, rfl, rfl⟩ := H
                 obtain ⟨Ao39, co39, eo39⟩ := Kd.R_slice HO_12.out
                 subst eo39
                 try go_wp2_with (first | ((with_reducible refine gate_callee (f := 59) rfl ?_); refine goesL_ (some 98) rfl rfl Try.func59 (by kernel_rfl) rfl #[.slice Ao39 x12_3.length co39] rfl gQ ?_; (with_reducible refine (impl_ClassOfRanges.calls k3 _ _ x12_3 t249 t250 _ ?side1 ?side2 A28.out).mono ?_); (case side1 => repeat (first | exact (Kd.R_reads' HO_12.out).2.2 | (with_reducible first | refine cA ?_ _ | refine cN ?_ _ | refine cD ?_))); (case side2 => exact (Kd.R_reads' HO_12.out).2.1); rintro e w40 ⟨v251, rfl, ho0, hb⟩; refine ⟨_, rfl, ?_⟩; have n0_ := aM (Kd.R_below (by (with_reducible repeat (first | apply rA | apply rN | apply rD)); exact HO_12.out) hb); have n1_ := aM (Kd.R_lower ho0 (below_size bQ)); have n2_ := aM (below_step bQ hb); clear HO_12; clear HB; have HO_12 := n0_; have HO252 := n1_; have HB := n2_; clear n0_ n1_ n2_; (try clear hb); (try clear hb2); (try clear hk); (try clear hi); (try clear ho0)))
                 have n0_ := aM (Kd.R_drew HO_12.out)
                 have n1_ := aM (Kd.R_drew HO252.out)
                 have n2_ := aM (below_drew1 HB.out)
                 clear HO_12
                 clear HO252
                 clear HB
                 have HO_12 := n0_
                 have HO252 := n1_
                 have HB := n2_
                 clear n0_ n1_ n2_
                 obtain ⟨Ao42, co42, eo42⟩ := Kd.R_slice HO252.out
                 (first | subst eo42 | (injection eo42 with f1_ f2_ f3_; have f4_ := f1_.symm; have f5_ := f3_.symm; clear f1_ f2_ f3_; subst f4_; subst f5_))
                 refine start_ (n := 10) (S := fun w' => True) (ds := []) mkimpl_D614_0 (by kernel_rfl) rfl rfl trivial (fun hHeld => ?_); refine with_tabW impl_DecodeClass.tab29 impl_DecodeClass.bits29 (fun HT_ HW_ => ?_)
                 generalize w40.drew = w41 at HO_12 HO252 HB hHeld ⊢
                 refine pQ (i := 0) (N := some 101) mkimpl_D614_1 ?_
                 refine pQ (i := 1) (N := some 102) mkimpl_D614_2 ?_
                 refine pQ (i := 2) (N := some 103) mkimpl_D614_3 ?_
                 refine pQ (i := 3) (N := some 104) mkimpl_D614_4 ?_
                 refine pQ (i := 5) (N := some 106) mkimpl_D614_5 ?_
                 refine pQ (i := 6) (N := some 107) mkimpl_D614_7 ?_
                 refine pQ (i := 7) (N := some 108) mkimpl_D614_9 ?_
                 refine one_ (i := 4) (N := some 105) mkimpl_D614_11 rfl rfl (one_of HT_.out (by kernel_rfl)) (by decide) (fun K hK => ?_)
                 refine goes_ Try.func60 (by kernel_rfl) rfl #[.slice Ao42 t249.length co42] (by rfl) rfl rfl gQ ?_
                 with_reducible refine (impl_encodeClass.calls k3 _ _ t249 t253 _ ?side1 ?side2 A30.out).mono ?_
                 (case side1 => repeat (first | exact (Kd.R_reads' HO252.out).2.2 | (with_reducible first | refine cA ?_ _ | refine cN ?_ _ | refine cD ?_)))
                 (case side2 => exact (Kd.R_reads' HO252.out).2.1)
                 rintro e w43 ⟨rfl, hb⟩
                 refine ⟨_, rfl, ?_⟩
                 have n0_ := aM (Kd.R_below (by (with_reducible repeat (first | apply rA | apply rN | apply rD)); exact HO_12.out) hb)
                 have n1_ := aM (Kd.R_below (by (with_reducible repeat (first | apply rA | apply rN | apply rD)); exact HO252.out) hb)
                 have n2_ := aM (below_step bQ hb)
                 clear HO_12
                 clear HO252
                 clear HB
                 have HO_12 := n0_
                 have HO252 := n1_
                 have HB := n2_
                 clear n0_ n1_ n2_
                 (try clear hb)
                 (try clear hb2)
                 (try clear hk)
                 (try clear hi)
                 refine hK.out _ _ trivial (fun hHeld => ?_)
                 clear hK K
                 refine norm_ (a' := ?_) ?_ ?_
                 rotate_left
                 ·show Act.put _ (some 105) _ = _
                  simp only [Act.put, sI, sZ, sS, i64_w, i32_w]
                  rfl
                 refine pQ (i := 8) (N := some 109) mkimpl_D614_12 ?_
                 refine pQ (i := 9) (N := some 110) mkimpl_D614_13 ?_
                 refine done_ (done_of HT_.out (by kernel_rfl)) ?_
                 try go_wp2
                 go_ret3
                 exact ⟨_, eQ, by first | exact Kd.R_nil _ _ _ _ _ | exact Kd.N_nil _ _ _ _ _ | exact Kd.V_nil _ _ _ _ _ | exact Kd.Q_nil _ _ _ _ _ | exact Kd.S_nil _ _ _ _ _, bQ⟩
               ·rw [if_neg c32] at H
                exact absurd H (by simp)
              ·rw [if_neg c31] at H
               exact absurd H (by simp)
             ·rw [if_neg c29] at H
              have c29b0 : (t250 == 0) = false := beq_eq_false_iff_ne.mpr c29
              have c29b1 : (t250 != 0) = true := bne_iff_ne.mpr c29
              simp only [Option.some.injEq, Prod.mk.injEq] at H
              obtain ⟨rfl, rfl, rfl⟩ := H
              obtain ⟨Ao44, co44, eo44⟩ := Kd.R_slice HO_12.out
              subst eo44
              try go_wp2_with (first | ((with_reducible refine gate_callee (f := 59) rfl ?_); refine goesL_ (some 98) rfl rfl Try.func59 (by kernel_rfl) rfl #[.slice Ao44 x12_3.length co44] rfl gQ ?_; (with_reducible refine (impl_ClassOfRanges.calls k3 _ _ x12_3 t249 t250 _ ?side1 ?side2 A28.out).mono ?_); (case side1 => repeat (first | exact (Kd.R_reads' HO_12.out).2.2 | (with_reducible first | refine cA ?_ _ | refine cN ?_ _ | refine cD ?_))); (case side2 => exact (Kd.R_reads' HO_12.out).2.1); rintro e w45 ⟨v251, rfl, ho0, hb⟩; refine ⟨_, rfl, ?_⟩; have n0_ := aM (Kd.R_below (by (with_reducible repeat (first | apply rA | apply rN | apply rD)); exact HO_12.out) hb); have n1_ := aM (Kd.R_lower ho0 (below_size bQ)); have n2_ := aM (below_step bQ hb); clear HO_12; clear HB; have HO_12 := n0_; have HO252 := n1_; have HB := n2_; clear n0_ n1_ n2_; (try clear hb); (try clear hb2); (try clear hk); (try clear hi); (try clear ho0)))
              have n0_ := aM (Kd.R_drew HO_12.out)
              have n1_ := aM (Kd.R_drew HO252.out)
              have n2_ := aM (below_drew1 HB.out)
              clear HO_12
              clear HO252
              clear HB
              have HO_12 := n0_
              have HO252 := n1_
              have HB := n2_
              clear n0_ n1_ n2_
              refine start_ (n := 10) (S := fun w' => True) (ds := []) mkimpl_D614_0 (by kernel_rfl) rfl rfl trivial (fun hHeld => ?_); refine with_tabW impl_DecodeClass.tab29 impl_DecodeClass.bits29 (fun HT_ HW_ => ?_)
              generalize w45.drew = w46 at HO_12 HO252 HB hHeld ⊢
              refine pQ (i := 0) (N := some 101) mkimpl_D614_1 ?_
              refine pQ (i := 1) (N := some 102) mkimpl_D614_2 ?_
              refine pQ (i := 2) (N := some 103) mkimpl_D614_3 ?_
              refine uQ (i := 3) (N := some 104) mkimpl_D614_4 ?_
              refine uQ (i := 4) (N := some 105) mkimpl_D614_6 ?_
              refine uQ (i := 5) (N := some 106) mkimpl_D614_8 ?_
              refine uQ (i := 6) (N := some 107) mkimpl_D614_10 ?_
              refine uQ (i := 7) (N := some 108) mkimpl_D614_11 ?_
              refine uQ (i := 8) (N := some 109) mkimpl_D614_12 ?_
              refine pQ (i := 9) (N := some 110) mkimpl_D614_13 ?_
              refine done_ (done_of HT_.out (by kernel_rfl)) ?_
              try go_wp2
              go_ret3
              exact ⟨_, eQ, by first | exact Kd.R_nil _ _ _ _ _ | exact Kd.N_nil _ _ _ _ _ | exact Kd.V_nil _ _ _ _ _ | exact Kd.Q_nil _ _ _ _ _ | exact Kd.S_nil _ _ _ _ _, bQ⟩
      ·replace c10 := Bool.eq_false_iff.mpr c10
       subst c10
       have H1 : (some (([] : List Int), 0, 11)) = some (r1, r2, r3) := by rw [if_neg (show ¬ (false = true) by decide)] at H; exact H
       clear H
       have H := H1
       clear H1
       simp only [Option.some.injEq, Prod.mk.injEq] at H
       obtain ⟨rfl, rfl, rfl⟩ := H
       go_wp2_with (first | ((with_reducible refine gate_callee (f := 58) rfl ?_); refine goesL_ (some 30) rfl rfl Try.func58 (by kernel_rfl) rfl #[.string (a0.extract (a1 : Int).toNat a0.size), .int .i64 0, .int .i64 2] rfl gQ ?_; (with_reducible refine (impl_GetWord.calls kj2 (a0.extract (a1 : Int).toNat a0.size) 0 2 t232 t233 _ A8.out).mono ?_); rintro e w' ⟨rfl, ⟨nd, rfl⟩⟩; refine ⟨_, rfl, ?_⟩) | ((with_reducible refine gate_callee (f := 58) rfl ?_); refine goesL_ (some 35) rfl rfl Try.func58 (by kernel_rfl) rfl #[.string (a0.extract (a1 : Int).toNat a0.size), .int .i64 2, .int .i64 2] rfl gQ ?_; (with_reducible refine (impl_GetWord.calls kj2 (a0.extract (a1 : Int).toNat a0.size) 2 2 t234 false _ A9.out).mono ?_); rintro e w' ⟨rfl, ⟨nd, rfl⟩⟩; refine ⟨_, rfl, ?_⟩))
       go_ret3
       exact ⟨_, eQ, by first | exact Kd.R_nil _ _ _ _ _ | exact Kd.N_nil _ _ _ _ _ | exact Kd.V_nil _ _ _ _ _ | exact Kd.Q_nil _ _ _ _ _ | exact Kd.S_nil _ _ _ _ _, bQ⟩
     ·rw [if_neg c7] at H
      exact absurd H (by simp)
    ·rw [if_neg c6] at H
     exact absurd H (by simp)

/-! ### laws_markInt64S: function 18 -/
def laws_markInt64S.l0 : Nat → List Int → Int → Int → Option (Int × List Int)
 | 0, _, _, _ => none
 | k + 1, x0, x1, x5 => if x5 < (x0.length : Int) then (if 0 ≤ x5 then (laws_markInt64S.l0 k (x0.set (x5 : Int).toNat x1) (wrap64 (x1 + 1)) (wrap64 (x5 + 1))) else (none)) else (some (x1, x0))
def laws_markInt64S.f (k : Nat) (l0 : List Int) (a1 : Int) : Option (Int × List Int) := laws_markInt64S.l0 k l0 a1 0
theorem laws_markInt64S.mono_l : ∀ k, (∀ y0 y1 y2, LeO (laws_markInt64S.l0 k y0 y1 y2) (laws_markInt64S.l0 (k + 1) y0 y1 y2))
 | 0 => fun _ _ _ r h => by simp [laws_markInt64S.l0] at h
 | k + 1 => by
  have ih0 := laws_markInt64S.mono_l k
  ·intro y0 y1 y2
   unfold laws_markInt64S.l0
   repeat' first
   | (with_reducible exact ih0 _ _ _)
   | (with_reducible exact LeO.refl _)
   | (with_reducible exact LeO.none _)
   | (with_reducible refine LeO.ite ?_ ?_)
   | (with_reducible refine LeO.bind ?_ (fun _ => ?_))
   | exact ih0 _ _ _
   | exact LeO.none _
   | refine LeO.ite ?_ ?_
   | refine LeO.bind ?_ (fun _ => ?_)
theorem laws_markInt64S.mono : ∀ a0 a1 k, LeO (laws_markInt64S.f k a0 a1) (laws_markInt64S.f (k + 1) a0 a1) := by
 intro a0 a1 k
 have ih0 := laws_markInt64S.mono_l k
 unfold laws_markInt64S.f
 repeat' first
   | (with_reducible exact ih0 _ _ _)
   | (with_reducible exact LeO.refl _)
   | (with_reducible exact LeO.none _)
   | (with_reducible refine LeO.ite ?_ ?_)
   | (with_reducible refine LeO.bind ?_ (fun _ => ?_))
   | exact ih0 _ _ _
   | exact LeO.none _
   | refine LeO.ite ?_ ?_
   | refine LeO.bind ?_ (fun _ => ?_)
set_option maxHeartbeats 8000000 in
set_option maxRecDepth 100000 in
theorem laws_markInt64S.calls (k : Nat) (P0_ : Nat → Prop) (u9000_ : Value) (l0 : List Int) (a1 : Int) (r1 : Int) (r2 : List Int) (w0 w : World) (hB : Below w0.heap.size w0 w) (ho0 : Kd.R (Kd.int .i64) 2 w w0.heap.size P0_ u9000_ l0) (h : laws_markInt64S.f k l0 a1 = some (r1, r2)) :
  Calls Try.prog 18 #[u9000_, .int .i64 a1] w fun e w' => e = .returned (.int .i64 r1) ∧ Kd.R (Kd.int .i64) 2 w' w0.heap.size (fun k_ => (P0_ k_ ∨ w.heap.size ≤ k_)) u9000_ r2 ∧ Below w0.heap.size w0 w' ∧ Kept w w' (fun k_ => P0_ k_) := by
 have HO0 := aM (show Kd.R (Kd.int .i64) 2 w w0.heap.size (fun k_ => (P0_ k_ ∨ w.heap.size ≤ k_)) u9000_ l0 from Kd.R_mono ho0 (fun k_ hk => (.inl hk)))
 have HK := aM (Kept.refl w (fun k_ => P0_ k_))
 have HW0 := aM hB.size
 have HB := aM hB
 clear hB
 have H : (laws_markInt64S.l0 k l0 a1 0) = some (r1, r2) := h
 clear h
 have H' := aM H
 clear H
 go_enter Try.func18, Try.ntmps18
 go_wp2
 go_loopg [1, 5] k (fun kq v1 v5 w' => ∃ (x0_1 : List Int) (x1_1 : Int) (x5_1 : Int), v1 = .int .i64 x1_1 ∧ v5 = .int .i64 x5_1 ∧ Aside0 (laws_markInt64S.l0 kq x0_1 x1_1 x5_1 = some (r1, r2)) ∧ Aside0 (kq ≤ k) ∧ Aside0 (Kd.R (Kd.int .i64) 2 w' w0.heap.size (fun k_ => (P0_ k_ ∨ w.heap.size ≤ k_)) u9000_ x0_1) ∧ Aside0 (Kept w w' (fun k_ => P0_ k_)) ∧ Aside0 (Below w0.heap.size w0 w'))
 case atStart => exact ⟨(l0), (a1), (0), rQ, rQ, H', ⟨Nat.le_refl _⟩, ⟨by (with_reducible repeat (first | apply rA | apply rN | apply rD)); exact HO0.out⟩, ⟨by repeat (first | (with_reducible first | exact HK.out | apply Kept.alloc | apply Kept.drewN | apply Kept.drew) | exact HK.out)⟩, ⟨bQ⟩⟩
 case round =>
  clear H'
  try clear c1
  try clear p2
  obtain ⟨x0_1, x1_1, x5_1, rfl, rfl, HA, HK1, HO_0, HK, HB⟩ := hrel
  cases gk with
  | zero => exact absurd HA.out (by simp [laws_markInt64S.l0])
  | succ k1 =>
   have H := HA.out
   clear HA
   simp only [laws_markInt64S.l0] at H
   by_cases c3 : x5_1 < (x0_1.length : Int)
   ·rw [if_pos c3] at H
    have c3b0 : decide (x5_1 < (x0_1.length : Int)) = true := decide_eq_true c3
    clear c3
    by_cases c4 : 0 ≤ x5_1
    ·rw [if_pos c4] at H
     have c4b0 : decide (0 ≤ x5_1) = true := decide_eq_true c4
     clear c4
     obtain ⟨y254, hy254⟩ : ∃ y_ : List Int, y_ = (x0_1.set (x5_1 : Int).toNat x1_1) := ⟨_, rfl⟩
     replace H : (laws_markInt64S.l0 k1 y254 (wrap64 (x1_1 + 1)) (wrap64 (x5_1 + 1))) = some (r1, r2) := by first | (rw [hy254]; with_reducible exact H) | (have H2_ := bS H; rw [hy254]; with_reducible exact H2_) | (have H2_ := bS H; with_reducible exact H2_) | with_reducible exact H | (rw [hy254]; exact H) | exact H
     have Ny254 := aM hy254
     clear hy254
     have H' := aM H
     clear H
     obtain ⟨Ao6, co6, eo6⟩ := Kd.R_slice HO_0.out
     subst eo6
     have p5 : 0 ≤ (x5_1 : Int) := dA
     have q5 : (x5_1 : Int) < ((x0_1.length : Int) : Int) := dA
     obtain ⟨go5, co5, eo5, gb5, gl5, cl5, HG5⟩ := Kd.R_form HO_0.out (by omega)
     (first | cases eo5 | (injection eo5 with ea_ en_ ec_; (first | subst ea_ | (injection ea_ with ea_; subst ea_)); subst ec_; clear en_))
     have GB5 := aM gb5
     have GG5 := aM HG5
     clear gb5 gl5 HG5
     have HMgo5 := aM (show (P0_ go5 ∨ w.heap.size ≤ go5) from (HO_0.out.1 _ rfl))
     obtain ⟨hx5_0, hf5_0⟩ := Kd.R_celln 0 HO_0.out (x5_1 : Int) p5 q5
     replace p5 := eq_true p5
     replace q5 := eq_true q5
     have HP7 := Kd.R_putg HO_0.out (x5_1 : Int) x1_1
     go_wp2_with (first | ((with_reducible refine gate_store (t := 2) (p := 15) rfl ?_); refine store_event (t := 2) (p := 15) (v := ?vo_w8) (w1 := (wr.setCell ⟨go5, (x5_1 : Int).toNat, none⟩ (.int .i64 x1_1))) ?hg ?ho ?hn ?hr ?_; (case ho => rfl); (case hg => rfl); (case hn => rfl); (case hr => first | (go_simp; done) | (go_simp; rfl)); intro w8 hw; have hg : wr.grownBy w8 (some go5) := (by rw [hw]; exact HP7.2); have hp_ : Kd.R (Kd.int .i64) 2 w8 w0.heap.size (fun k_ => (P0_ k_ ∨ w.heap.size ≤ k_)) (.slice (some ⟨go5, 0, none⟩) x0_1.length co6) y254 := (by rw [hw, Ny254.out]; exact HP7.1); clear HP7; have n0_ := aM (hp_); have n1_ := aM ((by rw [hw]; exact below_set (HB.out) GB5.out : Below w0.heap.size w0 w8)); have n2_ := aM (Kept.of_grown (S := (fun k_ => P0_ k_)) hg (by repeat (first | (with_reducible first | exact HK.out | apply Kept.alloc | apply Kept.drewN | apply Kept.drew) | exact HK.out)) (fun k_ e_ => (HO_0.out.1 k_ e_))); clear HO_0; clear HB; clear HK; have HO_0 := n0_; have HB := n1_; have HK := n2_; clear n0_ n1_ n2_; clear hg hw hp_))
     go_roundg k1
     case measure => have := HK1.out; omega
     case rel => exact ⟨(y254), (wrap64 (x1_1 + 1)), (wrap64 (x5_1 + 1)), rQ, rQ, H', ⟨by have := HK1.out; omega⟩, ⟨by (with_reducible repeat (first | apply rA | apply rN | apply rD)); exact HO_0.out⟩, ⟨by repeat (first | (with_reducible first | exact HK.out | apply Kept.alloc | apply Kept.drewN | apply Kept.drew) | exact HK.out)⟩, ⟨bQ⟩⟩
    ·rw [if_neg c4] at H
     exact absurd H (by simp)
   ·rw [if_neg c3] at H
    have c3b0 : decide (x5_1 < (x0_1.length : Int)) = false := decide_eq_false c3
    clear c3
    simp only [Option.some.injEq, Prod.mk.injEq] at H
    obtain ⟨rfl, rfl⟩ := H
    obtain ⟨Ao9, co9, eo9⟩ := Kd.R_slice HO_0.out
    subst eo9
    go_wp2
    go_ret
    exact ⟨eQ, by (with_reducible repeat (first | apply rA | apply rN | apply rD)); exact HO_0.out, bQ, by repeat (first | (with_reducible first | exact HK.out | apply Kept.alloc | apply Kept.drewN | apply Kept.drew) | exact HK.out)⟩

/-! ### laws_heldInt64S: function 19 -/
def laws_heldInt64S.l0 : Nat → List Int → Int → Int → Option (Int)
 | 0, _, _, _ => none
 | k + 1, x0, x1, x5 => if x5 < (x0.length : Int) then (if 0 ≤ x5 then (if (rd x0 x5) = x1 then (laws_heldInt64S.l0 k x0 (wrap64 (x1 + 1)) (wrap64 (x5 + 1))) else (some (-1))) else (none)) else (some x1)
def laws_heldInt64S.f (k : Nat) (l0 : List Int) (a1 : Int) : Option (Int) := laws_heldInt64S.l0 k l0 a1 0
theorem laws_heldInt64S.mono_l : ∀ k, (∀ y0 y1 y2, LeO (laws_heldInt64S.l0 k y0 y1 y2) (laws_heldInt64S.l0 (k + 1) y0 y1 y2))
 | 0 => fun _ _ _ r h => by simp [laws_heldInt64S.l0] at h
 | k + 1 => by
  have ih0 := laws_heldInt64S.mono_l k
  ·intro y0 y1 y2
   unfold laws_heldInt64S.l0
   repeat' first
   | (with_reducible exact ih0 _ _ _)
   | (with_reducible exact LeO.refl _)
   | (with_reducible exact LeO.none _)
   | (with_reducible refine LeO.ite ?_ ?_)
   | (with_reducible refine LeO.bind ?_ (fun _ => ?_))
   | exact ih0 _ _ _
   | exact LeO.none _
   | refine LeO.ite ?_ ?_
   | refine LeO.bind ?_ (fun _ => ?_)
theorem laws_heldInt64S.mono : ∀ a0 a1 k, LeO (laws_heldInt64S.f k a0 a1) (laws_heldInt64S.f (k + 1) a0 a1) := by
 intro a0 a1 k
 have ih0 := laws_heldInt64S.mono_l k
 unfold laws_heldInt64S.f
 repeat' first
   | (with_reducible exact ih0 _ _ _)
   | (with_reducible exact LeO.refl _)
   | (with_reducible exact LeO.none _)
   | (with_reducible refine LeO.ite ?_ ?_)
   | (with_reducible refine LeO.bind ?_ (fun _ => ?_))
   | exact ih0 _ _ _
   | exact LeO.none _
   | refine LeO.ite ?_ ?_
   | refine LeO.bind ?_ (fun _ => ?_)
set_option maxHeartbeats 8000000 in
set_option maxRecDepth 100000 in
theorem laws_heldInt64S.calls (k : Nat) (A0 : Option Addr) (c0 : Nat) (l0 : List Int) (a1 : Int) (r : Int) (w : World) (hr0 : Kd.C (Kd.int .i64) w A0 l0.length l0) (hc0 : l0.length ≤ c0) (h : laws_heldInt64S.f k l0 a1 = some r) :
  Calls Try.prog 19 #[.slice A0 l0.length c0, .int .i64 a1] w fun e w' => e = .returned (.int .i64 r) ∧ Drawn0 w w' := by
 have HR0 := aM hr0
 have HC0 := aM hc0
 clear hr0 hc0
 have H : (laws_heldInt64S.l0 k l0 a1 0) = some r := h
 clear h
 have H' := aM H
 clear H
 go_enter Try.func19, Try.ntmps19
 go_wp2
 go_loopg [1, 5] k (fun kq v1 v5 w' => ∃ (x1_1 : Int) (x5_1 : Int), v1 = .int .i64 x1_1 ∧ v5 = .int .i64 x5_1 ∧ Aside0 (laws_heldInt64S.l0 kq l0 x1_1 x5_1 = some r) ∧ Aside0 (kq ≤ k) ∧ Drawn0 w w')
 case atStart => exact ⟨(a1), (0), rQ, rQ, H', ⟨Nat.le_refl _⟩, by repeat (first | exact Drawn0.refl _ | apply Drawn0.step)⟩
 case round =>
  clear H'
  try clear c1
  try clear p2
  obtain ⟨x1_1, x5_1, rfl, rfl, HA, HK1, ⟨m1, rfl⟩⟩ := hrel
  cases gk with
  | zero => exact absurd HA.out (by simp [laws_heldInt64S.l0])
  | succ k1 =>
   have H := HA.out
   clear HA
   simp only [laws_heldInt64S.l0] at H
   by_cases c3 : x5_1 < (l0.length : Int)
   ·rw [if_pos c3] at H
    have c3b0 : decide (x5_1 < (l0.length : Int)) = true := decide_eq_true c3
    clear c3
    by_cases c4 : 0 ≤ x5_1
    ·rw [if_pos c4] at H
     have c4b0 : decide (0 ≤ x5_1) = true := decide_eq_true c4
     clear c4
     by_cases c5 : (rd l0 x5_1) = x1_1
     ·rw [if_pos c5] at H
      have c5b0 : ((rd l0 x5_1) == x1_1) = true := beq_iff_eq.mpr c5
      have c5b1 : ((rd l0 x5_1) != x1_1) = false := bne_eq_false_iff_eq.mpr c5
      clear c5
      have H' := aM H
      clear H
      have p255 : 0 ≤ (x5_1 : Int) := dA
      have q255 : x5_1 < (l0.length : Int) := dA
      obtain ⟨ad255, e255, hx255_0⟩ := Kd.at_int HR0.out x5_1 p255 q255
      cases e255
      replace p255 := eq_true p255
      replace q255 := eq_true q255
      go_wp2
      go_roundg k1
      case measure => have := HK1.out; omega
      case rel => exact ⟨(wrap64 (x1_1 + 1)), (wrap64 (x5_1 + 1)), rQ, rQ, H', ⟨by have := HK1.out; omega⟩, by repeat (first | exact Drawn0.refl _ | apply Drawn0.step)⟩
     ·rw [if_neg c5] at H
      have c5b0 : ((rd l0 x5_1) == x1_1) = false := beq_eq_false_iff_ne.mpr c5
      have c5b1 : ((rd l0 x5_1) != x1_1) = true := bne_iff_ne.mpr c5
      obtain rfl := Option.some.inj H
      have p255 : 0 ≤ (x5_1 : Int) := dA
      have q255 : x5_1 < (l0.length : Int) := dA
      obtain ⟨ad255, e255, hx255_0⟩ := Kd.at_int HR0.out x5_1 p255 q255
      cases e255
      replace p255 := eq_true p255
      replace q255 := eq_true q255
      go_wp2
      go_ret
      exact ⟨rQ, by repeat (first | exact Drawn0.refl _ | apply Drawn0.step)⟩
    ·rw [if_neg c4] at H
     exact absurd H (by simp)
   ·rw [if_neg c3] at H
    have c3b0 : decide (x5_1 < (l0.length : Int)) = false := decide_eq_false c3
    clear c3
    obtain rfl := Option.some.inj H
    go_wp2
    go_ret
    exact ⟨rQ, by repeat (first | exact Drawn0.refl _ | apply Drawn0.step)⟩

end Go.Proofs.Ytdahcapolipnbaa.QFnExactDecodeClass
