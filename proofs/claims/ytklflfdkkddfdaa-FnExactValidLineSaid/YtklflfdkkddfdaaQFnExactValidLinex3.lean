/- What some Go functions answer, each as a Lean function, and that the machine answers so: written by a program of this session out of the translation. -/
import Derived.Test.YtklflfdkkddfdaaQFnExactValidLinex0
import Derived.Test.YtklflfdkkddfdaaQFnExactValidLinex1
import Derived.Test.YtklflfdkkddfdaaQFnExactValidLinex2
namespace Go.Proofs.Ytklflfdkkddfdaa.QFnExactValidLine
open Go.RowKit Go.Proofs.YtklflfdkkddfdaaW.PrintWords Go.Proofs.YtklflfdkkddfdaaW.PrintLast Go.Proofs.YtklflfdkkddfdaaW.PrintMore Go.Proofs.Ytklflfdkkddfdaa.Rp
attribute [local go_sem] max2_int min2_int max_two min_two max_three min_three max_four min_four   -- for this text's walks alone
set_option linter.unusedVariables false
set_option linter.unusedSimpArgs false

/-! ### spec_l24Ok_at: function 32 -/
def spec_l24Ok_at.j0 : Nat → Int → Bool → List (S27) → Int → Option (Bool)
 | 0, _, _, _, _ => none
 | k + 1, x3, x26, x500, x501 => if x26 = true then (some false) else ((spec_IsName.f k ((rd_T27 x500 x501).f1)).bind fun t137 => (if ((rd_T27 x500 x501).f0) = 1 then (if t137 = true then ((spec_l24Items.f k ((rd_T27 x500 x501).f3) 1 20).bind fun t141 => (if t141 = true then (if (((rd_T27 x500 x501).f5).length : Int) = 0 then (some (((rd_T27 x500 x501).f6) == 0)) else (some false)) else (some false))) else (some false)) else (if ((rd_T27 x500 x501).f0) = 2 then (if t137 = true then (if (((rd_T27 x500 x501).f3).length : Int) = 0 then (if (((rd_T27 x500 x501).f5).length : Int) = 0 then (some (((rd_T27 x500 x501).f6) == 0)) else (some false)) else (some false)) else (some false)) else (if ((rd_T27 x500 x501).f0) = 3 then (if ((rd_T27 x500 x501).f1).toList = ([] : List UInt8) then ((spec_l24Items.f k ((rd_T27 x500 x501).f3) 1 x3).bind fun t147 => (if t147 = true then ((spec_l24Items.f k ((rd_T27 x500 x501).f5) 0 x3).bind fun t149 => (if t149 = true then (some (((rd_T27 x500 x501).f6) == 0)) else (some false))) else (some false))) else (some false)) else (if ((rd_T27 x500 x501).f0) = 4 then (if ((rd_T27 x500 x501).f1).toList = ([] : List UInt8) then (if (((rd_T27 x500 x501).f3).length : Int) = 0 then (if (((rd_T27 x500 x501).f5).length : Int) = 0 then (some (((rd_T27 x500 x501).f6) == 0)) else (some false)) else (some false)) else (some false)) else (if ((rd_T27 x500 x501).f0) = 5 then (if ((rd_T27 x500 x501).f1).toList = ([] : List UInt8) then ((spec_l24Items.f k ((rd_T27 x500 x501).f3) 2 2).bind fun t156 => (if t156 = true then (if (((rd_T27 x500 x501).f5).length : Int) = 0 then ((spec_l00In.f ((rd_T27 x500 x501).f6) (-262144) 262144).bind fun t158 => (some t158)) else (some false)) else (some false))) else (some false)) else (if ((rd_T27 x500 x501).f0) = 6 then (if t137 = true then ((spec_l24Items.f k ((rd_T27 x500 x501).f3) 2 2).bind fun t160 => (if t160 = true then (if (((rd_T27 x500 x501).f5).length : Int) = 0 then (some (((rd_T27 x500 x501).f6) == 0)) else (some false)) else (some false))) else (some false)) else (if ((rd_T27 x500 x501).f0) = 7 then (if t137 = true then (if (((rd_T27 x500 x501).f3).length : Int) = 0 then ((spec_l24Forms.f k ((rd_T27 x500 x501).f5)).bind fun t164 => (if t164 = true then ((spec_l00In.f ((rd_T27 x500 x501).f6) 1 3).bind fun t166 => (some t166)) else (some false))) else (some false)) else (some false)) else (some false)))))))))
def spec_l24Ok_at.f (k : Nat) (l0_0 : List (S27)) (a0_1 : Int) : Option (Bool) := (spec_l24Context.f ((rd_T27 l0_0 a0_1).f0)).bind fun t131 => ((spec_l24Items.f k ((rd_T27 l0_0 a0_1).f2) 0 t131).bind fun t133 => (if t133 = true then ((spec_l24Items.f k ((rd_T27 l0_0 a0_1).f4) 0 t131).bind fun t135 => (spec_l24Ok_at.j0 k t131 (!t135) l0_0 a0_1)) else (spec_l24Ok_at.j0 k t131 true l0_0 a0_1)))
theorem spec_l24Ok_at.mono_l : ∀ k, (∀ y0 y1 y2 y3, LeO (spec_l24Ok_at.j0 k y0 y1 y2 y3) (spec_l24Ok_at.j0 (k + 1) y0 y1 y2 y3))
 | 0 => fun _ _ _ _ r h => by simp [spec_l24Ok_at.j0] at h
 | k + 1 => by
  have ih0 := spec_l24Ok_at.mono_l k
  ·intro y0 y1 y2 y3
   unfold spec_l24Ok_at.j0
   repeat' first
   | (with_reducible exact ih0 _ _ _ _)
   | (with_reducible exact spec_IsName.mono _ _)
   | (with_reducible exact spec_l24Forms.mono _ _)
   | (with_reducible exact spec_l24Items.mono _ _ _ _)
   | (with_reducible exact LeO.refl _)
   | (with_reducible exact LeO.none _)
   | (with_reducible refine LeO.ite ?_ ?_)
   | (with_reducible refine LeO.bind ?_ (fun _ => ?_))
   | exact ih0 _ _ _ _
   | exact spec_IsName.mono _ _
   | exact spec_l24Forms.mono _ _
   | exact spec_l24Items.mono _ _ _ _
   | exact LeO.none _
   | refine LeO.ite ?_ ?_
   | refine LeO.bind ?_ (fun _ => ?_)
theorem spec_l24Ok_at.mono : ∀ a0 a1 k, LeO (spec_l24Ok_at.f k a0 a1) (spec_l24Ok_at.f (k + 1) a0 a1) := by
 intro a0 a1 k
 have ih0 := spec_l24Ok_at.mono_l k
 unfold spec_l24Ok_at.f
 repeat' first
   | (with_reducible exact ih0 _ _ _ _)
   | (with_reducible exact spec_IsName.mono _ _)
   | (with_reducible exact spec_l24Forms.mono _ _)
   | (with_reducible exact spec_l24Items.mono _ _ _ _)
   | (with_reducible exact LeO.refl _)
   | (with_reducible exact LeO.none _)
   | (with_reducible refine LeO.ite ?_ ?_)
   | (with_reducible refine LeO.bind ?_ (fun _ => ?_))
   | exact ih0 _ _ _ _
   | exact spec_IsName.mono _ _
   | exact spec_l24Forms.mono _ _
   | exact spec_l24Items.mono _ _ _ _
   | exact LeO.none _
   | refine LeO.ite ?_ ?_
   | refine LeO.bind ?_ (fun _ => ?_)
set_option maxHeartbeats 8000000 in
set_option maxRecDepth 100000 in
theorem spec_l24Ok_at.calls (k : Nat) (p0_ : Addr) (l0_0 : List (S27)) (a0_1 : Int) (r : Bool) (w : World) (hP0_ : RPtr k27 ((a0_1 : Int).toNat * 7) w p0_ l0_0 a0_1) (h : spec_l24Ok_at.f k l0_0 a0_1 = some r) :
  Calls Try.prog 32 #[.pointer (some p0_)] w fun e w' => e = .returned (.bool r) ∧ Below w.heap.size w w' := by
 obtain ⟨ad0_, rfl, hr0_0, hi0_, hj0_⟩ := hP0_
 have hc0_0 : l0_0.length ≤ l0_0.length := Nat.le_refl _
 replace hi0_ := decide_eq_true hi0_
 replace hj0_ := decide_eq_true hj0_
 obtain ⟨ad9000, A9000_2, c9000_2, A9000_3, c9000_3, A9000_4, c9000_4, A9000_5, c9000_5, e9000, HX9000_0, HX9000_1, HX9000_2, HX9000_3, HX9000_4, HX9000_5, HX9000_6, HC9000_2, HR9000_2, HC9000_3, HR9000_3, HC9000_4, HR9000_4, HC9000_5, HR9000_5⟩ := at_T27 hr0_0 a0_1 (of_decide_eq_true hi0_) (of_decide_eq_true hj0_)
 obtain rfl : ad0_ = ad9000 := (by injection e9000)
 replace HX9000_0 := aM HX9000_0
 replace HX9000_1 := aM HX9000_1
 replace HX9000_2 := aM HX9000_2
 replace HX9000_3 := aM HX9000_3
 replace HX9000_4 := aM HX9000_4
 replace HX9000_5 := aM HX9000_5
 replace HX9000_6 := aM HX9000_6
 replace HC9000_2 := aM HC9000_2
 replace HR9000_2 := aM HR9000_2
 replace HC9000_3 := aM HC9000_3
 replace HR9000_3 := aM HR9000_3
 replace HC9000_4 := aM HC9000_4
 replace HR9000_4 := aM HR9000_4
 replace HC9000_5 := aM HC9000_5
 replace HR9000_5 := aM HR9000_5
 have HR0_0 := aM hr0_0
 have HC0_0 := aM hc0_0
 clear hr0_0 hc0_0
 have HB := aM (Below.refl w.heap.size w)
 have H : ((spec_l24Context.f ((rd_T27 l0_0 a0_1).f0)).bind fun t131 => ((spec_l24Items.f k ((rd_T27 l0_0 a0_1).f2) 0 t131).bind fun t133 => (if t133 = true then ((spec_l24Items.f k ((rd_T27 l0_0 a0_1).f4) 0 t131).bind fun t135 => (spec_l24Ok_at.j0 k t131 (!t135) l0_0 a0_1)) else (spec_l24Ok_at.j0 k t131 true l0_0 a0_1)))) = some r := h
 clear h
 replace H := Option.bind_eq_some_iff.mp H
 obtain ⟨t131, A20, H⟩ := H
 replace H : ((spec_l24Items.f k ((rd_T27 l0_0 a0_1).f2) 0 t131).bind fun t133 => (if t133 = true then ((spec_l24Items.f k ((rd_T27 l0_0 a0_1).f4) 0 t131).bind fun t135 => (spec_l24Ok_at.j0 k t131 (!t135) l0_0 a0_1)) else (spec_l24Ok_at.j0 k t131 true l0_0 a0_1))) = some r := H
 have A2 := aM A20
 clear A20
 have HC3 := aM H
 clear H
 have hx130_0 := HX9000_0.out
 have hx130_1 := HX9000_1.out
 have hx130_2 := HX9000_2.out
 have hx130_3 := HX9000_3.out
 have hx130_4 := HX9000_4.out
 have hx130_5 := HX9000_5.out
 have hx130_6 := HX9000_6.out
 have HR130_2 := HR9000_2
 have HC130_2 := HC9000_2
 have HR130_3 := HR9000_3
 have HC130_3 := HC9000_3
 have HR130_4 := HR9000_4
 have HC130_4 := HC9000_4
 have HR130_5 := HR9000_5
 have HC130_5 := HC9000_5
 go_enter Try.func32, Try.ntmps32
 go_upto_region 2 with (first | ((with_reducible refine gate_callee (f := 54) rfl ?_); refine goesL_ (some 10) rfl rfl Try.func54 (by kernel_rfl) rfl #[.int .i64 ((rd_T27 l0_0 a0_1).f0)] rfl (by (try simp only [List.map_toArray, List.map_cons, List.map_nil]); first | done | rfl | (simp only [List.length_drop, List.length_take]; rfl)) ?_; (with_reducible refine (spec_l24Context.calls ((rd_T27 l0_0 a0_1).f0) t131 _ A2.out).mono ?_); rintro e w' ⟨rfl, ⟨nd, rfl⟩⟩; refine ⟨_, rfl, ?_⟩))
 (try simp only [Act.put, List.setIfInBounds_toArray, List.set_cons_zero, List.set_cons_succ])
 go_cut [26] (fun v26 wc => ∃ (kq : Nat) (x26_2 : Bool), v26 = .bool x26_2 ∧ Aside0 (spec_l24Ok_at.j0 kq t131 x26_2 l0_0 a0_1 = some r) ∧ Aside0 (kq ≤ k) ∧ Aside0 (Below w.heap.size w wc))
 case first =>
  have H := HC3.out
  clear HC3
  replace H := Option.bind_eq_some_iff.mp H
  obtain ⟨t133, A40, H⟩ := H
  replace H : (if t133 = true then ((spec_l24Items.f k ((rd_T27 l0_0 a0_1).f4) 0 t131).bind fun t135 => (spec_l24Ok_at.j0 k t131 (!t135) l0_0 a0_1)) else (spec_l24Ok_at.j0 k t131 true l0_0 a0_1)) = some r := H
  have A4 := aM A40
  clear A40
  by_cases c5 : t133 = true
  ·subst c5
   have H1 : ((spec_l24Items.f k ((rd_T27 l0_0 a0_1).f4) 0 t131).bind fun t135 => (spec_l24Ok_at.j0 k t131 (!t135) l0_0 a0_1)) = some r := by rw [if_pos rfl] at H; exact H
   clear H
   have H := H1
   clear H1
   replace H := Option.bind_eq_some_iff.mp H
   obtain ⟨t135, A60, H⟩ := H
   replace H : (spec_l24Ok_at.j0 k t131 (!t135) l0_0 a0_1) = some r := H
   have A6 := aM A60
   clear A60
   have H' := aM H
   clear H
   have hx132_0 := HX9000_0.out
   have hx132_1 := HX9000_1.out
   have hx132_2 := HX9000_2.out
   have hx132_3 := HX9000_3.out
   have hx132_4 := HX9000_4.out
   have hx132_5 := HX9000_5.out
   have hx132_6 := HX9000_6.out
   replace hx132_0 := cB HB.out hx132_0
   replace hx132_1 := cB HB.out hx132_1
   replace hx132_2 := cB HB.out hx132_2
   replace hx132_3 := cB HB.out hx132_3
   replace hx132_4 := cB HB.out hx132_4
   replace hx132_5 := cB HB.out hx132_5
   replace hx132_6 := cB HB.out hx132_6
   have HR132_2 := HR9000_2
   have HC132_2 := HC9000_2
   have HR132_3 := HR9000_3
   have HC132_3 := HC9000_3
   have HR132_4 := HR9000_4
   have HC132_4 := HC9000_4
   have HR132_5 := HR9000_5
   have HC132_5 := HC9000_5
   go_wp2_with (first | ((with_reducible refine gate_callee (f := 55) rfl ?_); refine goesL_ (some 16) rfl rfl Try.func55 (by kernel_rfl) rfl #[.slice A9000_2 ((rd_T27 l0_0 a0_1).f2).length c9000_2, .int .i64 0, .int .i64 t131] rfl (by (try simp only [List.map_toArray, List.map_cons, List.map_nil]); first | done | rfl | (simp only [List.length_drop, List.length_take]; rfl)) ?_; (with_reducible refine (spec_l24Items.calls k _ _ ((rd_T27 l0_0 a0_1).f2) 0 t131 true _ ?side1 ?side2 A4.out).mono ?_); (case side1 => repeat (first | exact (Kd.C_below HR132_2.out HB.out) | (with_reducible first | refine cA ?_ _ | refine cN ?_ _ | refine cD ?_))); (case side2 => exact HC132_2.out); rintro e w' ⟨rfl, ⟨nd, rfl⟩⟩; refine ⟨_, rfl, ?_⟩; have hx134_0 := HX9000_0.out; have hx134_1 := HX9000_1.out; have hx134_2 := HX9000_2.out; have hx134_3 := HX9000_3.out; have hx134_4 := HX9000_4.out; have hx134_5 := HX9000_5.out; have hx134_6 := HX9000_6.out; replace hx134_0 := cB HB.out hx134_0; replace hx134_1 := cB HB.out hx134_1; replace hx134_2 := cB HB.out hx134_2; replace hx134_3 := cB HB.out hx134_3; replace hx134_4 := cB HB.out hx134_4; replace hx134_5 := cB HB.out hx134_5; replace hx134_6 := cB HB.out hx134_6; have HR134_2 := HR9000_2; have HC134_2 := HC9000_2; have HR134_3 := HR9000_3; have HC134_3 := HC9000_3; have HR134_4 := HR9000_4; have HC134_4 := HC9000_4; have HR134_5 := HR9000_5; have HC134_5 := HC9000_5) | (go_at_call 55; (with_reducible refine (spec_l24Items.calls k _ _ ((rd_T27 l0_0 a0_1).f4) 0 t131 t135 _ ?side1 ?side2 A6.out).mono ?_); (case side1 => repeat (first | exact (Kd.C_below HR134_4.out (by repeat (first | (with_reducible first | exact HB.out | apply bA | apply bN | apply bD) | exact HB.out))) | (with_reducible first | refine cA ?_ _ | refine cN ?_ _ | refine cD ?_))); (case side2 => exact HC134_4.out); rintro e w' ⟨rfl, ⟨nd, rfl⟩⟩))
   go_meet
   case rel => exact ⟨_, (!t135), (by first | rfl | (simp; done) | (simp [*]; done)), H', ⟨by first | omega | exact Nat.le_refl _⟩, ⟨by repeat (first | (with_reducible first | exact HB.out | apply bA | apply bN | apply bD) | exact HB.out)⟩⟩
  ·replace c5 := Bool.eq_false_iff.mpr c5
   subst c5
   have H1 : (spec_l24Ok_at.j0 k t131 true l0_0 a0_1) = some r := by rw [if_neg (show ¬ (false = true) by decide)] at H; exact H
   clear H
   have H := H1
   clear H1
   have H' := aM H
   clear H
   have hx132_0 := HX9000_0.out
   have hx132_1 := HX9000_1.out
   have hx132_2 := HX9000_2.out
   have hx132_3 := HX9000_3.out
   have hx132_4 := HX9000_4.out
   have hx132_5 := HX9000_5.out
   have hx132_6 := HX9000_6.out
   replace hx132_0 := cB HB.out hx132_0
   replace hx132_1 := cB HB.out hx132_1
   replace hx132_2 := cB HB.out hx132_2
   replace hx132_3 := cB HB.out hx132_3
   replace hx132_4 := cB HB.out hx132_4
   replace hx132_5 := cB HB.out hx132_5
   replace hx132_6 := cB HB.out hx132_6
   have HR132_2 := HR9000_2
   have HC132_2 := HC9000_2
   have HR132_3 := HR9000_3
   have HC132_3 := HC9000_3
   have HR132_4 := HR9000_4
   have HC132_4 := HC9000_4
   have HR132_5 := HR9000_5
   have HC132_5 := HC9000_5
   go_wp2_with (first | ((with_reducible refine gate_callee (f := 55) rfl ?_); refine goesL_ (some 16) rfl rfl Try.func55 (by kernel_rfl) rfl #[.slice A9000_2 ((rd_T27 l0_0 a0_1).f2).length c9000_2, .int .i64 0, .int .i64 t131] rfl (by (try simp only [List.map_toArray, List.map_cons, List.map_nil]); first | done | rfl | (simp only [List.length_drop, List.length_take]; rfl)) ?_; (with_reducible refine (spec_l24Items.calls k _ _ ((rd_T27 l0_0 a0_1).f2) 0 t131 false _ ?side1 ?side2 A4.out).mono ?_); (case side1 => repeat (first | exact (Kd.C_below HR132_2.out HB.out) | (with_reducible first | refine cA ?_ _ | refine cN ?_ _ | refine cD ?_))); (case side2 => exact HC132_2.out); rintro e w' ⟨rfl, ⟨nd, rfl⟩⟩; refine ⟨_, rfl, ?_⟩))
   go_meet
   case rel => exact ⟨_, (true), (by first | rfl | (simp; done) | (simp [*]; done)), H', ⟨by first | omega | exact Nat.le_refl _⟩, ⟨by repeat (first | (with_reducible first | exact HB.out | apply bA | apply bN | apply bD) | exact HB.out)⟩⟩
 case rest =>
  clear HC3
  try clear hx1
  try clear p2
  try clear c5
  try clear hx130_0
  try clear hx130_1
  try clear hx130_2
  try clear hx130_3
  try clear hx130_4
  try clear hx130_5
  try clear hx130_6
  try clear hx132_0
  try clear hx132_1
  try clear hx132_2
  try clear hx132_3
  try clear hx132_4
  try clear hx132_5
  try clear hx132_6
  try clear hx134_0
  try clear hx134_1
  try clear hx134_2
  try clear hx134_3
  try clear hx134_4
  try clear hx134_5
  try clear hx134_6
  obtain ⟨kq, x26_2, rfl, HA, HJ2, HB⟩ := hcut
  cases kq with
  | zero => exact absurd HA.out (by simp [spec_l24Ok_at.j0])
  | succ kj2 =>
   have H := HA.out
   clear HA
   simp only [spec_l24Ok_at.j0] at H
   by_cases c7 : x26_2 = true
   ·subst c7
    have H1 : (some false) = some r := by rw [if_pos rfl] at H; exact H
    clear H
    have H := H1
    clear H1
    obtain rfl := Option.some.inj H
    go_wp2
    go_ret
    exact ⟨by first | rfl | (simp [errW_none, errW_some] <;> rfl) | (simp [*, errW_none, errW_some] <;> rfl), by repeat (first | (with_reducible first | exact HB.out | apply bA | apply bN | apply bD) | exact HB.out)⟩
   ·replace c7 := Bool.eq_false_iff.mpr c7
    subst c7
    have H1 : ((spec_IsName.f kj2 ((rd_T27 l0_0 a0_1).f1)).bind fun t137 => (if ((rd_T27 l0_0 a0_1).f0) = 1 then (if t137 = true then ((spec_l24Items.f kj2 ((rd_T27 l0_0 a0_1).f3) 1 20).bind fun t141 => (if t141 = true then (if (((rd_T27 l0_0 a0_1).f5).length : Int) = 0 then (some (((rd_T27 l0_0 a0_1).f6) == 0)) else (some false)) else (some false))) else (some false)) else (if ((rd_T27 l0_0 a0_1).f0) = 2 then (if t137 = true then (if (((rd_T27 l0_0 a0_1).f3).length : Int) = 0 then (if (((rd_T27 l0_0 a0_1).f5).length : Int) = 0 then (some (((rd_T27 l0_0 a0_1).f6) == 0)) else (some false)) else (some false)) else (some false)) else (if ((rd_T27 l0_0 a0_1).f0) = 3 then (if ((rd_T27 l0_0 a0_1).f1).toList = ([] : List UInt8) then ((spec_l24Items.f kj2 ((rd_T27 l0_0 a0_1).f3) 1 t131).bind fun t147 => (if t147 = true then ((spec_l24Items.f kj2 ((rd_T27 l0_0 a0_1).f5) 0 t131).bind fun t149 => (if t149 = true then (some (((rd_T27 l0_0 a0_1).f6) == 0)) else (some false))) else (some false))) else (some false)) else (if ((rd_T27 l0_0 a0_1).f0) = 4 then (if ((rd_T27 l0_0 a0_1).f1).toList = ([] : List UInt8) then (if (((rd_T27 l0_0 a0_1).f3).length : Int) = 0 then (if (((rd_T27 l0_0 a0_1).f5).length : Int) = 0 then (some (((rd_T27 l0_0 a0_1).f6) == 0)) else (some false)) else (some false)) else (some false)) else (if ((rd_T27 l0_0 a0_1).f0) = 5 then (if ((rd_T27 l0_0 a0_1).f1).toList = ([] : List UInt8) then ((spec_l24Items.f kj2 ((rd_T27 l0_0 a0_1).f3) 2 2).bind fun t156 => (if t156 = true then (if (((rd_T27 l0_0 a0_1).f5).length : Int) = 0 then ((spec_l00In.f ((rd_T27 l0_0 a0_1).f6) (-262144) 262144).bind fun t158 => (some t158)) else (some false)) else (some false))) else (some false)) else (if ((rd_T27 l0_0 a0_1).f0) = 6 then (if t137 = true then ((spec_l24Items.f kj2 ((rd_T27 l0_0 a0_1).f3) 2 2).bind fun t160 => (if t160 = true then (if (((rd_T27 l0_0 a0_1).f5).length : Int) = 0 then (some (((rd_T27 l0_0 a0_1).f6) == 0)) else (some false)) else (some false))) else (some false)) else (if ((rd_T27 l0_0 a0_1).f0) = 7 then (if t137 = true then (if (((rd_T27 l0_0 a0_1).f3).length : Int) = 0 then ((spec_l24Forms.f kj2 ((rd_T27 l0_0 a0_1).f5)).bind fun t164 => (if t164 = true then ((spec_l00In.f ((rd_T27 l0_0 a0_1).f6) 1 3).bind fun t166 => (some t166)) else (some false))) else (some false)) else (some false)) else (some false))))))))) = some r := by rw [if_neg (show ¬ (false = true) by decide)] at H; exact H
    clear H
    have H := H1
    clear H1
    replace H := Option.bind_eq_some_iff.mp H
    obtain ⟨t137, A80, H⟩ := H
    replace H : (if ((rd_T27 l0_0 a0_1).f0) = 1 then (if t137 = true then ((spec_l24Items.f kj2 ((rd_T27 l0_0 a0_1).f3) 1 20).bind fun t141 => (if t141 = true then (if (((rd_T27 l0_0 a0_1).f5).length : Int) = 0 then (some (((rd_T27 l0_0 a0_1).f6) == 0)) else (some false)) else (some false))) else (some false)) else (if ((rd_T27 l0_0 a0_1).f0) = 2 then (if t137 = true then (if (((rd_T27 l0_0 a0_1).f3).length : Int) = 0 then (if (((rd_T27 l0_0 a0_1).f5).length : Int) = 0 then (some (((rd_T27 l0_0 a0_1).f6) == 0)) else (some false)) else (some false)) else (some false)) else (if ((rd_T27 l0_0 a0_1).f0) = 3 then (if ((rd_T27 l0_0 a0_1).f1).toList = ([] : List UInt8) then ((spec_l24Items.f kj2 ((rd_T27 l0_0 a0_1).f3) 1 t131).bind fun t147 => (if t147 = true then ((spec_l24Items.f kj2 ((rd_T27 l0_0 a0_1).f5) 0 t131).bind fun t149 => (if t149 = true then (some (((rd_T27 l0_0 a0_1).f6) == 0)) else (some false))) else (some false))) else (some false)) else (if ((rd_T27 l0_0 a0_1).f0) = 4 then (if ((rd_T27 l0_0 a0_1).f1).toList = ([] : List UInt8) then (if (((rd_T27 l0_0 a0_1).f3).length : Int) = 0 then (if (((rd_T27 l0_0 a0_1).f5).length : Int) = 0 then (some (((rd_T27 l0_0 a0_1).f6) == 0)) else (some false)) else (some false)) else (some false)) else (if ((rd_T27 l0_0 a0_1).f0) = 5 then (if ((rd_T27 l0_0 a0_1).f1).toList = ([] : List UInt8) then ((spec_l24Items.f kj2 ((rd_T27 l0_0 a0_1).f3) 2 2).bind fun t156 => (if t156 = true then (if (((rd_T27 l0_0 a0_1).f5).length : Int) = 0 then ((spec_l00In.f ((rd_T27 l0_0 a0_1).f6) (-262144) 262144).bind fun t158 => (some t158)) else (some false)) else (some false))) else (some false)) else (if ((rd_T27 l0_0 a0_1).f0) = 6 then (if t137 = true then ((spec_l24Items.f kj2 ((rd_T27 l0_0 a0_1).f3) 2 2).bind fun t160 => (if t160 = true then (if (((rd_T27 l0_0 a0_1).f5).length : Int) = 0 then (some (((rd_T27 l0_0 a0_1).f6) == 0)) else (some false)) else (some false))) else (some false)) else (if ((rd_T27 l0_0 a0_1).f0) = 7 then (if t137 = true then (if (((rd_T27 l0_0 a0_1).f3).length : Int) = 0 then ((spec_l24Forms.f kj2 ((rd_T27 l0_0 a0_1).f5)).bind fun t164 => (if t164 = true then ((spec_l00In.f ((rd_T27 l0_0 a0_1).f6) 1 3).bind fun t166 => (some t166)) else (some false))) else (some false)) else (some false)) else (some false)))))))) = some r := H
    have A8 := aM A80
    clear A80
    by_cases c9 : ((rd_T27 l0_0 a0_1).f0) = 1
    ·rw [if_pos c9] at H
     have c9b0 : (((rd_T27 l0_0 a0_1).f0) == 1) = true := beq_iff_eq.mpr c9
     have c9b1 : (((rd_T27 l0_0 a0_1).f0) != 1) = false := bne_eq_false_iff_eq.mpr c9
     clear c9
     by_cases c10 : t137 = true
     ·subst c10
      have H1 : ((spec_l24Items.f kj2 ((rd_T27 l0_0 a0_1).f3) 1 20).bind fun t141 => (if t141 = true then (if (((rd_T27 l0_0 a0_1).f5).length : Int) = 0 then (some (((rd_T27 l0_0 a0_1).f6) == 0)) else (some false)) else (some false))) = some r := by rw [if_pos rfl] at H; exact H
      clear H
      have H := H1
      clear H1
      replace H := Option.bind_eq_some_iff.mp H
      obtain ⟨t141, A110, H⟩ := H
      replace H : (if t141 = true then (if (((rd_T27 l0_0 a0_1).f5).length : Int) = 0 then (some (((rd_T27 l0_0 a0_1).f6) == 0)) else (some false)) else (some false)) = some r := H
      have A11 := aM A110
      clear A110
      by_cases c12 : t141 = true
      ·subst c12
       have H1 : (if (((rd_T27 l0_0 a0_1).f5).length : Int) = 0 then (some (((rd_T27 l0_0 a0_1).f6) == 0)) else (some false)) = some r := by rw [if_pos rfl] at H; exact H
       clear H
       have H := H1
       clear H1
       by_cases c13 : (((rd_T27 l0_0 a0_1).f5).length : Int) = 0
       ·rw [if_pos c13] at H
        have c13b0 : ((((rd_T27 l0_0 a0_1).f5).length : Int) == 0) = true := beq_iff_eq.mpr c13
        have c13b1 : ((((rd_T27 l0_0 a0_1).f5).length : Int) != 0) = false := bne_eq_false_iff_eq.mpr c13
        clear c13
        obtain rfl := Option.some.inj H
        have hx136_0 := HX9000_0.out
        have hx136_1 := HX9000_1.out
        have hx136_2 := HX9000_2.out
        have hx136_3 := HX9000_3.out
        have hx136_4 := HX9000_4.out
        have hx136_5 := HX9000_5.out
        have hx136_6 := HX9000_6.out
        replace hx136_0 := cB HB.out hx136_0
        replace hx136_1 := cB HB.out hx136_1
        replace hx136_2 := cB HB.out hx136_2
        replace hx136_3 := cB HB.out hx136_3
        replace hx136_4 := cB HB.out hx136_4
        replace hx136_5 := cB HB.out hx136_5
        replace hx136_6 := cB HB.out hx136_6
        have HR136_2 := HR9000_2
        have HC136_2 := HC9000_2
        have HR136_3 := HR9000_3
        have HC136_3 := HC9000_3
        have HR136_4 := HR9000_4
        have HC136_4 := HC9000_4
        have HR136_5 := HR9000_5
        have HC136_5 := HC9000_5
        go_wp2_with (first | ((with_reducible refine gate_callee (f := 56) rfl ?_); refine goesL_ (some 31) rfl rfl Try.func56 (by kernel_rfl) rfl #[.string ((rd_T27 l0_0 a0_1).f1)] rfl (by (try simp only [List.map_toArray, List.map_cons, List.map_nil]); first | done | rfl | (simp only [List.length_drop, List.length_take]; rfl)) ?_; (with_reducible refine (spec_IsName.calls kj2 ((rd_T27 l0_0 a0_1).f1) true _ A8.out).mono ?_); rintro e w' ⟨rfl, ⟨nd, rfl⟩⟩; refine ⟨_, rfl, ?_⟩; have hx138_0 := HX9000_0.out; have hx138_1 := HX9000_1.out; have hx138_2 := HX9000_2.out; have hx138_3 := HX9000_3.out; have hx138_4 := HX9000_4.out; have hx138_5 := HX9000_5.out; have hx138_6 := HX9000_6.out; replace hx138_0 := cB HB.out hx138_0; replace hx138_1 := cB HB.out hx138_1; replace hx138_2 := cB HB.out hx138_2; replace hx138_3 := cB HB.out hx138_3; replace hx138_4 := cB HB.out hx138_4; replace hx138_5 := cB HB.out hx138_5; replace hx138_6 := cB HB.out hx138_6; have HR138_2 := HR9000_2; have HC138_2 := HC9000_2; have HR138_3 := HR9000_3; have HC138_3 := HC9000_3; have HR138_4 := HR9000_4; have HC138_4 := HC9000_4; have HR138_5 := HR9000_5; have HC138_5 := HC9000_5; have hx139_0 := HX9000_0.out; have hx139_1 := HX9000_1.out; have hx139_2 := HX9000_2.out; have hx139_3 := HX9000_3.out; have hx139_4 := HX9000_4.out; have hx139_5 := HX9000_5.out; have hx139_6 := HX9000_6.out; replace hx139_0 := cB HB.out hx139_0; replace hx139_1 := cB HB.out hx139_1; replace hx139_2 := cB HB.out hx139_2; replace hx139_3 := cB HB.out hx139_3; replace hx139_4 := cB HB.out hx139_4; replace hx139_5 := cB HB.out hx139_5; replace hx139_6 := cB HB.out hx139_6; have HR139_2 := HR9000_2; have HC139_2 := HC9000_2; have HR139_3 := HR9000_3; have HC139_3 := HC9000_3; have HR139_4 := HR9000_4; have HC139_4 := HC9000_4; have HR139_5 := HR9000_5; have HC139_5 := HC9000_5; have hx140_0 := HX9000_0.out; have hx140_1 := HX9000_1.out; have hx140_2 := HX9000_2.out; have hx140_3 := HX9000_3.out; have hx140_4 := HX9000_4.out; have hx140_5 := HX9000_5.out; have hx140_6 := HX9000_6.out; replace hx140_0 := cB HB.out hx140_0; replace hx140_1 := cB HB.out hx140_1; replace hx140_2 := cB HB.out hx140_2; replace hx140_3 := cB HB.out hx140_3; replace hx140_4 := cB HB.out hx140_4; replace hx140_5 := cB HB.out hx140_5; replace hx140_6 := cB HB.out hx140_6; have HR140_2 := HR9000_2; have HC140_2 := HC9000_2; have HR140_3 := HR9000_3; have HC140_3 := HC9000_3; have HR140_4 := HR9000_4; have HC140_4 := HC9000_4; have HR140_5 := HR9000_5; have HC140_5 := HC9000_5) | (go_at_call 55; (with_reducible refine (spec_l24Items.calls kj2 _ _ ((rd_T27 l0_0 a0_1).f3) 1 20 true _ ?side1 ?side2 A11.out).mono ?_); (case side1 => repeat (first | exact (Kd.C_below HR140_3.out (by repeat (first | (with_reducible first | exact HB.out | apply bA | apply bN | apply bD) | exact HB.out))) | (with_reducible first | refine cA ?_ _ | refine cN ?_ _ | refine cD ?_))); (case side2 => exact HC140_3.out); rintro e w' ⟨rfl, ⟨nd, rfl⟩⟩; have hx142_0 := HX9000_0.out; have hx142_1 := HX9000_1.out; have hx142_2 := HX9000_2.out; have hx142_3 := HX9000_3.out; have hx142_4 := HX9000_4.out; have hx142_5 := HX9000_5.out; have hx142_6 := HX9000_6.out; replace hx142_0 := cB HB.out hx142_0; replace hx142_1 := cB HB.out hx142_1; replace hx142_2 := cB HB.out hx142_2; replace hx142_3 := cB HB.out hx142_3; replace hx142_4 := cB HB.out hx142_4; replace hx142_5 := cB HB.out hx142_5; replace hx142_6 := cB HB.out hx142_6; have HR142_2 := HR9000_2; have HC142_2 := HC9000_2; have HR142_3 := HR9000_3; have HC142_3 := HC9000_3; have HR142_4 := HR9000_4; have HC142_4 := HC9000_4; have HR142_5 := HR9000_5; have HC142_5 := HC9000_5))
        go_ret
        exact ⟨by first | rfl | (simp [errW_none, errW_some] <;> rfl) | (simp [*, errW_none, errW_some] <;> rfl), by repeat (first | (with_reducible first | exact HB.out | apply bA | apply bN | apply bD) | exact HB.out)⟩
       ·rw [if_neg c13] at H
        have c13b0 : ((((rd_T27 l0_0 a0_1).f5).length : Int) == 0) = false := beq_eq_false_iff_ne.mpr c13
        have c13b1 : ((((rd_T27 l0_0 a0_1).f5).length : Int) != 0) = true := bne_iff_ne.mpr c13
        have c13b2 : ¬ (((rd_T27 l0_0 a0_1).f5) = []) := fun h_ => c13 (by rw [h_]; rfl)
        obtain rfl := Option.some.inj H
        have hx136_0 := HX9000_0.out
        have hx136_1 := HX9000_1.out
        have hx136_2 := HX9000_2.out
        have hx136_3 := HX9000_3.out
        have hx136_4 := HX9000_4.out
        have hx136_5 := HX9000_5.out
        have hx136_6 := HX9000_6.out
        replace hx136_0 := cB HB.out hx136_0
        replace hx136_1 := cB HB.out hx136_1
        replace hx136_2 := cB HB.out hx136_2
        replace hx136_3 := cB HB.out hx136_3
        replace hx136_4 := cB HB.out hx136_4
        replace hx136_5 := cB HB.out hx136_5
        replace hx136_6 := cB HB.out hx136_6
        have HR136_2 := HR9000_2
        have HC136_2 := HC9000_2
        have HR136_3 := HR9000_3
        have HC136_3 := HC9000_3
        have HR136_4 := HR9000_4
        have HC136_4 := HC9000_4
        have HR136_5 := HR9000_5
        have HC136_5 := HC9000_5
        go_wp2_with (first | ((with_reducible refine gate_callee (f := 56) rfl ?_); refine goesL_ (some 31) rfl rfl Try.func56 (by kernel_rfl) rfl #[.string ((rd_T27 l0_0 a0_1).f1)] rfl (by (try simp only [List.map_toArray, List.map_cons, List.map_nil]); first | done | rfl | (simp only [List.length_drop, List.length_take]; rfl)) ?_; (with_reducible refine (spec_IsName.calls kj2 ((rd_T27 l0_0 a0_1).f1) true _ A8.out).mono ?_); rintro e w' ⟨rfl, ⟨nd, rfl⟩⟩; refine ⟨_, rfl, ?_⟩; have hx138_0 := HX9000_0.out; have hx138_1 := HX9000_1.out; have hx138_2 := HX9000_2.out; have hx138_3 := HX9000_3.out; have hx138_4 := HX9000_4.out; have hx138_5 := HX9000_5.out; have hx138_6 := HX9000_6.out; replace hx138_0 := cB HB.out hx138_0; replace hx138_1 := cB HB.out hx138_1; replace hx138_2 := cB HB.out hx138_2; replace hx138_3 := cB HB.out hx138_3; replace hx138_4 := cB HB.out hx138_4; replace hx138_5 := cB HB.out hx138_5; replace hx138_6 := cB HB.out hx138_6; have HR138_2 := HR9000_2; have HC138_2 := HC9000_2; have HR138_3 := HR9000_3; have HC138_3 := HC9000_3; have HR138_4 := HR9000_4; have HC138_4 := HC9000_4; have HR138_5 := HR9000_5; have HC138_5 := HC9000_5; have hx139_0 := HX9000_0.out; have hx139_1 := HX9000_1.out; have hx139_2 := HX9000_2.out; have hx139_3 := HX9000_3.out; have hx139_4 := HX9000_4.out; have hx139_5 := HX9000_5.out; have hx139_6 := HX9000_6.out; replace hx139_0 := cB HB.out hx139_0; replace hx139_1 := cB HB.out hx139_1; replace hx139_2 := cB HB.out hx139_2; replace hx139_3 := cB HB.out hx139_3; replace hx139_4 := cB HB.out hx139_4; replace hx139_5 := cB HB.out hx139_5; replace hx139_6 := cB HB.out hx139_6; have HR139_2 := HR9000_2; have HC139_2 := HC9000_2; have HR139_3 := HR9000_3; have HC139_3 := HC9000_3; have HR139_4 := HR9000_4; have HC139_4 := HC9000_4; have HR139_5 := HR9000_5; have HC139_5 := HC9000_5; have hx140_0 := HX9000_0.out; have hx140_1 := HX9000_1.out; have hx140_2 := HX9000_2.out; have hx140_3 := HX9000_3.out; have hx140_4 := HX9000_4.out; have hx140_5 := HX9000_5.out; have hx140_6 := HX9000_6.out; replace hx140_0 := cB HB.out hx140_0; replace hx140_1 := cB HB.out hx140_1; replace hx140_2 := cB HB.out hx140_2; replace hx140_3 := cB HB.out hx140_3; replace hx140_4 := cB HB.out hx140_4; replace hx140_5 := cB HB.out hx140_5; replace hx140_6 := cB HB.out hx140_6; have HR140_2 := HR9000_2; have HC140_2 := HC9000_2; have HR140_3 := HR9000_3; have HC140_3 := HC9000_3; have HR140_4 := HR9000_4; have HC140_4 := HC9000_4; have HR140_5 := HR9000_5; have HC140_5 := HC9000_5) | (go_at_call 55; (with_reducible refine (spec_l24Items.calls kj2 _ _ ((rd_T27 l0_0 a0_1).f3) 1 20 true _ ?side1 ?side2 A11.out).mono ?_); (case side1 => repeat (first | exact (Kd.C_below HR140_3.out (by repeat (first | (with_reducible first | exact HB.out | apply bA | apply bN | apply bD) | exact HB.out))) | (with_reducible first | refine cA ?_ _ | refine cN ?_ _ | refine cD ?_))); (case side2 => exact HC140_3.out); rintro e w' ⟨rfl, ⟨nd, rfl⟩⟩))
        go_ret
        exact ⟨by first | rfl | (simp [errW_none, errW_some] <;> rfl) | (simp [*, errW_none, errW_some] <;> rfl), by repeat (first | (with_reducible first | exact HB.out | apply bA | apply bN | apply bD) | exact HB.out)⟩
      ·replace c12 := Bool.eq_false_iff.mpr c12
       subst c12
       have H1 : (some false) = some r := by rw [if_neg (show ¬ (false = true) by decide)] at H; exact H
       clear H
       have H := H1
       clear H1
       obtain rfl := Option.some.inj H
       have hx136_0 := HX9000_0.out
       have hx136_1 := HX9000_1.out
       have hx136_2 := HX9000_2.out
       have hx136_3 := HX9000_3.out
       have hx136_4 := HX9000_4.out
       have hx136_5 := HX9000_5.out
       have hx136_6 := HX9000_6.out
       replace hx136_0 := cB HB.out hx136_0
       replace hx136_1 := cB HB.out hx136_1
       replace hx136_2 := cB HB.out hx136_2
       replace hx136_3 := cB HB.out hx136_3
       replace hx136_4 := cB HB.out hx136_4
       replace hx136_5 := cB HB.out hx136_5
       replace hx136_6 := cB HB.out hx136_6
       have HR136_2 := HR9000_2
       have HC136_2 := HC9000_2
       have HR136_3 := HR9000_3
       have HC136_3 := HC9000_3
       have HR136_4 := HR9000_4
       have HC136_4 := HC9000_4
       have HR136_5 := HR9000_5
       have HC136_5 := HC9000_5
       go_wp2_with (first | ((with_reducible refine gate_callee (f := 56) rfl ?_); refine goesL_ (some 31) rfl rfl Try.func56 (by kernel_rfl) rfl #[.string ((rd_T27 l0_0 a0_1).f1)] rfl (by (try simp only [List.map_toArray, List.map_cons, List.map_nil]); first | done | rfl | (simp only [List.length_drop, List.length_take]; rfl)) ?_; (with_reducible refine (spec_IsName.calls kj2 ((rd_T27 l0_0 a0_1).f1) true _ A8.out).mono ?_); rintro e w' ⟨rfl, ⟨nd, rfl⟩⟩; refine ⟨_, rfl, ?_⟩; have hx138_0 := HX9000_0.out; have hx138_1 := HX9000_1.out; have hx138_2 := HX9000_2.out; have hx138_3 := HX9000_3.out; have hx138_4 := HX9000_4.out; have hx138_5 := HX9000_5.out; have hx138_6 := HX9000_6.out; replace hx138_0 := cB HB.out hx138_0; replace hx138_1 := cB HB.out hx138_1; replace hx138_2 := cB HB.out hx138_2; replace hx138_3 := cB HB.out hx138_3; replace hx138_4 := cB HB.out hx138_4; replace hx138_5 := cB HB.out hx138_5; replace hx138_6 := cB HB.out hx138_6; have HR138_2 := HR9000_2; have HC138_2 := HC9000_2; have HR138_3 := HR9000_3; have HC138_3 := HC9000_3; have HR138_4 := HR9000_4; have HC138_4 := HC9000_4; have HR138_5 := HR9000_5; have HC138_5 := HC9000_5; have hx139_0 := HX9000_0.out; have hx139_1 := HX9000_1.out; have hx139_2 := HX9000_2.out; have hx139_3 := HX9000_3.out; have hx139_4 := HX9000_4.out; have hx139_5 := HX9000_5.out; have hx139_6 := HX9000_6.out; replace hx139_0 := cB HB.out hx139_0; replace hx139_1 := cB HB.out hx139_1; replace hx139_2 := cB HB.out hx139_2; replace hx139_3 := cB HB.out hx139_3; replace hx139_4 := cB HB.out hx139_4; replace hx139_5 := cB HB.out hx139_5; replace hx139_6 := cB HB.out hx139_6; have HR139_2 := HR9000_2; have HC139_2 := HC9000_2; have HR139_3 := HR9000_3; have HC139_3 := HC9000_3; have HR139_4 := HR9000_4; have HC139_4 := HC9000_4; have HR139_5 := HR9000_5; have HC139_5 := HC9000_5; have hx140_0 := HX9000_0.out; have hx140_1 := HX9000_1.out; have hx140_2 := HX9000_2.out; have hx140_3 := HX9000_3.out; have hx140_4 := HX9000_4.out; have hx140_5 := HX9000_5.out; have hx140_6 := HX9000_6.out; replace hx140_0 := cB HB.out hx140_0; replace hx140_1 := cB HB.out hx140_1; replace hx140_2 := cB HB.out hx140_2; replace hx140_3 := cB HB.out hx140_3; replace hx140_4 := cB HB.out hx140_4; replace hx140_5 := cB HB.out hx140_5; replace hx140_6 := cB HB.out hx140_6; have HR140_2 := HR9000_2; have HC140_2 := HC9000_2; have HR140_3 := HR9000_3; have HC140_3 := HC9000_3; have HR140_4 := HR9000_4; have HC140_4 := HC9000_4; have HR140_5 := HR9000_5; have HC140_5 := HC9000_5) | (go_at_call 55; (with_reducible refine (spec_l24Items.calls kj2 _ _ ((rd_T27 l0_0 a0_1).f3) 1 20 false _ ?side1 ?side2 A11.out).mono ?_); (case side1 => repeat (first | exact (Kd.C_below HR140_3.out (by repeat (first | (with_reducible first | exact HB.out | apply bA | apply bN | apply bD) | exact HB.out))) | (with_reducible first | refine cA ?_ _ | refine cN ?_ _ | refine cD ?_))); (case side2 => exact HC140_3.out); rintro e w' ⟨rfl, ⟨nd, rfl⟩⟩))
       go_ret
       exact ⟨by first | rfl | (simp [errW_none, errW_some] <;> rfl) | (simp [*, errW_none, errW_some] <;> rfl), by repeat (first | (with_reducible first | exact HB.out | apply bA | apply bN | apply bD) | exact HB.out)⟩
     ·replace c10 := Bool.eq_false_iff.mpr c10
      subst c10
      have H1 : (some false) = some r := by rw [if_neg (show ¬ (false = true) by decide)] at H; exact H
      clear H
      have H := H1
      clear H1
      obtain rfl := Option.some.inj H
      have hx136_0 := HX9000_0.out
      have hx136_1 := HX9000_1.out
      have hx136_2 := HX9000_2.out
      have hx136_3 := HX9000_3.out
      have hx136_4 := HX9000_4.out
      have hx136_5 := HX9000_5.out
      have hx136_6 := HX9000_6.out
      replace hx136_0 := cB HB.out hx136_0
      replace hx136_1 := cB HB.out hx136_1
      replace hx136_2 := cB HB.out hx136_2
      replace hx136_3 := cB HB.out hx136_3
      replace hx136_4 := cB HB.out hx136_4
      replace hx136_5 := cB HB.out hx136_5
      replace hx136_6 := cB HB.out hx136_6
      have HR136_2 := HR9000_2
      have HC136_2 := HC9000_2
      have HR136_3 := HR9000_3
      have HC136_3 := HC9000_3
      have HR136_4 := HR9000_4
      have HC136_4 := HC9000_4
      have HR136_5 := HR9000_5
      have HC136_5 := HC9000_5
      go_wp2_with (first | ((with_reducible refine gate_callee (f := 56) rfl ?_); refine goesL_ (some 31) rfl rfl Try.func56 (by kernel_rfl) rfl #[.string ((rd_T27 l0_0 a0_1).f1)] rfl (by (try simp only [List.map_toArray, List.map_cons, List.map_nil]); first | done | rfl | (simp only [List.length_drop, List.length_take]; rfl)) ?_; (with_reducible refine (spec_IsName.calls kj2 ((rd_T27 l0_0 a0_1).f1) false _ A8.out).mono ?_); rintro e w' ⟨rfl, ⟨nd, rfl⟩⟩; refine ⟨_, rfl, ?_⟩; have hx138_0 := HX9000_0.out; have hx138_1 := HX9000_1.out; have hx138_2 := HX9000_2.out; have hx138_3 := HX9000_3.out; have hx138_4 := HX9000_4.out; have hx138_5 := HX9000_5.out; have hx138_6 := HX9000_6.out; replace hx138_0 := cB HB.out hx138_0; replace hx138_1 := cB HB.out hx138_1; replace hx138_2 := cB HB.out hx138_2; replace hx138_3 := cB HB.out hx138_3; replace hx138_4 := cB HB.out hx138_4; replace hx138_5 := cB HB.out hx138_5; replace hx138_6 := cB HB.out hx138_6; have HR138_2 := HR9000_2; have HC138_2 := HC9000_2; have HR138_3 := HR9000_3; have HC138_3 := HC9000_3; have HR138_4 := HR9000_4; have HC138_4 := HC9000_4; have HR138_5 := HR9000_5; have HC138_5 := HC9000_5; have hx139_0 := HX9000_0.out; have hx139_1 := HX9000_1.out; have hx139_2 := HX9000_2.out; have hx139_3 := HX9000_3.out; have hx139_4 := HX9000_4.out; have hx139_5 := HX9000_5.out; have hx139_6 := HX9000_6.out; replace hx139_0 := cB HB.out hx139_0; replace hx139_1 := cB HB.out hx139_1; replace hx139_2 := cB HB.out hx139_2; replace hx139_3 := cB HB.out hx139_3; replace hx139_4 := cB HB.out hx139_4; replace hx139_5 := cB HB.out hx139_5; replace hx139_6 := cB HB.out hx139_6; have HR139_2 := HR9000_2; have HC139_2 := HC9000_2; have HR139_3 := HR9000_3; have HC139_3 := HC9000_3; have HR139_4 := HR9000_4; have HC139_4 := HC9000_4; have HR139_5 := HR9000_5; have HC139_5 := HC9000_5))
      go_ret
      exact ⟨by first | rfl | (simp [errW_none, errW_some] <;> rfl) | (simp [*, errW_none, errW_some] <;> rfl), by repeat (first | (with_reducible first | exact HB.out | apply bA | apply bN | apply bD) | exact HB.out)⟩
    ·rw [if_neg c9] at H
     have c9b0 : (((rd_T27 l0_0 a0_1).f0) == 1) = false := beq_eq_false_iff_ne.mpr c9
     have c9b1 : (((rd_T27 l0_0 a0_1).f0) != 1) = true := bne_iff_ne.mpr c9
     by_cases c14 : ((rd_T27 l0_0 a0_1).f0) = 2
     ·rw [if_pos c14] at H
      have c14b0 : (((rd_T27 l0_0 a0_1).f0) == 2) = true := beq_iff_eq.mpr c14
      have c14b1 : (((rd_T27 l0_0 a0_1).f0) != 2) = false := bne_eq_false_iff_eq.mpr c14
      clear c14
      by_cases c15 : t137 = true
      ·subst c15
       have H1 : (if (((rd_T27 l0_0 a0_1).f3).length : Int) = 0 then (if (((rd_T27 l0_0 a0_1).f5).length : Int) = 0 then (some (((rd_T27 l0_0 a0_1).f6) == 0)) else (some false)) else (some false)) = some r := by rw [if_pos rfl] at H; exact H
       clear H
       have H := H1
       clear H1
       by_cases c16 : (((rd_T27 l0_0 a0_1).f3).length : Int) = 0
       ·rw [if_pos c16] at H
        have c16b0 : ((((rd_T27 l0_0 a0_1).f3).length : Int) == 0) = true := beq_iff_eq.mpr c16
        have c16b1 : ((((rd_T27 l0_0 a0_1).f3).length : Int) != 0) = false := bne_eq_false_iff_eq.mpr c16
        clear c16
        by_cases c17 : (((rd_T27 l0_0 a0_1).f5).length : Int) = 0
        ·rw [if_pos c17] at H
         have c17b0 : ((((rd_T27 l0_0 a0_1).f5).length : Int) == 0) = true := beq_iff_eq.mpr c17
         have c17b1 : ((((rd_T27 l0_0 a0_1).f5).length : Int) != 0) = false := bne_eq_false_iff_eq.mpr c17
         clear c17
         obtain rfl := Option.some.inj H
         have hx136_0 := HX9000_0.out
         have hx136_1 := HX9000_1.out
         have hx136_2 := HX9000_2.out
         have hx136_3 := HX9000_3.out
         have hx136_4 := HX9000_4.out
         have hx136_5 := HX9000_5.out
         have hx136_6 := HX9000_6.out
         replace hx136_0 := cB HB.out hx136_0
         replace hx136_1 := cB HB.out hx136_1
         replace hx136_2 := cB HB.out hx136_2
         replace hx136_3 := cB HB.out hx136_3
         replace hx136_4 := cB HB.out hx136_4
         replace hx136_5 := cB HB.out hx136_5
         replace hx136_6 := cB HB.out hx136_6
         have HR136_2 := HR9000_2
         have HC136_2 := HC9000_2
         have HR136_3 := HR9000_3
         have HC136_3 := HC9000_3
         have HR136_4 := HR9000_4
         have HC136_4 := HC9000_4
         have HR136_5 := HR9000_5
         have HC136_5 := HC9000_5
         go_wp2_with (first | ((with_reducible refine gate_callee (f := 56) rfl ?_); refine goesL_ (some 31) rfl rfl Try.func56 (by kernel_rfl) rfl #[.string ((rd_T27 l0_0 a0_1).f1)] rfl (by (try simp only [List.map_toArray, List.map_cons, List.map_nil]); first | done | rfl | (simp only [List.length_drop, List.length_take]; rfl)) ?_; (with_reducible refine (spec_IsName.calls kj2 ((rd_T27 l0_0 a0_1).f1) true _ A8.out).mono ?_); rintro e w' ⟨rfl, ⟨nd, rfl⟩⟩; refine ⟨_, rfl, ?_⟩; have hx138_0 := HX9000_0.out; have hx138_1 := HX9000_1.out; have hx138_2 := HX9000_2.out; have hx138_3 := HX9000_3.out; have hx138_4 := HX9000_4.out; have hx138_5 := HX9000_5.out; have hx138_6 := HX9000_6.out; replace hx138_0 := cB HB.out hx138_0; replace hx138_1 := cB HB.out hx138_1; replace hx138_2 := cB HB.out hx138_2; replace hx138_3 := cB HB.out hx138_3; replace hx138_4 := cB HB.out hx138_4; replace hx138_5 := cB HB.out hx138_5; replace hx138_6 := cB HB.out hx138_6; have HR138_2 := HR9000_2; have HC138_2 := HC9000_2; have HR138_3 := HR9000_3; have HC138_3 := HC9000_3; have HR138_4 := HR9000_4; have HC138_4 := HC9000_4; have HR138_5 := HR9000_5; have HC138_5 := HC9000_5; have hx139_0 := HX9000_0.out; have hx139_1 := HX9000_1.out; have hx139_2 := HX9000_2.out; have hx139_3 := HX9000_3.out; have hx139_4 := HX9000_4.out; have hx139_5 := HX9000_5.out; have hx139_6 := HX9000_6.out; replace hx139_0 := cB HB.out hx139_0; replace hx139_1 := cB HB.out hx139_1; replace hx139_2 := cB HB.out hx139_2; replace hx139_3 := cB HB.out hx139_3; replace hx139_4 := cB HB.out hx139_4; replace hx139_5 := cB HB.out hx139_5; replace hx139_6 := cB HB.out hx139_6; have HR139_2 := HR9000_2; have HC139_2 := HC9000_2; have HR139_3 := HR9000_3; have HC139_3 := HC9000_3; have HR139_4 := HR9000_4; have HC139_4 := HC9000_4; have HR139_5 := HR9000_5; have HC139_5 := HC9000_5; have hx143_0 := HX9000_0.out; have hx143_1 := HX9000_1.out; have hx143_2 := HX9000_2.out; have hx143_3 := HX9000_3.out; have hx143_4 := HX9000_4.out; have hx143_5 := HX9000_5.out; have hx143_6 := HX9000_6.out; replace hx143_0 := cB HB.out hx143_0; replace hx143_1 := cB HB.out hx143_1; replace hx143_2 := cB HB.out hx143_2; replace hx143_3 := cB HB.out hx143_3; replace hx143_4 := cB HB.out hx143_4; replace hx143_5 := cB HB.out hx143_5; replace hx143_6 := cB HB.out hx143_6; have HR143_2 := HR9000_2; have HC143_2 := HC9000_2; have HR143_3 := HR9000_3; have HC143_3 := HC9000_3; have HR143_4 := HR9000_4; have HC143_4 := HC9000_4; have HR143_5 := HR9000_5; have HC143_5 := HC9000_5; have hx144_0 := HX9000_0.out; have hx144_1 := HX9000_1.out; have hx144_2 := HX9000_2.out; have hx144_3 := HX9000_3.out; have hx144_4 := HX9000_4.out; have hx144_5 := HX9000_5.out; have hx144_6 := HX9000_6.out; replace hx144_0 := cB HB.out hx144_0; replace hx144_1 := cB HB.out hx144_1; replace hx144_2 := cB HB.out hx144_2; replace hx144_3 := cB HB.out hx144_3; replace hx144_4 := cB HB.out hx144_4; replace hx144_5 := cB HB.out hx144_5; replace hx144_6 := cB HB.out hx144_6; have HR144_2 := HR9000_2; have HC144_2 := HC9000_2; have HR144_3 := HR9000_3; have HC144_3 := HC9000_3; have HR144_4 := HR9000_4; have HC144_4 := HC9000_4; have HR144_5 := HR9000_5; have HC144_5 := HC9000_5))
         go_ret
         exact ⟨by first | rfl | (simp [errW_none, errW_some] <;> rfl) | (simp [*, errW_none, errW_some] <;> rfl), by repeat (first | (with_reducible first | exact HB.out | apply bA | apply bN | apply bD) | exact HB.out)⟩
        ·rw [if_neg c17] at H
         have c17b0 : ((((rd_T27 l0_0 a0_1).f5).length : Int) == 0) = false := beq_eq_false_iff_ne.mpr c17
         have c17b1 : ((((rd_T27 l0_0 a0_1).f5).length : Int) != 0) = true := bne_iff_ne.mpr c17
         have c17b2 : ¬ (((rd_T27 l0_0 a0_1).f5) = []) := fun h_ => c17 (by rw [h_]; rfl)
         obtain rfl := Option.some.inj H
         have hx136_0 := HX9000_0.out
         have hx136_1 := HX9000_1.out
         have hx136_2 := HX9000_2.out
         have hx136_3 := HX9000_3.out
         have hx136_4 := HX9000_4.out
         have hx136_5 := HX9000_5.out
         have hx136_6 := HX9000_6.out
         replace hx136_0 := cB HB.out hx136_0
         replace hx136_1 := cB HB.out hx136_1
         replace hx136_2 := cB HB.out hx136_2
         replace hx136_3 := cB HB.out hx136_3
         replace hx136_4 := cB HB.out hx136_4
         replace hx136_5 := cB HB.out hx136_5
         replace hx136_6 := cB HB.out hx136_6
         have HR136_2 := HR9000_2
         have HC136_2 := HC9000_2
         have HR136_3 := HR9000_3
         have HC136_3 := HC9000_3
         have HR136_4 := HR9000_4
         have HC136_4 := HC9000_4
         have HR136_5 := HR9000_5
         have HC136_5 := HC9000_5
         go_wp2_with (first | ((with_reducible refine gate_callee (f := 56) rfl ?_); refine goesL_ (some 31) rfl rfl Try.func56 (by kernel_rfl) rfl #[.string ((rd_T27 l0_0 a0_1).f1)] rfl (by (try simp only [List.map_toArray, List.map_cons, List.map_nil]); first | done | rfl | (simp only [List.length_drop, List.length_take]; rfl)) ?_; (with_reducible refine (spec_IsName.calls kj2 ((rd_T27 l0_0 a0_1).f1) true _ A8.out).mono ?_); rintro e w' ⟨rfl, ⟨nd, rfl⟩⟩; refine ⟨_, rfl, ?_⟩; have hx138_0 := HX9000_0.out; have hx138_1 := HX9000_1.out; have hx138_2 := HX9000_2.out; have hx138_3 := HX9000_3.out; have hx138_4 := HX9000_4.out; have hx138_5 := HX9000_5.out; have hx138_6 := HX9000_6.out; replace hx138_0 := cB HB.out hx138_0; replace hx138_1 := cB HB.out hx138_1; replace hx138_2 := cB HB.out hx138_2; replace hx138_3 := cB HB.out hx138_3; replace hx138_4 := cB HB.out hx138_4; replace hx138_5 := cB HB.out hx138_5; replace hx138_6 := cB HB.out hx138_6; have HR138_2 := HR9000_2; have HC138_2 := HC9000_2; have HR138_3 := HR9000_3; have HC138_3 := HC9000_3; have HR138_4 := HR9000_4; have HC138_4 := HC9000_4; have HR138_5 := HR9000_5; have HC138_5 := HC9000_5; have hx139_0 := HX9000_0.out; have hx139_1 := HX9000_1.out; have hx139_2 := HX9000_2.out; have hx139_3 := HX9000_3.out; have hx139_4 := HX9000_4.out; have hx139_5 := HX9000_5.out; have hx139_6 := HX9000_6.out; replace hx139_0 := cB HB.out hx139_0; replace hx139_1 := cB HB.out hx139_1; replace hx139_2 := cB HB.out hx139_2; replace hx139_3 := cB HB.out hx139_3; replace hx139_4 := cB HB.out hx139_4; replace hx139_5 := cB HB.out hx139_5; replace hx139_6 := cB HB.out hx139_6; have HR139_2 := HR9000_2; have HC139_2 := HC9000_2; have HR139_3 := HR9000_3; have HC139_3 := HC9000_3; have HR139_4 := HR9000_4; have HC139_4 := HC9000_4; have HR139_5 := HR9000_5; have HC139_5 := HC9000_5; have hx143_0 := HX9000_0.out; have hx143_1 := HX9000_1.out; have hx143_2 := HX9000_2.out; have hx143_3 := HX9000_3.out; have hx143_4 := HX9000_4.out; have hx143_5 := HX9000_5.out; have hx143_6 := HX9000_6.out; replace hx143_0 := cB HB.out hx143_0; replace hx143_1 := cB HB.out hx143_1; replace hx143_2 := cB HB.out hx143_2; replace hx143_3 := cB HB.out hx143_3; replace hx143_4 := cB HB.out hx143_4; replace hx143_5 := cB HB.out hx143_5; replace hx143_6 := cB HB.out hx143_6; have HR143_2 := HR9000_2; have HC143_2 := HC9000_2; have HR143_3 := HR9000_3; have HC143_3 := HC9000_3; have HR143_4 := HR9000_4; have HC143_4 := HC9000_4; have HR143_5 := HR9000_5; have HC143_5 := HC9000_5))
         go_ret
         exact ⟨by first | rfl | (simp [errW_none, errW_some] <;> rfl) | (simp [*, errW_none, errW_some] <;> rfl), by repeat (first | (with_reducible first | exact HB.out | apply bA | apply bN | apply bD) | exact HB.out)⟩
       ·rw [if_neg c16] at H
        have c16b0 : ((((rd_T27 l0_0 a0_1).f3).length : Int) == 0) = false := beq_eq_false_iff_ne.mpr c16
        have c16b1 : ((((rd_T27 l0_0 a0_1).f3).length : Int) != 0) = true := bne_iff_ne.mpr c16
        have c16b2 : ¬ (((rd_T27 l0_0 a0_1).f3) = []) := fun h_ => c16 (by rw [h_]; rfl)
        obtain rfl := Option.some.inj H
        have hx136_0 := HX9000_0.out
        have hx136_1 := HX9000_1.out
        have hx136_2 := HX9000_2.out
        have hx136_3 := HX9000_3.out
        have hx136_4 := HX9000_4.out
        have hx136_5 := HX9000_5.out
        have hx136_6 := HX9000_6.out
        replace hx136_0 := cB HB.out hx136_0
        replace hx136_1 := cB HB.out hx136_1
        replace hx136_2 := cB HB.out hx136_2
        replace hx136_3 := cB HB.out hx136_3
        replace hx136_4 := cB HB.out hx136_4
        replace hx136_5 := cB HB.out hx136_5
        replace hx136_6 := cB HB.out hx136_6
        have HR136_2 := HR9000_2
        have HC136_2 := HC9000_2
        have HR136_3 := HR9000_3
        have HC136_3 := HC9000_3
        have HR136_4 := HR9000_4
        have HC136_4 := HC9000_4
        have HR136_5 := HR9000_5
        have HC136_5 := HC9000_5
        go_wp2_with (first | ((with_reducible refine gate_callee (f := 56) rfl ?_); refine goesL_ (some 31) rfl rfl Try.func56 (by kernel_rfl) rfl #[.string ((rd_T27 l0_0 a0_1).f1)] rfl (by (try simp only [List.map_toArray, List.map_cons, List.map_nil]); first | done | rfl | (simp only [List.length_drop, List.length_take]; rfl)) ?_; (with_reducible refine (spec_IsName.calls kj2 ((rd_T27 l0_0 a0_1).f1) true _ A8.out).mono ?_); rintro e w' ⟨rfl, ⟨nd, rfl⟩⟩; refine ⟨_, rfl, ?_⟩; have hx138_0 := HX9000_0.out; have hx138_1 := HX9000_1.out; have hx138_2 := HX9000_2.out; have hx138_3 := HX9000_3.out; have hx138_4 := HX9000_4.out; have hx138_5 := HX9000_5.out; have hx138_6 := HX9000_6.out; replace hx138_0 := cB HB.out hx138_0; replace hx138_1 := cB HB.out hx138_1; replace hx138_2 := cB HB.out hx138_2; replace hx138_3 := cB HB.out hx138_3; replace hx138_4 := cB HB.out hx138_4; replace hx138_5 := cB HB.out hx138_5; replace hx138_6 := cB HB.out hx138_6; have HR138_2 := HR9000_2; have HC138_2 := HC9000_2; have HR138_3 := HR9000_3; have HC138_3 := HC9000_3; have HR138_4 := HR9000_4; have HC138_4 := HC9000_4; have HR138_5 := HR9000_5; have HC138_5 := HC9000_5; have hx139_0 := HX9000_0.out; have hx139_1 := HX9000_1.out; have hx139_2 := HX9000_2.out; have hx139_3 := HX9000_3.out; have hx139_4 := HX9000_4.out; have hx139_5 := HX9000_5.out; have hx139_6 := HX9000_6.out; replace hx139_0 := cB HB.out hx139_0; replace hx139_1 := cB HB.out hx139_1; replace hx139_2 := cB HB.out hx139_2; replace hx139_3 := cB HB.out hx139_3; replace hx139_4 := cB HB.out hx139_4; replace hx139_5 := cB HB.out hx139_5; replace hx139_6 := cB HB.out hx139_6; have HR139_2 := HR9000_2; have HC139_2 := HC9000_2; have HR139_3 := HR9000_3; have HC139_3 := HC9000_3; have HR139_4 := HR9000_4; have HC139_4 := HC9000_4; have HR139_5 := HR9000_5; have HC139_5 := HC9000_5; have hx143_0 := HX9000_0.out; have hx143_1 := HX9000_1.out; have hx143_2 := HX9000_2.out; have hx143_3 := HX9000_3.out; have hx143_4 := HX9000_4.out; have hx143_5 := HX9000_5.out; have hx143_6 := HX9000_6.out; replace hx143_0 := cB HB.out hx143_0; replace hx143_1 := cB HB.out hx143_1; replace hx143_2 := cB HB.out hx143_2; replace hx143_3 := cB HB.out hx143_3; replace hx143_4 := cB HB.out hx143_4; replace hx143_5 := cB HB.out hx143_5; replace hx143_6 := cB HB.out hx143_6; have HR143_2 := HR9000_2; have HC143_2 := HC9000_2; have HR143_3 := HR9000_3; have HC143_3 := HC9000_3; have HR143_4 := HR9000_4; have HC143_4 := HC9000_4; have HR143_5 := HR9000_5; have HC143_5 := HC9000_5))
        go_ret
        exact ⟨by first | rfl | (simp [errW_none, errW_some] <;> rfl) | (simp [*, errW_none, errW_some] <;> rfl), by repeat (first | (with_reducible first | exact HB.out | apply bA | apply bN | apply bD) | exact HB.out)⟩
      ·replace c15 := Bool.eq_false_iff.mpr c15
       subst c15
       have H1 : (some false) = some r := by rw [if_neg (show ¬ (false = true) by decide)] at H; exact H
       clear H
       have H := H1
       clear H1
       obtain rfl := Option.some.inj H
       have hx136_0 := HX9000_0.out
       have hx136_1 := HX9000_1.out
       have hx136_2 := HX9000_2.out
       have hx136_3 := HX9000_3.out
       have hx136_4 := HX9000_4.out
       have hx136_5 := HX9000_5.out
       have hx136_6 := HX9000_6.out
       replace hx136_0 := cB HB.out hx136_0
       replace hx136_1 := cB HB.out hx136_1
       replace hx136_2 := cB HB.out hx136_2
       replace hx136_3 := cB HB.out hx136_3
       replace hx136_4 := cB HB.out hx136_4
       replace hx136_5 := cB HB.out hx136_5
       replace hx136_6 := cB HB.out hx136_6
       have HR136_2 := HR9000_2
       have HC136_2 := HC9000_2
       have HR136_3 := HR9000_3
       have HC136_3 := HC9000_3
       have HR136_4 := HR9000_4
       have HC136_4 := HC9000_4
       have HR136_5 := HR9000_5
       have HC136_5 := HC9000_5
       go_wp2_with (first | ((with_reducible refine gate_callee (f := 56) rfl ?_); refine goesL_ (some 31) rfl rfl Try.func56 (by kernel_rfl) rfl #[.string ((rd_T27 l0_0 a0_1).f1)] rfl (by (try simp only [List.map_toArray, List.map_cons, List.map_nil]); first | done | rfl | (simp only [List.length_drop, List.length_take]; rfl)) ?_; (with_reducible refine (spec_IsName.calls kj2 ((rd_T27 l0_0 a0_1).f1) false _ A8.out).mono ?_); rintro e w' ⟨rfl, ⟨nd, rfl⟩⟩; refine ⟨_, rfl, ?_⟩; have hx138_0 := HX9000_0.out; have hx138_1 := HX9000_1.out; have hx138_2 := HX9000_2.out; have hx138_3 := HX9000_3.out; have hx138_4 := HX9000_4.out; have hx138_5 := HX9000_5.out; have hx138_6 := HX9000_6.out; replace hx138_0 := cB HB.out hx138_0; replace hx138_1 := cB HB.out hx138_1; replace hx138_2 := cB HB.out hx138_2; replace hx138_3 := cB HB.out hx138_3; replace hx138_4 := cB HB.out hx138_4; replace hx138_5 := cB HB.out hx138_5; replace hx138_6 := cB HB.out hx138_6; have HR138_2 := HR9000_2; have HC138_2 := HC9000_2; have HR138_3 := HR9000_3; have HC138_3 := HC9000_3; have HR138_4 := HR9000_4; have HC138_4 := HC9000_4; have HR138_5 := HR9000_5; have HC138_5 := HC9000_5; have hx139_0 := HX9000_0.out; have hx139_1 := HX9000_1.out; have hx139_2 := HX9000_2.out; have hx139_3 := HX9000_3.out; have hx139_4 := HX9000_4.out; have hx139_5 := HX9000_5.out; have hx139_6 := HX9000_6.out; replace hx139_0 := cB HB.out hx139_0; replace hx139_1 := cB HB.out hx139_1; replace hx139_2 := cB HB.out hx139_2; replace hx139_3 := cB HB.out hx139_3; replace hx139_4 := cB HB.out hx139_4; replace hx139_5 := cB HB.out hx139_5; replace hx139_6 := cB HB.out hx139_6; have HR139_2 := HR9000_2; have HC139_2 := HC9000_2; have HR139_3 := HR9000_3; have HC139_3 := HC9000_3; have HR139_4 := HR9000_4; have HC139_4 := HC9000_4; have HR139_5 := HR9000_5; have HC139_5 := HC9000_5))
       go_ret
       exact ⟨by first | rfl | (simp [errW_none, errW_some] <;> rfl) | (simp [*, errW_none, errW_some] <;> rfl), by repeat (first | (with_reducible first | exact HB.out | apply bA | apply bN | apply bD) | exact HB.out)⟩
     ·rw [if_neg c14] at H
      have c14b0 : (((rd_T27 l0_0 a0_1).f0) == 2) = false := beq_eq_false_iff_ne.mpr c14
      have c14b1 : (((rd_T27 l0_0 a0_1).f0) != 2) = true := bne_iff_ne.mpr c14
      by_cases c18 : ((rd_T27 l0_0 a0_1).f0) = 3
      ·rw [if_pos c18] at H
       have c18b0 : (((rd_T27 l0_0 a0_1).f0) == 3) = true := beq_iff_eq.mpr c18
       have c18b1 : (((rd_T27 l0_0 a0_1).f0) != 3) = false := bne_eq_false_iff_eq.mpr c18
       clear c18
       by_cases c19 : ((rd_T27 l0_0 a0_1).f1).toList = ([] : List UInt8)
       ·rw [if_pos c19] at H
        have c19b0 : (((rd_T27 l0_0 a0_1).f1).toList == ([] : List UInt8)) = true := beq_iff_eq.mpr c19
        have c19b1 : (((rd_T27 l0_0 a0_1).f1).toList != ([] : List UInt8)) = false := bne_eq_false_iff_eq.mpr c19
        clear c19
        replace H := Option.bind_eq_some_iff.mp H
        obtain ⟨t147, A200, H⟩ := H
        replace H : (if t147 = true then ((spec_l24Items.f kj2 ((rd_T27 l0_0 a0_1).f5) 0 t131).bind fun t149 => (if t149 = true then (some (((rd_T27 l0_0 a0_1).f6) == 0)) else (some false))) else (some false)) = some r := H
        have A20 := aM A200
        clear A200
        by_cases c21 : t147 = true
        ·subst c21
         have H1 : ((spec_l24Items.f kj2 ((rd_T27 l0_0 a0_1).f5) 0 t131).bind fun t149 => (if t149 = true then (some (((rd_T27 l0_0 a0_1).f6) == 0)) else (some false))) = some r := by rw [if_pos rfl] at H; exact H
         clear H
         have H := H1
         clear H1
         replace H := Option.bind_eq_some_iff.mp H
         obtain ⟨t149, A220, H⟩ := H
         replace H : (if t149 = true then (some (((rd_T27 l0_0 a0_1).f6) == 0)) else (some false)) = some r := H
         have A22 := aM A220
         clear A220
         by_cases c23 : t149 = true
         ·subst c23
          have H1 : (some (((rd_T27 l0_0 a0_1).f6) == 0)) = some r := by rw [if_pos rfl] at H; exact H
          clear H
          have H := H1
          clear H1
          obtain rfl := Option.some.inj H
          have hx136_0 := HX9000_0.out
          have hx136_1 := HX9000_1.out
          have hx136_2 := HX9000_2.out
          have hx136_3 := HX9000_3.out
          have hx136_4 := HX9000_4.out
          have hx136_5 := HX9000_5.out
          have hx136_6 := HX9000_6.out
          replace hx136_0 := cB HB.out hx136_0
          replace hx136_1 := cB HB.out hx136_1
          replace hx136_2 := cB HB.out hx136_2
          replace hx136_3 := cB HB.out hx136_3
          replace hx136_4 := cB HB.out hx136_4
          replace hx136_5 := cB HB.out hx136_5
          replace hx136_6 := cB HB.out hx136_6
          have HR136_2 := HR9000_2
          have HC136_2 := HC9000_2
          have HR136_3 := HR9000_3
          have HC136_3 := HC9000_3
          have HR136_4 := HR9000_4
          have HC136_4 := HC9000_4
          have HR136_5 := HR9000_5
          have HC136_5 := HC9000_5
          go_wp2_with (first | ((with_reducible refine gate_callee (f := 56) rfl ?_); refine goesL_ (some 31) rfl rfl Try.func56 (by kernel_rfl) rfl #[.string ((rd_T27 l0_0 a0_1).f1)] rfl (by (try simp only [List.map_toArray, List.map_cons, List.map_nil]); first | done | rfl | (simp only [List.length_drop, List.length_take]; rfl)) ?_; (with_reducible refine (spec_IsName.calls kj2 ((rd_T27 l0_0 a0_1).f1) t137 _ A8.out).mono ?_); rintro e w' ⟨rfl, ⟨nd, rfl⟩⟩; refine ⟨_, rfl, ?_⟩; have hx138_0 := HX9000_0.out; have hx138_1 := HX9000_1.out; have hx138_2 := HX9000_2.out; have hx138_3 := HX9000_3.out; have hx138_4 := HX9000_4.out; have hx138_5 := HX9000_5.out; have hx138_6 := HX9000_6.out; replace hx138_0 := cB HB.out hx138_0; replace hx138_1 := cB HB.out hx138_1; replace hx138_2 := cB HB.out hx138_2; replace hx138_3 := cB HB.out hx138_3; replace hx138_4 := cB HB.out hx138_4; replace hx138_5 := cB HB.out hx138_5; replace hx138_6 := cB HB.out hx138_6; have HR138_2 := HR9000_2; have HC138_2 := HC9000_2; have HR138_3 := HR9000_3; have HC138_3 := HC9000_3; have HR138_4 := HR9000_4; have HC138_4 := HC9000_4; have HR138_5 := HR9000_5; have HC138_5 := HC9000_5; have hx139_0 := HX9000_0.out; have hx139_1 := HX9000_1.out; have hx139_2 := HX9000_2.out; have hx139_3 := HX9000_3.out; have hx139_4 := HX9000_4.out; have hx139_5 := HX9000_5.out; have hx139_6 := HX9000_6.out; replace hx139_0 := cB HB.out hx139_0; replace hx139_1 := cB HB.out hx139_1; replace hx139_2 := cB HB.out hx139_2; replace hx139_3 := cB HB.out hx139_3; replace hx139_4 := cB HB.out hx139_4; replace hx139_5 := cB HB.out hx139_5; replace hx139_6 := cB HB.out hx139_6; have HR139_2 := HR9000_2; have HC139_2 := HC9000_2; have HR139_3 := HR9000_3; have HC139_3 := HC9000_3; have HR139_4 := HR9000_4; have HC139_4 := HC9000_4; have HR139_5 := HR9000_5; have HC139_5 := HC9000_5; have hx145_0 := HX9000_0.out; have hx145_1 := HX9000_1.out; have hx145_2 := HX9000_2.out; have hx145_3 := HX9000_3.out; have hx145_4 := HX9000_4.out; have hx145_5 := HX9000_5.out; have hx145_6 := HX9000_6.out; replace hx145_0 := cB HB.out hx145_0; replace hx145_1 := cB HB.out hx145_1; replace hx145_2 := cB HB.out hx145_2; replace hx145_3 := cB HB.out hx145_3; replace hx145_4 := cB HB.out hx145_4; replace hx145_5 := cB HB.out hx145_5; replace hx145_6 := cB HB.out hx145_6; have HR145_2 := HR9000_2; have HC145_2 := HC9000_2; have HR145_3 := HR9000_3; have HC145_3 := HC9000_3; have HR145_4 := HR9000_4; have HC145_4 := HC9000_4; have HR145_5 := HR9000_5; have HC145_5 := HC9000_5; have hx146_0 := HX9000_0.out; have hx146_1 := HX9000_1.out; have hx146_2 := HX9000_2.out; have hx146_3 := HX9000_3.out; have hx146_4 := HX9000_4.out; have hx146_5 := HX9000_5.out; have hx146_6 := HX9000_6.out; replace hx146_0 := cB HB.out hx146_0; replace hx146_1 := cB HB.out hx146_1; replace hx146_2 := cB HB.out hx146_2; replace hx146_3 := cB HB.out hx146_3; replace hx146_4 := cB HB.out hx146_4; replace hx146_5 := cB HB.out hx146_5; replace hx146_6 := cB HB.out hx146_6; have HR146_2 := HR9000_2; have HC146_2 := HC9000_2; have HR146_3 := HR9000_3; have HC146_3 := HC9000_3; have HR146_4 := HR9000_4; have HC146_4 := HC9000_4; have HR146_5 := HR9000_5; have HC146_5 := HC9000_5) | (go_at_call 55; (with_reducible refine (spec_l24Items.calls kj2 _ _ ((rd_T27 l0_0 a0_1).f3) 1 t131 true _ ?side1 ?side2 A20.out).mono ?_); (case side1 => repeat (first | exact (Kd.C_below HR146_3.out (by repeat (first | (with_reducible first | exact HB.out | apply bA | apply bN | apply bD) | exact HB.out))) | (with_reducible first | refine cA ?_ _ | refine cN ?_ _ | refine cD ?_))); (case side2 => exact HC146_3.out); rintro e w' ⟨rfl, ⟨nd, rfl⟩⟩; have hx148_0 := HX9000_0.out; have hx148_1 := HX9000_1.out; have hx148_2 := HX9000_2.out; have hx148_3 := HX9000_3.out; have hx148_4 := HX9000_4.out; have hx148_5 := HX9000_5.out; have hx148_6 := HX9000_6.out; replace hx148_0 := cB HB.out hx148_0; replace hx148_1 := cB HB.out hx148_1; replace hx148_2 := cB HB.out hx148_2; replace hx148_3 := cB HB.out hx148_3; replace hx148_4 := cB HB.out hx148_4; replace hx148_5 := cB HB.out hx148_5; replace hx148_6 := cB HB.out hx148_6; have HR148_2 := HR9000_2; have HC148_2 := HC9000_2; have HR148_3 := HR9000_3; have HC148_3 := HC9000_3; have HR148_4 := HR9000_4; have HC148_4 := HC9000_4; have HR148_5 := HR9000_5; have HC148_5 := HC9000_5) | (go_at_call 55; (with_reducible refine (spec_l24Items.calls kj2 _ _ ((rd_T27 l0_0 a0_1).f5) 0 t131 true _ ?side1 ?side2 A22.out).mono ?_); (case side1 => repeat (first | exact (Kd.C_below HR148_5.out (by repeat (first | (with_reducible first | exact HB.out | apply bA | apply bN | apply bD) | exact HB.out))) | (with_reducible first | refine cA ?_ _ | refine cN ?_ _ | refine cD ?_))); (case side2 => exact HC148_5.out); rintro e w' ⟨rfl, ⟨nd, rfl⟩⟩; have hx150_0 := HX9000_0.out; have hx150_1 := HX9000_1.out; have hx150_2 := HX9000_2.out; have hx150_3 := HX9000_3.out; have hx150_4 := HX9000_4.out; have hx150_5 := HX9000_5.out; have hx150_6 := HX9000_6.out; replace hx150_0 := cB HB.out hx150_0; replace hx150_1 := cB HB.out hx150_1; replace hx150_2 := cB HB.out hx150_2; replace hx150_3 := cB HB.out hx150_3; replace hx150_4 := cB HB.out hx150_4; replace hx150_5 := cB HB.out hx150_5; replace hx150_6 := cB HB.out hx150_6; have HR150_2 := HR9000_2; have HC150_2 := HC9000_2; have HR150_3 := HR9000_3; have HC150_3 := HC9000_3; have HR150_4 := HR9000_4; have HC150_4 := HC9000_4; have HR150_5 := HR9000_5; have HC150_5 := HC9000_5))
          go_ret
          exact ⟨by first | rfl | (simp [errW_none, errW_some] <;> rfl) | (simp [*, errW_none, errW_some] <;> rfl), by repeat (first | (with_reducible first | exact HB.out | apply bA | apply bN | apply bD) | exact HB.out)⟩
         ·replace c23 := Bool.eq_false_iff.mpr c23
          subst c23
          have H1 : (some false) = some r := by rw [if_neg (show ¬ (false = true) by decide)] at H; exact H
          clear H
          have H := H1
          clear H1
          obtain rfl := Option.some.inj H
          have hx136_0 := HX9000_0.out
          have hx136_1 := HX9000_1.out
          have hx136_2 := HX9000_2.out
          have hx136_3 := HX9000_3.out
          have hx136_4 := HX9000_4.out
          have hx136_5 := HX9000_5.out
          have hx136_6 := HX9000_6.out
          replace hx136_0 := cB HB.out hx136_0
          replace hx136_1 := cB HB.out hx136_1
          replace hx136_2 := cB HB.out hx136_2
          replace hx136_3 := cB HB.out hx136_3
          replace hx136_4 := cB HB.out hx136_4
          replace hx136_5 := cB HB.out hx136_5
          replace hx136_6 := cB HB.out hx136_6
          have HR136_2 := HR9000_2
          have HC136_2 := HC9000_2
          have HR136_3 := HR9000_3
          have HC136_3 := HC9000_3
          have HR136_4 := HR9000_4
          have HC136_4 := HC9000_4
          have HR136_5 := HR9000_5
          have HC136_5 := HC9000_5
          go_wp2_with (first | ((with_reducible refine gate_callee (f := 56) rfl ?_); refine goesL_ (some 31) rfl rfl Try.func56 (by kernel_rfl) rfl #[.string ((rd_T27 l0_0 a0_1).f1)] rfl (by (try simp only [List.map_toArray, List.map_cons, List.map_nil]); first | done | rfl | (simp only [List.length_drop, List.length_take]; rfl)) ?_; (with_reducible refine (spec_IsName.calls kj2 ((rd_T27 l0_0 a0_1).f1) t137 _ A8.out).mono ?_); rintro e w' ⟨rfl, ⟨nd, rfl⟩⟩; refine ⟨_, rfl, ?_⟩; have hx138_0 := HX9000_0.out; have hx138_1 := HX9000_1.out; have hx138_2 := HX9000_2.out; have hx138_3 := HX9000_3.out; have hx138_4 := HX9000_4.out; have hx138_5 := HX9000_5.out; have hx138_6 := HX9000_6.out; replace hx138_0 := cB HB.out hx138_0; replace hx138_1 := cB HB.out hx138_1; replace hx138_2 := cB HB.out hx138_2; replace hx138_3 := cB HB.out hx138_3; replace hx138_4 := cB HB.out hx138_4; replace hx138_5 := cB HB.out hx138_5; replace hx138_6 := cB HB.out hx138_6; have HR138_2 := HR9000_2; have HC138_2 := HC9000_2; have HR138_3 := HR9000_3; have HC138_3 := HC9000_3; have HR138_4 := HR9000_4; have HC138_4 := HC9000_4; have HR138_5 := HR9000_5; have HC138_5 := HC9000_5; have hx139_0 := HX9000_0.out; have hx139_1 := HX9000_1.out; have hx139_2 := HX9000_2.out; have hx139_3 := HX9000_3.out; have hx139_4 := HX9000_4.out; have hx139_5 := HX9000_5.out; have hx139_6 := HX9000_6.out; replace hx139_0 := cB HB.out hx139_0; replace hx139_1 := cB HB.out hx139_1; replace hx139_2 := cB HB.out hx139_2; replace hx139_3 := cB HB.out hx139_3; replace hx139_4 := cB HB.out hx139_4; replace hx139_5 := cB HB.out hx139_5; replace hx139_6 := cB HB.out hx139_6; have HR139_2 := HR9000_2; have HC139_2 := HC9000_2; have HR139_3 := HR9000_3; have HC139_3 := HC9000_3; have HR139_4 := HR9000_4; have HC139_4 := HC9000_4; have HR139_5 := HR9000_5; have HC139_5 := HC9000_5; have hx145_0 := HX9000_0.out; have hx145_1 := HX9000_1.out; have hx145_2 := HX9000_2.out; have hx145_3 := HX9000_3.out; have hx145_4 := HX9000_4.out; have hx145_5 := HX9000_5.out; have hx145_6 := HX9000_6.out; replace hx145_0 := cB HB.out hx145_0; replace hx145_1 := cB HB.out hx145_1; replace hx145_2 := cB HB.out hx145_2; replace hx145_3 := cB HB.out hx145_3; replace hx145_4 := cB HB.out hx145_4; replace hx145_5 := cB HB.out hx145_5; replace hx145_6 := cB HB.out hx145_6; have HR145_2 := HR9000_2; have HC145_2 := HC9000_2; have HR145_3 := HR9000_3; have HC145_3 := HC9000_3; have HR145_4 := HR9000_4; have HC145_4 := HC9000_4; have HR145_5 := HR9000_5; have HC145_5 := HC9000_5; have hx146_0 := HX9000_0.out; have hx146_1 := HX9000_1.out; have hx146_2 := HX9000_2.out; have hx146_3 := HX9000_3.out; have hx146_4 := HX9000_4.out; have hx146_5 := HX9000_5.out; have hx146_6 := HX9000_6.out; replace hx146_0 := cB HB.out hx146_0; replace hx146_1 := cB HB.out hx146_1; replace hx146_2 := cB HB.out hx146_2; replace hx146_3 := cB HB.out hx146_3; replace hx146_4 := cB HB.out hx146_4; replace hx146_5 := cB HB.out hx146_5; replace hx146_6 := cB HB.out hx146_6; have HR146_2 := HR9000_2; have HC146_2 := HC9000_2; have HR146_3 := HR9000_3; have HC146_3 := HC9000_3; have HR146_4 := HR9000_4; have HC146_4 := HC9000_4; have HR146_5 := HR9000_5; have HC146_5 := HC9000_5) | (go_at_call 55; (with_reducible refine (spec_l24Items.calls kj2 _ _ ((rd_T27 l0_0 a0_1).f3) 1 t131 true _ ?side1 ?side2 A20.out).mono ?_); (case side1 => repeat (first | exact (Kd.C_below HR146_3.out (by repeat (first | (with_reducible first | exact HB.out | apply bA | apply bN | apply bD) | exact HB.out))) | (with_reducible first | refine cA ?_ _ | refine cN ?_ _ | refine cD ?_))); (case side2 => exact HC146_3.out); rintro e w' ⟨rfl, ⟨nd, rfl⟩⟩; have hx148_0 := HX9000_0.out; have hx148_1 := HX9000_1.out; have hx148_2 := HX9000_2.out; have hx148_3 := HX9000_3.out; have hx148_4 := HX9000_4.out; have hx148_5 := HX9000_5.out; have hx148_6 := HX9000_6.out; replace hx148_0 := cB HB.out hx148_0; replace hx148_1 := cB HB.out hx148_1; replace hx148_2 := cB HB.out hx148_2; replace hx148_3 := cB HB.out hx148_3; replace hx148_4 := cB HB.out hx148_4; replace hx148_5 := cB HB.out hx148_5; replace hx148_6 := cB HB.out hx148_6; have HR148_2 := HR9000_2; have HC148_2 := HC9000_2; have HR148_3 := HR9000_3; have HC148_3 := HC9000_3; have HR148_4 := HR9000_4; have HC148_4 := HC9000_4; have HR148_5 := HR9000_5; have HC148_5 := HC9000_5) | (go_at_call 55; (with_reducible refine (spec_l24Items.calls kj2 _ _ ((rd_T27 l0_0 a0_1).f5) 0 t131 false _ ?side1 ?side2 A22.out).mono ?_); (case side1 => repeat (first | exact (Kd.C_below HR148_5.out (by repeat (first | (with_reducible first | exact HB.out | apply bA | apply bN | apply bD) | exact HB.out))) | (with_reducible first | refine cA ?_ _ | refine cN ?_ _ | refine cD ?_))); (case side2 => exact HC148_5.out); rintro e w' ⟨rfl, ⟨nd, rfl⟩⟩))
          go_ret
          exact ⟨by first | rfl | (simp [errW_none, errW_some] <;> rfl) | (simp [*, errW_none, errW_some] <;> rfl), by repeat (first | (with_reducible first | exact HB.out | apply bA | apply bN | apply bD) | exact HB.out)⟩
        ·replace c21 := Bool.eq_false_iff.mpr c21
         subst c21
         have H1 : (some false) = some r := by rw [if_neg (show ¬ (false = true) by decide)] at H; exact H
         clear H
         have H := H1
         clear H1
         obtain rfl := Option.some.inj H
         have hx136_0 := HX9000_0.out
         have hx136_1 := HX9000_1.out
         have hx136_2 := HX9000_2.out
         have hx136_3 := HX9000_3.out
         have hx136_4 := HX9000_4.out
         have hx136_5 := HX9000_5.out
         have hx136_6 := HX9000_6.out
         replace hx136_0 := cB HB.out hx136_0
         replace hx136_1 := cB HB.out hx136_1
         replace hx136_2 := cB HB.out hx136_2
         replace hx136_3 := cB HB.out hx136_3
         replace hx136_4 := cB HB.out hx136_4
         replace hx136_5 := cB HB.out hx136_5
         replace hx136_6 := cB HB.out hx136_6
         have HR136_2 := HR9000_2
         have HC136_2 := HC9000_2
         have HR136_3 := HR9000_3
         have HC136_3 := HC9000_3
         have HR136_4 := HR9000_4
         have HC136_4 := HC9000_4
         have HR136_5 := HR9000_5
         have HC136_5 := HC9000_5
         go_wp2_with (first | ((with_reducible refine gate_callee (f := 56) rfl ?_); refine goesL_ (some 31) rfl rfl Try.func56 (by kernel_rfl) rfl #[.string ((rd_T27 l0_0 a0_1).f1)] rfl (by (try simp only [List.map_toArray, List.map_cons, List.map_nil]); first | done | rfl | (simp only [List.length_drop, List.length_take]; rfl)) ?_; (with_reducible refine (spec_IsName.calls kj2 ((rd_T27 l0_0 a0_1).f1) t137 _ A8.out).mono ?_); rintro e w' ⟨rfl, ⟨nd, rfl⟩⟩; refine ⟨_, rfl, ?_⟩; have hx138_0 := HX9000_0.out; have hx138_1 := HX9000_1.out; have hx138_2 := HX9000_2.out; have hx138_3 := HX9000_3.out; have hx138_4 := HX9000_4.out; have hx138_5 := HX9000_5.out; have hx138_6 := HX9000_6.out; replace hx138_0 := cB HB.out hx138_0; replace hx138_1 := cB HB.out hx138_1; replace hx138_2 := cB HB.out hx138_2; replace hx138_3 := cB HB.out hx138_3; replace hx138_4 := cB HB.out hx138_4; replace hx138_5 := cB HB.out hx138_5; replace hx138_6 := cB HB.out hx138_6; have HR138_2 := HR9000_2; have HC138_2 := HC9000_2; have HR138_3 := HR9000_3; have HC138_3 := HC9000_3; have HR138_4 := HR9000_4; have HC138_4 := HC9000_4; have HR138_5 := HR9000_5; have HC138_5 := HC9000_5; have hx139_0 := HX9000_0.out; have hx139_1 := HX9000_1.out; have hx139_2 := HX9000_2.out; have hx139_3 := HX9000_3.out; have hx139_4 := HX9000_4.out; have hx139_5 := HX9000_5.out; have hx139_6 := HX9000_6.out; replace hx139_0 := cB HB.out hx139_0; replace hx139_1 := cB HB.out hx139_1; replace hx139_2 := cB HB.out hx139_2; replace hx139_3 := cB HB.out hx139_3; replace hx139_4 := cB HB.out hx139_4; replace hx139_5 := cB HB.out hx139_5; replace hx139_6 := cB HB.out hx139_6; have HR139_2 := HR9000_2; have HC139_2 := HC9000_2; have HR139_3 := HR9000_3; have HC139_3 := HC9000_3; have HR139_4 := HR9000_4; have HC139_4 := HC9000_4; have HR139_5 := HR9000_5; have HC139_5 := HC9000_5; have hx145_0 := HX9000_0.out; have hx145_1 := HX9000_1.out; have hx145_2 := HX9000_2.out; have hx145_3 := HX9000_3.out; have hx145_4 := HX9000_4.out; have hx145_5 := HX9000_5.out; have hx145_6 := HX9000_6.out; replace hx145_0 := cB HB.out hx145_0; replace hx145_1 := cB HB.out hx145_1; replace hx145_2 := cB HB.out hx145_2; replace hx145_3 := cB HB.out hx145_3; replace hx145_4 := cB HB.out hx145_4; replace hx145_5 := cB HB.out hx145_5; replace hx145_6 := cB HB.out hx145_6; have HR145_2 := HR9000_2; have HC145_2 := HC9000_2; have HR145_3 := HR9000_3; have HC145_3 := HC9000_3; have HR145_4 := HR9000_4; have HC145_4 := HC9000_4; have HR145_5 := HR9000_5; have HC145_5 := HC9000_5; have hx146_0 := HX9000_0.out; have hx146_1 := HX9000_1.out; have hx146_2 := HX9000_2.out; have hx146_3 := HX9000_3.out; have hx146_4 := HX9000_4.out; have hx146_5 := HX9000_5.out; have hx146_6 := HX9000_6.out; replace hx146_0 := cB HB.out hx146_0; replace hx146_1 := cB HB.out hx146_1; replace hx146_2 := cB HB.out hx146_2; replace hx146_3 := cB HB.out hx146_3; replace hx146_4 := cB HB.out hx146_4; replace hx146_5 := cB HB.out hx146_5; replace hx146_6 := cB HB.out hx146_6; have HR146_2 := HR9000_2; have HC146_2 := HC9000_2; have HR146_3 := HR9000_3; have HC146_3 := HC9000_3; have HR146_4 := HR9000_4; have HC146_4 := HC9000_4; have HR146_5 := HR9000_5; have HC146_5 := HC9000_5) | (go_at_call 55; (with_reducible refine (spec_l24Items.calls kj2 _ _ ((rd_T27 l0_0 a0_1).f3) 1 t131 false _ ?side1 ?side2 A20.out).mono ?_); (case side1 => repeat (first | exact (Kd.C_below HR146_3.out (by repeat (first | (with_reducible first | exact HB.out | apply bA | apply bN | apply bD) | exact HB.out))) | (with_reducible first | refine cA ?_ _ | refine cN ?_ _ | refine cD ?_))); (case side2 => exact HC146_3.out); rintro e w' ⟨rfl, ⟨nd, rfl⟩⟩))
         go_ret
         exact ⟨by first | rfl | (simp [errW_none, errW_some] <;> rfl) | (simp [*, errW_none, errW_some] <;> rfl), by repeat (first | (with_reducible first | exact HB.out | apply bA | apply bN | apply bD) | exact HB.out)⟩
       ·rw [if_neg c19] at H
        have c19b0 : (((rd_T27 l0_0 a0_1).f1).toList == ([] : List UInt8)) = false := beq_eq_false_iff_ne.mpr c19
        have c19b1 : (((rd_T27 l0_0 a0_1).f1).toList != ([] : List UInt8)) = true := bne_iff_ne.mpr c19
        obtain rfl := Option.some.inj H
        have hx136_0 := HX9000_0.out
        have hx136_1 := HX9000_1.out
        have hx136_2 := HX9000_2.out
        have hx136_3 := HX9000_3.out
        have hx136_4 := HX9000_4.out
        have hx136_5 := HX9000_5.out
        have hx136_6 := HX9000_6.out
        replace hx136_0 := cB HB.out hx136_0
        replace hx136_1 := cB HB.out hx136_1
        replace hx136_2 := cB HB.out hx136_2
        replace hx136_3 := cB HB.out hx136_3
        replace hx136_4 := cB HB.out hx136_4
        replace hx136_5 := cB HB.out hx136_5
        replace hx136_6 := cB HB.out hx136_6
        have HR136_2 := HR9000_2
        have HC136_2 := HC9000_2
        have HR136_3 := HR9000_3
        have HC136_3 := HC9000_3
        have HR136_4 := HR9000_4
        have HC136_4 := HC9000_4
        have HR136_5 := HR9000_5
        have HC136_5 := HC9000_5
        go_wp2_with (first | ((with_reducible refine gate_callee (f := 56) rfl ?_); refine goesL_ (some 31) rfl rfl Try.func56 (by kernel_rfl) rfl #[.string ((rd_T27 l0_0 a0_1).f1)] rfl (by (try simp only [List.map_toArray, List.map_cons, List.map_nil]); first | done | rfl | (simp only [List.length_drop, List.length_take]; rfl)) ?_; (with_reducible refine (spec_IsName.calls kj2 ((rd_T27 l0_0 a0_1).f1) t137 _ A8.out).mono ?_); rintro e w' ⟨rfl, ⟨nd, rfl⟩⟩; refine ⟨_, rfl, ?_⟩; have hx138_0 := HX9000_0.out; have hx138_1 := HX9000_1.out; have hx138_2 := HX9000_2.out; have hx138_3 := HX9000_3.out; have hx138_4 := HX9000_4.out; have hx138_5 := HX9000_5.out; have hx138_6 := HX9000_6.out; replace hx138_0 := cB HB.out hx138_0; replace hx138_1 := cB HB.out hx138_1; replace hx138_2 := cB HB.out hx138_2; replace hx138_3 := cB HB.out hx138_3; replace hx138_4 := cB HB.out hx138_4; replace hx138_5 := cB HB.out hx138_5; replace hx138_6 := cB HB.out hx138_6; have HR138_2 := HR9000_2; have HC138_2 := HC9000_2; have HR138_3 := HR9000_3; have HC138_3 := HC9000_3; have HR138_4 := HR9000_4; have HC138_4 := HC9000_4; have HR138_5 := HR9000_5; have HC138_5 := HC9000_5; have hx139_0 := HX9000_0.out; have hx139_1 := HX9000_1.out; have hx139_2 := HX9000_2.out; have hx139_3 := HX9000_3.out; have hx139_4 := HX9000_4.out; have hx139_5 := HX9000_5.out; have hx139_6 := HX9000_6.out; replace hx139_0 := cB HB.out hx139_0; replace hx139_1 := cB HB.out hx139_1; replace hx139_2 := cB HB.out hx139_2; replace hx139_3 := cB HB.out hx139_3; replace hx139_4 := cB HB.out hx139_4; replace hx139_5 := cB HB.out hx139_5; replace hx139_6 := cB HB.out hx139_6; have HR139_2 := HR9000_2; have HC139_2 := HC9000_2; have HR139_3 := HR9000_3; have HC139_3 := HC9000_3; have HR139_4 := HR9000_4; have HC139_4 := HC9000_4; have HR139_5 := HR9000_5; have HC139_5 := HC9000_5; have hx145_0 := HX9000_0.out; have hx145_1 := HX9000_1.out; have hx145_2 := HX9000_2.out; have hx145_3 := HX9000_3.out; have hx145_4 := HX9000_4.out; have hx145_5 := HX9000_5.out; have hx145_6 := HX9000_6.out; replace hx145_0 := cB HB.out hx145_0; replace hx145_1 := cB HB.out hx145_1; replace hx145_2 := cB HB.out hx145_2; replace hx145_3 := cB HB.out hx145_3; replace hx145_4 := cB HB.out hx145_4; replace hx145_5 := cB HB.out hx145_5; replace hx145_6 := cB HB.out hx145_6; have HR145_2 := HR9000_2; have HC145_2 := HC9000_2; have HR145_3 := HR9000_3; have HC145_3 := HC9000_3; have HR145_4 := HR9000_4; have HC145_4 := HC9000_4; have HR145_5 := HR9000_5; have HC145_5 := HC9000_5))
        go_ret
        exact ⟨by first | rfl | (simp [errW_none, errW_some] <;> rfl) | (simp [*, errW_none, errW_some] <;> rfl), by repeat (first | (with_reducible first | exact HB.out | apply bA | apply bN | apply bD) | exact HB.out)⟩
      ·rw [if_neg c18] at H
       have c18b0 : (((rd_T27 l0_0 a0_1).f0) == 3) = false := beq_eq_false_iff_ne.mpr c18
       have c18b1 : (((rd_T27 l0_0 a0_1).f0) != 3) = true := bne_iff_ne.mpr c18
       by_cases c24 : ((rd_T27 l0_0 a0_1).f0) = 4
       ·rw [if_pos c24] at H
        have c24b0 : (((rd_T27 l0_0 a0_1).f0) == 4) = true := beq_iff_eq.mpr c24
        have c24b1 : (((rd_T27 l0_0 a0_1).f0) != 4) = false := bne_eq_false_iff_eq.mpr c24
        clear c24
        by_cases c25 : ((rd_T27 l0_0 a0_1).f1).toList = ([] : List UInt8)
        ·rw [if_pos c25] at H
         have c25b0 : (((rd_T27 l0_0 a0_1).f1).toList == ([] : List UInt8)) = true := beq_iff_eq.mpr c25
         have c25b1 : (((rd_T27 l0_0 a0_1).f1).toList != ([] : List UInt8)) = false := bne_eq_false_iff_eq.mpr c25
         clear c25
         by_cases c26 : (((rd_T27 l0_0 a0_1).f3).length : Int) = 0
         ·rw [if_pos c26] at H
          have c26b0 : ((((rd_T27 l0_0 a0_1).f3).length : Int) == 0) = true := beq_iff_eq.mpr c26
          have c26b1 : ((((rd_T27 l0_0 a0_1).f3).length : Int) != 0) = false := bne_eq_false_iff_eq.mpr c26
          clear c26
          by_cases c27 : (((rd_T27 l0_0 a0_1).f5).length : Int) = 0
          ·rw [if_pos c27] at H
           have c27b0 : ((((rd_T27 l0_0 a0_1).f5).length : Int) == 0) = true := beq_iff_eq.mpr c27
           have c27b1 : ((((rd_T27 l0_0 a0_1).f5).length : Int) != 0) = false := bne_eq_false_iff_eq.mpr c27
           clear c27
           obtain rfl := Option.some.inj H
           have hx136_0 := HX9000_0.out
           have hx136_1 := HX9000_1.out
           have hx136_2 := HX9000_2.out
           have hx136_3 := HX9000_3.out
           have hx136_4 := HX9000_4.out
           have hx136_5 := HX9000_5.out
           have hx136_6 := HX9000_6.out
           replace hx136_0 := cB HB.out hx136_0
           replace hx136_1 := cB HB.out hx136_1
           replace hx136_2 := cB HB.out hx136_2
           replace hx136_3 := cB HB.out hx136_3
           replace hx136_4 := cB HB.out hx136_4
           replace hx136_5 := cB HB.out hx136_5
           replace hx136_6 := cB HB.out hx136_6
           have HR136_2 := HR9000_2
           have HC136_2 := HC9000_2
           have HR136_3 := HR9000_3
           have HC136_3 := HC9000_3
           have HR136_4 := HR9000_4
           have HC136_4 := HC9000_4
           have HR136_5 := HR9000_5
           have HC136_5 := HC9000_5
           go_wp2_with (first | ((with_reducible refine gate_callee (f := 56) rfl ?_); refine goesL_ (some 31) rfl rfl Try.func56 (by kernel_rfl) rfl #[.string ((rd_T27 l0_0 a0_1).f1)] rfl (by (try simp only [List.map_toArray, List.map_cons, List.map_nil]); first | done | rfl | (simp only [List.length_drop, List.length_take]; rfl)) ?_; (with_reducible refine (spec_IsName.calls kj2 ((rd_T27 l0_0 a0_1).f1) t137 _ A8.out).mono ?_); rintro e w' ⟨rfl, ⟨nd, rfl⟩⟩; refine ⟨_, rfl, ?_⟩; have hx138_0 := HX9000_0.out; have hx138_1 := HX9000_1.out; have hx138_2 := HX9000_2.out; have hx138_3 := HX9000_3.out; have hx138_4 := HX9000_4.out; have hx138_5 := HX9000_5.out; have hx138_6 := HX9000_6.out; replace hx138_0 := cB HB.out hx138_0; replace hx138_1 := cB HB.out hx138_1; replace hx138_2 := cB HB.out hx138_2; replace hx138_3 := cB HB.out hx138_3; replace hx138_4 := cB HB.out hx138_4; replace hx138_5 := cB HB.out hx138_5; replace hx138_6 := cB HB.out hx138_6; have HR138_2 := HR9000_2; have HC138_2 := HC9000_2; have HR138_3 := HR9000_3; have HC138_3 := HC9000_3; have HR138_4 := HR9000_4; have HC138_4 := HC9000_4; have HR138_5 := HR9000_5; have HC138_5 := HC9000_5; have hx139_0 := HX9000_0.out; have hx139_1 := HX9000_1.out; have hx139_2 := HX9000_2.out; have hx139_3 := HX9000_3.out; have hx139_4 := HX9000_4.out; have hx139_5 := HX9000_5.out; have hx139_6 := HX9000_6.out; replace hx139_0 := cB HB.out hx139_0; replace hx139_1 := cB HB.out hx139_1; replace hx139_2 := cB HB.out hx139_2; replace hx139_3 := cB HB.out hx139_3; replace hx139_4 := cB HB.out hx139_4; replace hx139_5 := cB HB.out hx139_5; replace hx139_6 := cB HB.out hx139_6; have HR139_2 := HR9000_2; have HC139_2 := HC9000_2; have HR139_3 := HR9000_3; have HC139_3 := HC9000_3; have HR139_4 := HR9000_4; have HC139_4 := HC9000_4; have HR139_5 := HR9000_5; have HC139_5 := HC9000_5; have hx151_0 := HX9000_0.out; have hx151_1 := HX9000_1.out; have hx151_2 := HX9000_2.out; have hx151_3 := HX9000_3.out; have hx151_4 := HX9000_4.out; have hx151_5 := HX9000_5.out; have hx151_6 := HX9000_6.out; replace hx151_0 := cB HB.out hx151_0; replace hx151_1 := cB HB.out hx151_1; replace hx151_2 := cB HB.out hx151_2; replace hx151_3 := cB HB.out hx151_3; replace hx151_4 := cB HB.out hx151_4; replace hx151_5 := cB HB.out hx151_5; replace hx151_6 := cB HB.out hx151_6; have HR151_2 := HR9000_2; have HC151_2 := HC9000_2; have HR151_3 := HR9000_3; have HC151_3 := HC9000_3; have HR151_4 := HR9000_4; have HC151_4 := HC9000_4; have HR151_5 := HR9000_5; have HC151_5 := HC9000_5; have hx152_0 := HX9000_0.out; have hx152_1 := HX9000_1.out; have hx152_2 := HX9000_2.out; have hx152_3 := HX9000_3.out; have hx152_4 := HX9000_4.out; have hx152_5 := HX9000_5.out; have hx152_6 := HX9000_6.out; replace hx152_0 := cB HB.out hx152_0; replace hx152_1 := cB HB.out hx152_1; replace hx152_2 := cB HB.out hx152_2; replace hx152_3 := cB HB.out hx152_3; replace hx152_4 := cB HB.out hx152_4; replace hx152_5 := cB HB.out hx152_5; replace hx152_6 := cB HB.out hx152_6; have HR152_2 := HR9000_2; have HC152_2 := HC9000_2; have HR152_3 := HR9000_3; have HC152_3 := HC9000_3; have HR152_4 := HR9000_4; have HC152_4 := HC9000_4; have HR152_5 := HR9000_5; have HC152_5 := HC9000_5; have hx153_0 := HX9000_0.out; have hx153_1 := HX9000_1.out; have hx153_2 := HX9000_2.out; have hx153_3 := HX9000_3.out; have hx153_4 := HX9000_4.out; have hx153_5 := HX9000_5.out; have hx153_6 := HX9000_6.out; replace hx153_0 := cB HB.out hx153_0; replace hx153_1 := cB HB.out hx153_1; replace hx153_2 := cB HB.out hx153_2; replace hx153_3 := cB HB.out hx153_3; replace hx153_4 := cB HB.out hx153_4; replace hx153_5 := cB HB.out hx153_5; replace hx153_6 := cB HB.out hx153_6; have HR153_2 := HR9000_2; have HC153_2 := HC9000_2; have HR153_3 := HR9000_3; have HC153_3 := HC9000_3; have HR153_4 := HR9000_4; have HC153_4 := HC9000_4; have HR153_5 := HR9000_5; have HC153_5 := HC9000_5))
           go_ret
           exact ⟨by first | rfl | (simp [errW_none, errW_some] <;> rfl) | (simp [*, errW_none, errW_some] <;> rfl), by repeat (first | (with_reducible first | exact HB.out | apply bA | apply bN | apply bD) | exact HB.out)⟩
          ·rw [if_neg c27] at H
           have c27b0 : ((((rd_T27 l0_0 a0_1).f5).length : Int) == 0) = false := beq_eq_false_iff_ne.mpr c27
           have c27b1 : ((((rd_T27 l0_0 a0_1).f5).length : Int) != 0) = true := bne_iff_ne.mpr c27
           have c27b2 : ¬ (((rd_T27 l0_0 a0_1).f5) = []) := fun h_ => c27 (by rw [h_]; rfl)
           obtain rfl := Option.some.inj H
           have hx136_0 := HX9000_0.out
           have hx136_1 := HX9000_1.out
           have hx136_2 := HX9000_2.out
           have hx136_3 := HX9000_3.out
           have hx136_4 := HX9000_4.out
           have hx136_5 := HX9000_5.out
           have hx136_6 := HX9000_6.out
           replace hx136_0 := cB HB.out hx136_0
           replace hx136_1 := cB HB.out hx136_1
           replace hx136_2 := cB HB.out hx136_2
           replace hx136_3 := cB HB.out hx136_3
           replace hx136_4 := cB HB.out hx136_4
           replace hx136_5 := cB HB.out hx136_5
           replace hx136_6 := cB HB.out hx136_6
           have HR136_2 := HR9000_2
           have HC136_2 := HC9000_2
           have HR136_3 := HR9000_3
           have HC136_3 := HC9000_3
           have HR136_4 := HR9000_4
           have HC136_4 := HC9000_4
           have HR136_5 := HR9000_5
           have HC136_5 := HC9000_5
           go_wp2_with (first | ((with_reducible refine gate_callee (f := 56) rfl ?_); refine goesL_ (some 31) rfl rfl Try.func56 (by kernel_rfl) rfl #[.string ((rd_T27 l0_0 a0_1).f1)] rfl (by (try simp only [List.map_toArray, List.map_cons, List.map_nil]); first | done | rfl | (simp only [List.length_drop, List.length_take]; rfl)) ?_; (with_reducible refine (spec_IsName.calls kj2 ((rd_T27 l0_0 a0_1).f1) t137 _ A8.out).mono ?_); rintro e w' ⟨rfl, ⟨nd, rfl⟩⟩; refine ⟨_, rfl, ?_⟩; have hx138_0 := HX9000_0.out; have hx138_1 := HX9000_1.out; have hx138_2 := HX9000_2.out; have hx138_3 := HX9000_3.out; have hx138_4 := HX9000_4.out; have hx138_5 := HX9000_5.out; have hx138_6 := HX9000_6.out; replace hx138_0 := cB HB.out hx138_0; replace hx138_1 := cB HB.out hx138_1; replace hx138_2 := cB HB.out hx138_2; replace hx138_3 := cB HB.out hx138_3; replace hx138_4 := cB HB.out hx138_4; replace hx138_5 := cB HB.out hx138_5; replace hx138_6 := cB HB.out hx138_6; have HR138_2 := HR9000_2; have HC138_2 := HC9000_2; have HR138_3 := HR9000_3; have HC138_3 := HC9000_3; have HR138_4 := HR9000_4; have HC138_4 := HC9000_4; have HR138_5 := HR9000_5; have HC138_5 := HC9000_5; have hx139_0 := HX9000_0.out; have hx139_1 := HX9000_1.out; have hx139_2 := HX9000_2.out; have hx139_3 := HX9000_3.out; have hx139_4 := HX9000_4.out; have hx139_5 := HX9000_5.out; have hx139_6 := HX9000_6.out; replace hx139_0 := cB HB.out hx139_0; replace hx139_1 := cB HB.out hx139_1; replace hx139_2 := cB HB.out hx139_2; replace hx139_3 := cB HB.out hx139_3; replace hx139_4 := cB HB.out hx139_4; replace hx139_5 := cB HB.out hx139_5; replace hx139_6 := cB HB.out hx139_6; have HR139_2 := HR9000_2; have HC139_2 := HC9000_2; have HR139_3 := HR9000_3; have HC139_3 := HC9000_3; have HR139_4 := HR9000_4; have HC139_4 := HC9000_4; have HR139_5 := HR9000_5; have HC139_5 := HC9000_5; have hx151_0 := HX9000_0.out; have hx151_1 := HX9000_1.out; have hx151_2 := HX9000_2.out; have hx151_3 := HX9000_3.out; have hx151_4 := HX9000_4.out; have hx151_5 := HX9000_5.out; have hx151_6 := HX9000_6.out; replace hx151_0 := cB HB.out hx151_0; replace hx151_1 := cB HB.out hx151_1; replace hx151_2 := cB HB.out hx151_2; replace hx151_3 := cB HB.out hx151_3; replace hx151_4 := cB HB.out hx151_4; replace hx151_5 := cB HB.out hx151_5; replace hx151_6 := cB HB.out hx151_6; have HR151_2 := HR9000_2; have HC151_2 := HC9000_2; have HR151_3 := HR9000_3; have HC151_3 := HC9000_3; have HR151_4 := HR9000_4; have HC151_4 := HC9000_4; have HR151_5 := HR9000_5; have HC151_5 := HC9000_5; have hx152_0 := HX9000_0.out; have hx152_1 := HX9000_1.out; have hx152_2 := HX9000_2.out; have hx152_3 := HX9000_3.out; have hx152_4 := HX9000_4.out; have hx152_5 := HX9000_5.out; have hx152_6 := HX9000_6.out; replace hx152_0 := cB HB.out hx152_0; replace hx152_1 := cB HB.out hx152_1; replace hx152_2 := cB HB.out hx152_2; replace hx152_3 := cB HB.out hx152_3; replace hx152_4 := cB HB.out hx152_4; replace hx152_5 := cB HB.out hx152_5; replace hx152_6 := cB HB.out hx152_6; have HR152_2 := HR9000_2; have HC152_2 := HC9000_2; have HR152_3 := HR9000_3; have HC152_3 := HC9000_3; have HR152_4 := HR9000_4; have HC152_4 := HC9000_4; have HR152_5 := HR9000_5; have HC152_5 := HC9000_5))
           go_ret
           exact ⟨by first | rfl | (simp [errW_none, errW_some] <;> rfl) | (simp [*, errW_none, errW_some] <;> rfl), by repeat (first | (with_reducible first | exact HB.out | apply bA | apply bN | apply bD) | exact HB.out)⟩
         ·rw [if_neg c26] at H
          have c26b0 : ((((rd_T27 l0_0 a0_1).f3).length : Int) == 0) = false := beq_eq_false_iff_ne.mpr c26
          have c26b1 : ((((rd_T27 l0_0 a0_1).f3).length : Int) != 0) = true := bne_iff_ne.mpr c26
          have c26b2 : ¬ (((rd_T27 l0_0 a0_1).f3) = []) := fun h_ => c26 (by rw [h_]; rfl)
          obtain rfl := Option.some.inj H
          have hx136_0 := HX9000_0.out
          have hx136_1 := HX9000_1.out
          have hx136_2 := HX9000_2.out
          have hx136_3 := HX9000_3.out
          have hx136_4 := HX9000_4.out
          have hx136_5 := HX9000_5.out
          have hx136_6 := HX9000_6.out
          replace hx136_0 := cB HB.out hx136_0
          replace hx136_1 := cB HB.out hx136_1
          replace hx136_2 := cB HB.out hx136_2
          replace hx136_3 := cB HB.out hx136_3
          replace hx136_4 := cB HB.out hx136_4
          replace hx136_5 := cB HB.out hx136_5
          replace hx136_6 := cB HB.out hx136_6
          have HR136_2 := HR9000_2
          have HC136_2 := HC9000_2
          have HR136_3 := HR9000_3
          have HC136_3 := HC9000_3
          have HR136_4 := HR9000_4
          have HC136_4 := HC9000_4
          have HR136_5 := HR9000_5
          have HC136_5 := HC9000_5
          go_wp2_with (first | ((with_reducible refine gate_callee (f := 56) rfl ?_); refine goesL_ (some 31) rfl rfl Try.func56 (by kernel_rfl) rfl #[.string ((rd_T27 l0_0 a0_1).f1)] rfl (by (try simp only [List.map_toArray, List.map_cons, List.map_nil]); first | done | rfl | (simp only [List.length_drop, List.length_take]; rfl)) ?_; (with_reducible refine (spec_IsName.calls kj2 ((rd_T27 l0_0 a0_1).f1) t137 _ A8.out).mono ?_); rintro e w' ⟨rfl, ⟨nd, rfl⟩⟩; refine ⟨_, rfl, ?_⟩; have hx138_0 := HX9000_0.out; have hx138_1 := HX9000_1.out; have hx138_2 := HX9000_2.out; have hx138_3 := HX9000_3.out; have hx138_4 := HX9000_4.out; have hx138_5 := HX9000_5.out; have hx138_6 := HX9000_6.out; replace hx138_0 := cB HB.out hx138_0; replace hx138_1 := cB HB.out hx138_1; replace hx138_2 := cB HB.out hx138_2; replace hx138_3 := cB HB.out hx138_3; replace hx138_4 := cB HB.out hx138_4; replace hx138_5 := cB HB.out hx138_5; replace hx138_6 := cB HB.out hx138_6; have HR138_2 := HR9000_2; have HC138_2 := HC9000_2; have HR138_3 := HR9000_3; have HC138_3 := HC9000_3; have HR138_4 := HR9000_4; have HC138_4 := HC9000_4; have HR138_5 := HR9000_5; have HC138_5 := HC9000_5; have hx139_0 := HX9000_0.out; have hx139_1 := HX9000_1.out; have hx139_2 := HX9000_2.out; have hx139_3 := HX9000_3.out; have hx139_4 := HX9000_4.out; have hx139_5 := HX9000_5.out; have hx139_6 := HX9000_6.out; replace hx139_0 := cB HB.out hx139_0; replace hx139_1 := cB HB.out hx139_1; replace hx139_2 := cB HB.out hx139_2; replace hx139_3 := cB HB.out hx139_3; replace hx139_4 := cB HB.out hx139_4; replace hx139_5 := cB HB.out hx139_5; replace hx139_6 := cB HB.out hx139_6; have HR139_2 := HR9000_2; have HC139_2 := HC9000_2; have HR139_3 := HR9000_3; have HC139_3 := HC9000_3; have HR139_4 := HR9000_4; have HC139_4 := HC9000_4; have HR139_5 := HR9000_5; have HC139_5 := HC9000_5; have hx151_0 := HX9000_0.out; have hx151_1 := HX9000_1.out; have hx151_2 := HX9000_2.out; have hx151_3 := HX9000_3.out; have hx151_4 := HX9000_4.out; have hx151_5 := HX9000_5.out; have hx151_6 := HX9000_6.out; replace hx151_0 := cB HB.out hx151_0; replace hx151_1 := cB HB.out hx151_1; replace hx151_2 := cB HB.out hx151_2; replace hx151_3 := cB HB.out hx151_3; replace hx151_4 := cB HB.out hx151_4; replace hx151_5 := cB HB.out hx151_5; replace hx151_6 := cB HB.out hx151_6; have HR151_2 := HR9000_2; have HC151_2 := HC9000_2; have HR151_3 := HR9000_3; have HC151_3 := HC9000_3; have HR151_4 := HR9000_4; have HC151_4 := HC9000_4; have HR151_5 := HR9000_5; have HC151_5 := HC9000_5; have hx152_0 := HX9000_0.out; have hx152_1 := HX9000_1.out; have hx152_2 := HX9000_2.out; have hx152_3 := HX9000_3.out; have hx152_4 := HX9000_4.out; have hx152_5 := HX9000_5.out; have hx152_6 := HX9000_6.out; replace hx152_0 := cB HB.out hx152_0; replace hx152_1 := cB HB.out hx152_1; replace hx152_2 := cB HB.out hx152_2; replace hx152_3 := cB HB.out hx152_3; replace hx152_4 := cB HB.out hx152_4; replace hx152_5 := cB HB.out hx152_5; replace hx152_6 := cB HB.out hx152_6; have HR152_2 := HR9000_2; have HC152_2 := HC9000_2; have HR152_3 := HR9000_3; have HC152_3 := HC9000_3; have HR152_4 := HR9000_4; have HC152_4 := HC9000_4; have HR152_5 := HR9000_5; have HC152_5 := HC9000_5))
          go_ret
          exact ⟨by first | rfl | (simp [errW_none, errW_some] <;> rfl) | (simp [*, errW_none, errW_some] <;> rfl), by repeat (first | (with_reducible first | exact HB.out | apply bA | apply bN | apply bD) | exact HB.out)⟩
        ·rw [if_neg c25] at H
         have c25b0 : (((rd_T27 l0_0 a0_1).f1).toList == ([] : List UInt8)) = false := beq_eq_false_iff_ne.mpr c25
         have c25b1 : (((rd_T27 l0_0 a0_1).f1).toList != ([] : List UInt8)) = true := bne_iff_ne.mpr c25
         obtain rfl := Option.some.inj H
         have hx136_0 := HX9000_0.out
         have hx136_1 := HX9000_1.out
         have hx136_2 := HX9000_2.out
         have hx136_3 := HX9000_3.out
         have hx136_4 := HX9000_4.out
         have hx136_5 := HX9000_5.out
         have hx136_6 := HX9000_6.out
         replace hx136_0 := cB HB.out hx136_0
         replace hx136_1 := cB HB.out hx136_1
         replace hx136_2 := cB HB.out hx136_2
         replace hx136_3 := cB HB.out hx136_3
         replace hx136_4 := cB HB.out hx136_4
         replace hx136_5 := cB HB.out hx136_5
         replace hx136_6 := cB HB.out hx136_6
         have HR136_2 := HR9000_2
         have HC136_2 := HC9000_2
         have HR136_3 := HR9000_3
         have HC136_3 := HC9000_3
         have HR136_4 := HR9000_4
         have HC136_4 := HC9000_4
         have HR136_5 := HR9000_5
         have HC136_5 := HC9000_5
         go_wp2_with (first | ((with_reducible refine gate_callee (f := 56) rfl ?_); refine goesL_ (some 31) rfl rfl Try.func56 (by kernel_rfl) rfl #[.string ((rd_T27 l0_0 a0_1).f1)] rfl (by (try simp only [List.map_toArray, List.map_cons, List.map_nil]); first | done | rfl | (simp only [List.length_drop, List.length_take]; rfl)) ?_; (with_reducible refine (spec_IsName.calls kj2 ((rd_T27 l0_0 a0_1).f1) t137 _ A8.out).mono ?_); rintro e w' ⟨rfl, ⟨nd, rfl⟩⟩; refine ⟨_, rfl, ?_⟩; have hx138_0 := HX9000_0.out; have hx138_1 := HX9000_1.out; have hx138_2 := HX9000_2.out; have hx138_3 := HX9000_3.out; have hx138_4 := HX9000_4.out; have hx138_5 := HX9000_5.out; have hx138_6 := HX9000_6.out; replace hx138_0 := cB HB.out hx138_0; replace hx138_1 := cB HB.out hx138_1; replace hx138_2 := cB HB.out hx138_2; replace hx138_3 := cB HB.out hx138_3; replace hx138_4 := cB HB.out hx138_4; replace hx138_5 := cB HB.out hx138_5; replace hx138_6 := cB HB.out hx138_6; have HR138_2 := HR9000_2; have HC138_2 := HC9000_2; have HR138_3 := HR9000_3; have HC138_3 := HC9000_3; have HR138_4 := HR9000_4; have HC138_4 := HC9000_4; have HR138_5 := HR9000_5; have HC138_5 := HC9000_5; have hx139_0 := HX9000_0.out; have hx139_1 := HX9000_1.out; have hx139_2 := HX9000_2.out; have hx139_3 := HX9000_3.out; have hx139_4 := HX9000_4.out; have hx139_5 := HX9000_5.out; have hx139_6 := HX9000_6.out; replace hx139_0 := cB HB.out hx139_0; replace hx139_1 := cB HB.out hx139_1; replace hx139_2 := cB HB.out hx139_2; replace hx139_3 := cB HB.out hx139_3; replace hx139_4 := cB HB.out hx139_4; replace hx139_5 := cB HB.out hx139_5; replace hx139_6 := cB HB.out hx139_6; have HR139_2 := HR9000_2; have HC139_2 := HC9000_2; have HR139_3 := HR9000_3; have HC139_3 := HC9000_3; have HR139_4 := HR9000_4; have HC139_4 := HC9000_4; have HR139_5 := HR9000_5; have HC139_5 := HC9000_5; have hx151_0 := HX9000_0.out; have hx151_1 := HX9000_1.out; have hx151_2 := HX9000_2.out; have hx151_3 := HX9000_3.out; have hx151_4 := HX9000_4.out; have hx151_5 := HX9000_5.out; have hx151_6 := HX9000_6.out; replace hx151_0 := cB HB.out hx151_0; replace hx151_1 := cB HB.out hx151_1; replace hx151_2 := cB HB.out hx151_2; replace hx151_3 := cB HB.out hx151_3; replace hx151_4 := cB HB.out hx151_4; replace hx151_5 := cB HB.out hx151_5; replace hx151_6 := cB HB.out hx151_6; have HR151_2 := HR9000_2; have HC151_2 := HC9000_2; have HR151_3 := HR9000_3; have HC151_3 := HC9000_3; have HR151_4 := HR9000_4; have HC151_4 := HC9000_4; have HR151_5 := HR9000_5; have HC151_5 := HC9000_5))
         go_ret
         exact ⟨by first | rfl | (simp [errW_none, errW_some] <;> rfl) | (simp [*, errW_none, errW_some] <;> rfl), by repeat (first | (with_reducible first | exact HB.out | apply bA | apply bN | apply bD) | exact HB.out)⟩
       ·rw [if_neg c24] at H
        have c24b0 : (((rd_T27 l0_0 a0_1).f0) == 4) = false := beq_eq_false_iff_ne.mpr c24
        have c24b1 : (((rd_T27 l0_0 a0_1).f0) != 4) = true := bne_iff_ne.mpr c24
        by_cases c28 : ((rd_T27 l0_0 a0_1).f0) = 5
        ·rw [if_pos c28] at H
         have c28b0 : (((rd_T27 l0_0 a0_1).f0) == 5) = true := beq_iff_eq.mpr c28
         have c28b1 : (((rd_T27 l0_0 a0_1).f0) != 5) = false := bne_eq_false_iff_eq.mpr c28
         clear c28
         by_cases c29 : ((rd_T27 l0_0 a0_1).f1).toList = ([] : List UInt8)
         ·rw [if_pos c29] at H
          have c29b0 : (((rd_T27 l0_0 a0_1).f1).toList == ([] : List UInt8)) = true := beq_iff_eq.mpr c29
          have c29b1 : (((rd_T27 l0_0 a0_1).f1).toList != ([] : List UInt8)) = false := bne_eq_false_iff_eq.mpr c29
          clear c29
          replace H := Option.bind_eq_some_iff.mp H
          obtain ⟨t156, A300, H⟩ := H
          replace H : (if t156 = true then (if (((rd_T27 l0_0 a0_1).f5).length : Int) = 0 then ((spec_l00In.f ((rd_T27 l0_0 a0_1).f6) (-262144) 262144).bind fun t158 => (some t158)) else (some false)) else (some false)) = some r := H
          have A30 := aM A300
          clear A300
          by_cases c31 : t156 = true
          ·subst c31
           have H1 : (if (((rd_T27 l0_0 a0_1).f5).length : Int) = 0 then ((spec_l00In.f ((rd_T27 l0_0 a0_1).f6) (-262144) 262144).bind fun t158 => (some t158)) else (some false)) = some r := by rw [if_pos rfl] at H; exact H
           clear H
           have H := H1
           clear H1
           by_cases c32 : (((rd_T27 l0_0 a0_1).f5).length : Int) = 0
           ·rw [if_pos c32] at H
            have c32b0 : ((((rd_T27 l0_0 a0_1).f5).length : Int) == 0) = true := beq_iff_eq.mpr c32
            have c32b1 : ((((rd_T27 l0_0 a0_1).f5).length : Int) != 0) = false := bne_eq_false_iff_eq.mpr c32
            clear c32
            replace H := Option.bind_eq_some_iff.mp H
            obtain ⟨t158, A330, H⟩ := H
            replace H : (some t158) = some r := H
            have A33 := aM A330
            clear A330
            obtain rfl := Option.some.inj H
            have hx136_0 := HX9000_0.out
            have hx136_1 := HX9000_1.out
            have hx136_2 := HX9000_2.out
            have hx136_3 := HX9000_3.out
            have hx136_4 := HX9000_4.out
            have hx136_5 := HX9000_5.out
            have hx136_6 := HX9000_6.out
            replace hx136_0 := cB HB.out hx136_0
            replace hx136_1 := cB HB.out hx136_1
            replace hx136_2 := cB HB.out hx136_2
            replace hx136_3 := cB HB.out hx136_3
            replace hx136_4 := cB HB.out hx136_4
            replace hx136_5 := cB HB.out hx136_5
            replace hx136_6 := cB HB.out hx136_6
            have HR136_2 := HR9000_2
            have HC136_2 := HC9000_2
            have HR136_3 := HR9000_3
            have HC136_3 := HC9000_3
            have HR136_4 := HR9000_4
            have HC136_4 := HC9000_4
            have HR136_5 := HR9000_5
            have HC136_5 := HC9000_5
            go_wp2_with (first | ((with_reducible refine gate_callee (f := 56) rfl ?_); refine goesL_ (some 31) rfl rfl Try.func56 (by kernel_rfl) rfl #[.string ((rd_T27 l0_0 a0_1).f1)] rfl (by (try simp only [List.map_toArray, List.map_cons, List.map_nil]); first | done | rfl | (simp only [List.length_drop, List.length_take]; rfl)) ?_; (with_reducible refine (spec_IsName.calls kj2 ((rd_T27 l0_0 a0_1).f1) t137 _ A8.out).mono ?_); rintro e w' ⟨rfl, ⟨nd, rfl⟩⟩; refine ⟨_, rfl, ?_⟩; have hx138_0 := HX9000_0.out; have hx138_1 := HX9000_1.out; have hx138_2 := HX9000_2.out; have hx138_3 := HX9000_3.out; have hx138_4 := HX9000_4.out; have hx138_5 := HX9000_5.out; have hx138_6 := HX9000_6.out; replace hx138_0 := cB HB.out hx138_0; replace hx138_1 := cB HB.out hx138_1; replace hx138_2 := cB HB.out hx138_2; replace hx138_3 := cB HB.out hx138_3; replace hx138_4 := cB HB.out hx138_4; replace hx138_5 := cB HB.out hx138_5; replace hx138_6 := cB HB.out hx138_6; have HR138_2 := HR9000_2; have HC138_2 := HC9000_2; have HR138_3 := HR9000_3; have HC138_3 := HC9000_3; have HR138_4 := HR9000_4; have HC138_4 := HC9000_4; have HR138_5 := HR9000_5; have HC138_5 := HC9000_5; have hx139_0 := HX9000_0.out; have hx139_1 := HX9000_1.out; have hx139_2 := HX9000_2.out; have hx139_3 := HX9000_3.out; have hx139_4 := HX9000_4.out; have hx139_5 := HX9000_5.out; have hx139_6 := HX9000_6.out; replace hx139_0 := cB HB.out hx139_0; replace hx139_1 := cB HB.out hx139_1; replace hx139_2 := cB HB.out hx139_2; replace hx139_3 := cB HB.out hx139_3; replace hx139_4 := cB HB.out hx139_4; replace hx139_5 := cB HB.out hx139_5; replace hx139_6 := cB HB.out hx139_6; have HR139_2 := HR9000_2; have HC139_2 := HC9000_2; have HR139_3 := HR9000_3; have HC139_3 := HC9000_3; have HR139_4 := HR9000_4; have HC139_4 := HC9000_4; have HR139_5 := HR9000_5; have HC139_5 := HC9000_5; have hx154_0 := HX9000_0.out; have hx154_1 := HX9000_1.out; have hx154_2 := HX9000_2.out; have hx154_3 := HX9000_3.out; have hx154_4 := HX9000_4.out; have hx154_5 := HX9000_5.out; have hx154_6 := HX9000_6.out; replace hx154_0 := cB HB.out hx154_0; replace hx154_1 := cB HB.out hx154_1; replace hx154_2 := cB HB.out hx154_2; replace hx154_3 := cB HB.out hx154_3; replace hx154_4 := cB HB.out hx154_4; replace hx154_5 := cB HB.out hx154_5; replace hx154_6 := cB HB.out hx154_6; have HR154_2 := HR9000_2; have HC154_2 := HC9000_2; have HR154_3 := HR9000_3; have HC154_3 := HC9000_3; have HR154_4 := HR9000_4; have HC154_4 := HC9000_4; have HR154_5 := HR9000_5; have HC154_5 := HC9000_5; have hx155_0 := HX9000_0.out; have hx155_1 := HX9000_1.out; have hx155_2 := HX9000_2.out; have hx155_3 := HX9000_3.out; have hx155_4 := HX9000_4.out; have hx155_5 := HX9000_5.out; have hx155_6 := HX9000_6.out; replace hx155_0 := cB HB.out hx155_0; replace hx155_1 := cB HB.out hx155_1; replace hx155_2 := cB HB.out hx155_2; replace hx155_3 := cB HB.out hx155_3; replace hx155_4 := cB HB.out hx155_4; replace hx155_5 := cB HB.out hx155_5; replace hx155_6 := cB HB.out hx155_6; have HR155_2 := HR9000_2; have HC155_2 := HC9000_2; have HR155_3 := HR9000_3; have HC155_3 := HC9000_3; have HR155_4 := HR9000_4; have HC155_4 := HC9000_4; have HR155_5 := HR9000_5; have HC155_5 := HC9000_5) | (go_at_call 55; (with_reducible refine (spec_l24Items.calls kj2 _ _ ((rd_T27 l0_0 a0_1).f3) 2 2 true _ ?side1 ?side2 A30.out).mono ?_); (case side1 => repeat (first | exact (Kd.C_below HR155_3.out (by repeat (first | (with_reducible first | exact HB.out | apply bA | apply bN | apply bD) | exact HB.out))) | (with_reducible first | refine cA ?_ _ | refine cN ?_ _ | refine cD ?_))); (case side2 => exact HC155_3.out); rintro e w' ⟨rfl, ⟨nd, rfl⟩⟩; have hx157_0 := HX9000_0.out; have hx157_1 := HX9000_1.out; have hx157_2 := HX9000_2.out; have hx157_3 := HX9000_3.out; have hx157_4 := HX9000_4.out; have hx157_5 := HX9000_5.out; have hx157_6 := HX9000_6.out; replace hx157_0 := cB HB.out hx157_0; replace hx157_1 := cB HB.out hx157_1; replace hx157_2 := cB HB.out hx157_2; replace hx157_3 := cB HB.out hx157_3; replace hx157_4 := cB HB.out hx157_4; replace hx157_5 := cB HB.out hx157_5; replace hx157_6 := cB HB.out hx157_6; have HR157_2 := HR9000_2; have HC157_2 := HC9000_2; have HR157_3 := HR9000_3; have HC157_3 := HC9000_3; have HR157_4 := HR9000_4; have HC157_4 := HC9000_4; have HR157_5 := HR9000_5; have HC157_5 := HC9000_5) | (go_at_call 57; (with_reducible refine (spec_l00In.calls ((rd_T27 l0_0 a0_1).f6) (-262144) 262144 t158 _ A33.out).mono ?_); rintro e w' ⟨rfl, ⟨nd, rfl⟩⟩))
            go_ret
            exact ⟨by first | rfl | (simp [errW_none, errW_some] <;> rfl) | (simp [*, errW_none, errW_some] <;> rfl), by repeat (first | (with_reducible first | exact HB.out | apply bA | apply bN | apply bD) | exact HB.out)⟩
           ·rw [if_neg c32] at H
            have c32b0 : ((((rd_T27 l0_0 a0_1).f5).length : Int) == 0) = false := beq_eq_false_iff_ne.mpr c32
            have c32b1 : ((((rd_T27 l0_0 a0_1).f5).length : Int) != 0) = true := bne_iff_ne.mpr c32
            have c32b2 : ¬ (((rd_T27 l0_0 a0_1).f5) = []) := fun h_ => c32 (by rw [h_]; rfl)
            obtain rfl := Option.some.inj H
            have hx136_0 := HX9000_0.out
            have hx136_1 := HX9000_1.out
            have hx136_2 := HX9000_2.out
            have hx136_3 := HX9000_3.out
            have hx136_4 := HX9000_4.out
            have hx136_5 := HX9000_5.out
            have hx136_6 := HX9000_6.out
            replace hx136_0 := cB HB.out hx136_0
            replace hx136_1 := cB HB.out hx136_1
            replace hx136_2 := cB HB.out hx136_2
            replace hx136_3 := cB HB.out hx136_3
            replace hx136_4 := cB HB.out hx136_4
            replace hx136_5 := cB HB.out hx136_5
            replace hx136_6 := cB HB.out hx136_6
            have HR136_2 := HR9000_2
            have HC136_2 := HC9000_2
            have HR136_3 := HR9000_3
            have HC136_3 := HC9000_3
            have HR136_4 := HR9000_4
            have HC136_4 := HC9000_4
            have HR136_5 := HR9000_5
            have HC136_5 := HC9000_5
            go_wp2_with (first | ((with_reducible refine gate_callee (f := 56) rfl ?_); refine goesL_ (some 31) rfl rfl Try.func56 (by kernel_rfl) rfl #[.string ((rd_T27 l0_0 a0_1).f1)] rfl (by (try simp only [List.map_toArray, List.map_cons, List.map_nil]); first | done | rfl | (simp only [List.length_drop, List.length_take]; rfl)) ?_; (with_reducible refine (spec_IsName.calls kj2 ((rd_T27 l0_0 a0_1).f1) t137 _ A8.out).mono ?_); rintro e w' ⟨rfl, ⟨nd, rfl⟩⟩; refine ⟨_, rfl, ?_⟩; have hx138_0 := HX9000_0.out; have hx138_1 := HX9000_1.out; have hx138_2 := HX9000_2.out; have hx138_3 := HX9000_3.out; have hx138_4 := HX9000_4.out; have hx138_5 := HX9000_5.out; have hx138_6 := HX9000_6.out; replace hx138_0 := cB HB.out hx138_0; replace hx138_1 := cB HB.out hx138_1; replace hx138_2 := cB HB.out hx138_2; replace hx138_3 := cB HB.out hx138_3; replace hx138_4 := cB HB.out hx138_4; replace hx138_5 := cB HB.out hx138_5; replace hx138_6 := cB HB.out hx138_6; have HR138_2 := HR9000_2; have HC138_2 := HC9000_2; have HR138_3 := HR9000_3; have HC138_3 := HC9000_3; have HR138_4 := HR9000_4; have HC138_4 := HC9000_4; have HR138_5 := HR9000_5; have HC138_5 := HC9000_5; have hx139_0 := HX9000_0.out; have hx139_1 := HX9000_1.out; have hx139_2 := HX9000_2.out; have hx139_3 := HX9000_3.out; have hx139_4 := HX9000_4.out; have hx139_5 := HX9000_5.out; have hx139_6 := HX9000_6.out; replace hx139_0 := cB HB.out hx139_0; replace hx139_1 := cB HB.out hx139_1; replace hx139_2 := cB HB.out hx139_2; replace hx139_3 := cB HB.out hx139_3; replace hx139_4 := cB HB.out hx139_4; replace hx139_5 := cB HB.out hx139_5; replace hx139_6 := cB HB.out hx139_6; have HR139_2 := HR9000_2; have HC139_2 := HC9000_2; have HR139_3 := HR9000_3; have HC139_3 := HC9000_3; have HR139_4 := HR9000_4; have HC139_4 := HC9000_4; have HR139_5 := HR9000_5; have HC139_5 := HC9000_5; have hx154_0 := HX9000_0.out; have hx154_1 := HX9000_1.out; have hx154_2 := HX9000_2.out; have hx154_3 := HX9000_3.out; have hx154_4 := HX9000_4.out; have hx154_5 := HX9000_5.out; have hx154_6 := HX9000_6.out; replace hx154_0 := cB HB.out hx154_0; replace hx154_1 := cB HB.out hx154_1; replace hx154_2 := cB HB.out hx154_2; replace hx154_3 := cB HB.out hx154_3; replace hx154_4 := cB HB.out hx154_4; replace hx154_5 := cB HB.out hx154_5; replace hx154_6 := cB HB.out hx154_6; have HR154_2 := HR9000_2; have HC154_2 := HC9000_2; have HR154_3 := HR9000_3; have HC154_3 := HC9000_3; have HR154_4 := HR9000_4; have HC154_4 := HC9000_4; have HR154_5 := HR9000_5; have HC154_5 := HC9000_5; have hx155_0 := HX9000_0.out; have hx155_1 := HX9000_1.out; have hx155_2 := HX9000_2.out; have hx155_3 := HX9000_3.out; have hx155_4 := HX9000_4.out; have hx155_5 := HX9000_5.out; have hx155_6 := HX9000_6.out; replace hx155_0 := cB HB.out hx155_0; replace hx155_1 := cB HB.out hx155_1; replace hx155_2 := cB HB.out hx155_2; replace hx155_3 := cB HB.out hx155_3; replace hx155_4 := cB HB.out hx155_4; replace hx155_5 := cB HB.out hx155_5; replace hx155_6 := cB HB.out hx155_6; have HR155_2 := HR9000_2; have HC155_2 := HC9000_2; have HR155_3 := HR9000_3; have HC155_3 := HC9000_3; have HR155_4 := HR9000_4; have HC155_4 := HC9000_4; have HR155_5 := HR9000_5; have HC155_5 := HC9000_5) | (go_at_call 55; (with_reducible refine (spec_l24Items.calls kj2 _ _ ((rd_T27 l0_0 a0_1).f3) 2 2 true _ ?side1 ?side2 A30.out).mono ?_); (case side1 => repeat (first | exact (Kd.C_below HR155_3.out (by repeat (first | (with_reducible first | exact HB.out | apply bA | apply bN | apply bD) | exact HB.out))) | (with_reducible first | refine cA ?_ _ | refine cN ?_ _ | refine cD ?_))); (case side2 => exact HC155_3.out); rintro e w' ⟨rfl, ⟨nd, rfl⟩⟩))
            go_ret
            exact ⟨by first | rfl | (simp [errW_none, errW_some] <;> rfl) | (simp [*, errW_none, errW_some] <;> rfl), by repeat (first | (with_reducible first | exact HB.out | apply bA | apply bN | apply bD) | exact HB.out)⟩
          ·replace c31 := Bool.eq_false_iff.mpr c31
           subst c31
           have H1 : (some false) = some r := by rw [if_neg (show ¬ (false = true) by decide)] at H; exact H
           clear H
           have H := H1
           clear H1
           obtain rfl := Option.some.inj H
           have hx136_0 := HX9000_0.out
           have hx136_1 := HX9000_1.out
           have hx136_2 := HX9000_2.out
           have hx136_3 := HX9000_3.out
           have hx136_4 := HX9000_4.out
           have hx136_5 := HX9000_5.out
           have hx136_6 := HX9000_6.out
           replace hx136_0 := cB HB.out hx136_0
           replace hx136_1 := cB HB.out hx136_1
           replace hx136_2 := cB HB.out hx136_2
           replace hx136_3 := cB HB.out hx136_3
           replace hx136_4 := cB HB.out hx136_4
           replace hx136_5 := cB HB.out hx136_5
           replace hx136_6 := cB HB.out hx136_6
           have HR136_2 := HR9000_2
           have HC136_2 := HC9000_2
           have HR136_3 := HR9000_3
           have HC136_3 := HC9000_3
           have HR136_4 := HR9000_4
           have HC136_4 := HC9000_4
           have HR136_5 := HR9000_5
           have HC136_5 := HC9000_5
           go_wp2_with (first | ((with_reducible refine gate_callee (f := 56) rfl ?_); refine goesL_ (some 31) rfl rfl Try.func56 (by kernel_rfl) rfl #[.string ((rd_T27 l0_0 a0_1).f1)] rfl (by (try simp only [List.map_toArray, List.map_cons, List.map_nil]); first | done | rfl | (simp only [List.length_drop, List.length_take]; rfl)) ?_; (with_reducible refine (spec_IsName.calls kj2 ((rd_T27 l0_0 a0_1).f1) t137 _ A8.out).mono ?_); rintro e w' ⟨rfl, ⟨nd, rfl⟩⟩; refine ⟨_, rfl, ?_⟩; have hx138_0 := HX9000_0.out; have hx138_1 := HX9000_1.out; have hx138_2 := HX9000_2.out; have hx138_3 := HX9000_3.out; have hx138_4 := HX9000_4.out; have hx138_5 := HX9000_5.out; have hx138_6 := HX9000_6.out; replace hx138_0 := cB HB.out hx138_0; replace hx138_1 := cB HB.out hx138_1; replace hx138_2 := cB HB.out hx138_2; replace hx138_3 := cB HB.out hx138_3; replace hx138_4 := cB HB.out hx138_4; replace hx138_5 := cB HB.out hx138_5; replace hx138_6 := cB HB.out hx138_6; have HR138_2 := HR9000_2; have HC138_2 := HC9000_2; have HR138_3 := HR9000_3; have HC138_3 := HC9000_3; have HR138_4 := HR9000_4; have HC138_4 := HC9000_4; have HR138_5 := HR9000_5; have HC138_5 := HC9000_5; have hx139_0 := HX9000_0.out; have hx139_1 := HX9000_1.out; have hx139_2 := HX9000_2.out; have hx139_3 := HX9000_3.out; have hx139_4 := HX9000_4.out; have hx139_5 := HX9000_5.out; have hx139_6 := HX9000_6.out; replace hx139_0 := cB HB.out hx139_0; replace hx139_1 := cB HB.out hx139_1; replace hx139_2 := cB HB.out hx139_2; replace hx139_3 := cB HB.out hx139_3; replace hx139_4 := cB HB.out hx139_4; replace hx139_5 := cB HB.out hx139_5; replace hx139_6 := cB HB.out hx139_6; have HR139_2 := HR9000_2; have HC139_2 := HC9000_2; have HR139_3 := HR9000_3; have HC139_3 := HC9000_3; have HR139_4 := HR9000_4; have HC139_4 := HC9000_4; have HR139_5 := HR9000_5; have HC139_5 := HC9000_5; have hx154_0 := HX9000_0.out; have hx154_1 := HX9000_1.out; have hx154_2 := HX9000_2.out; have hx154_3 := HX9000_3.out; have hx154_4 := HX9000_4.out; have hx154_5 := HX9000_5.out; have hx154_6 := HX9000_6.out; replace hx154_0 := cB HB.out hx154_0; replace hx154_1 := cB HB.out hx154_1; replace hx154_2 := cB HB.out hx154_2; replace hx154_3 := cB HB.out hx154_3; replace hx154_4 := cB HB.out hx154_4; replace hx154_5 := cB HB.out hx154_5; replace hx154_6 := cB HB.out hx154_6; have HR154_2 := HR9000_2; have HC154_2 := HC9000_2; have HR154_3 := HR9000_3; have HC154_3 := HC9000_3; have HR154_4 := HR9000_4; have HC154_4 := HC9000_4; have HR154_5 := HR9000_5; have HC154_5 := HC9000_5; have hx155_0 := HX9000_0.out; have hx155_1 := HX9000_1.out; have hx155_2 := HX9000_2.out; have hx155_3 := HX9000_3.out; have hx155_4 := HX9000_4.out; have hx155_5 := HX9000_5.out; have hx155_6 := HX9000_6.out; replace hx155_0 := cB HB.out hx155_0; replace hx155_1 := cB HB.out hx155_1; replace hx155_2 := cB HB.out hx155_2; replace hx155_3 := cB HB.out hx155_3; replace hx155_4 := cB HB.out hx155_4; replace hx155_5 := cB HB.out hx155_5; replace hx155_6 := cB HB.out hx155_6; have HR155_2 := HR9000_2; have HC155_2 := HC9000_2; have HR155_3 := HR9000_3; have HC155_3 := HC9000_3; have HR155_4 := HR9000_4; have HC155_4 := HC9000_4; have HR155_5 := HR9000_5; have HC155_5 := HC9000_5) | (go_at_call 55; (with_reducible refine (spec_l24Items.calls kj2 _ _ ((rd_T27 l0_0 a0_1).f3) 2 2 false _ ?side1 ?side2 A30.out).mono ?_); (case side1 => repeat (first | exact (Kd.C_below HR155_3.out (by repeat (first | (with_reducible first | exact HB.out | apply bA | apply bN | apply bD) | exact HB.out))) | (with_reducible first | refine cA ?_ _ | refine cN ?_ _ | refine cD ?_))); (case side2 => exact HC155_3.out); rintro e w' ⟨rfl, ⟨nd, rfl⟩⟩))
           go_ret
           exact ⟨by first | rfl | (simp [errW_none, errW_some] <;> rfl) | (simp [*, errW_none, errW_some] <;> rfl), by repeat (first | (with_reducible first | exact HB.out | apply bA | apply bN | apply bD) | exact HB.out)⟩
         ·rw [if_neg c29] at H
          have c29b0 : (((rd_T27 l0_0 a0_1).f1).toList == ([] : List UInt8)) = false := beq_eq_false_iff_ne.mpr c29
          have c29b1 : (((rd_T27 l0_0 a0_1).f1).toList != ([] : List UInt8)) = true := bne_iff_ne.mpr c29
          obtain rfl := Option.some.inj H
          have hx136_0 := HX9000_0.out
          have hx136_1 := HX9000_1.out
          have hx136_2 := HX9000_2.out
          have hx136_3 := HX9000_3.out
          have hx136_4 := HX9000_4.out
          have hx136_5 := HX9000_5.out
          have hx136_6 := HX9000_6.out
          replace hx136_0 := cB HB.out hx136_0
          replace hx136_1 := cB HB.out hx136_1
          replace hx136_2 := cB HB.out hx136_2
          replace hx136_3 := cB HB.out hx136_3
          replace hx136_4 := cB HB.out hx136_4
          replace hx136_5 := cB HB.out hx136_5
          replace hx136_6 := cB HB.out hx136_6
          have HR136_2 := HR9000_2
          have HC136_2 := HC9000_2
          have HR136_3 := HR9000_3
          have HC136_3 := HC9000_3
          have HR136_4 := HR9000_4
          have HC136_4 := HC9000_4
          have HR136_5 := HR9000_5
          have HC136_5 := HC9000_5
          go_wp2_with (first | ((with_reducible refine gate_callee (f := 56) rfl ?_); refine goesL_ (some 31) rfl rfl Try.func56 (by kernel_rfl) rfl #[.string ((rd_T27 l0_0 a0_1).f1)] rfl (by (try simp only [List.map_toArray, List.map_cons, List.map_nil]); first | done | rfl | (simp only [List.length_drop, List.length_take]; rfl)) ?_; (with_reducible refine (spec_IsName.calls kj2 ((rd_T27 l0_0 a0_1).f1) t137 _ A8.out).mono ?_); rintro e w' ⟨rfl, ⟨nd, rfl⟩⟩; refine ⟨_, rfl, ?_⟩; have hx138_0 := HX9000_0.out; have hx138_1 := HX9000_1.out; have hx138_2 := HX9000_2.out; have hx138_3 := HX9000_3.out; have hx138_4 := HX9000_4.out; have hx138_5 := HX9000_5.out; have hx138_6 := HX9000_6.out; replace hx138_0 := cB HB.out hx138_0; replace hx138_1 := cB HB.out hx138_1; replace hx138_2 := cB HB.out hx138_2; replace hx138_3 := cB HB.out hx138_3; replace hx138_4 := cB HB.out hx138_4; replace hx138_5 := cB HB.out hx138_5; replace hx138_6 := cB HB.out hx138_6; have HR138_2 := HR9000_2; have HC138_2 := HC9000_2; have HR138_3 := HR9000_3; have HC138_3 := HC9000_3; have HR138_4 := HR9000_4; have HC138_4 := HC9000_4; have HR138_5 := HR9000_5; have HC138_5 := HC9000_5; have hx139_0 := HX9000_0.out; have hx139_1 := HX9000_1.out; have hx139_2 := HX9000_2.out; have hx139_3 := HX9000_3.out; have hx139_4 := HX9000_4.out; have hx139_5 := HX9000_5.out; have hx139_6 := HX9000_6.out; replace hx139_0 := cB HB.out hx139_0; replace hx139_1 := cB HB.out hx139_1; replace hx139_2 := cB HB.out hx139_2; replace hx139_3 := cB HB.out hx139_3; replace hx139_4 := cB HB.out hx139_4; replace hx139_5 := cB HB.out hx139_5; replace hx139_6 := cB HB.out hx139_6; have HR139_2 := HR9000_2; have HC139_2 := HC9000_2; have HR139_3 := HR9000_3; have HC139_3 := HC9000_3; have HR139_4 := HR9000_4; have HC139_4 := HC9000_4; have HR139_5 := HR9000_5; have HC139_5 := HC9000_5; have hx154_0 := HX9000_0.out; have hx154_1 := HX9000_1.out; have hx154_2 := HX9000_2.out; have hx154_3 := HX9000_3.out; have hx154_4 := HX9000_4.out; have hx154_5 := HX9000_5.out; have hx154_6 := HX9000_6.out; replace hx154_0 := cB HB.out hx154_0; replace hx154_1 := cB HB.out hx154_1; replace hx154_2 := cB HB.out hx154_2; replace hx154_3 := cB HB.out hx154_3; replace hx154_4 := cB HB.out hx154_4; replace hx154_5 := cB HB.out hx154_5; replace hx154_6 := cB HB.out hx154_6; have HR154_2 := HR9000_2; have HC154_2 := HC9000_2; have HR154_3 := HR9000_3; have HC154_3 := HC9000_3; have HR154_4 := HR9000_4; have HC154_4 := HC9000_4; have HR154_5 := HR9000_5; have HC154_5 := HC9000_5))
          go_ret
          exact ⟨by first | rfl | (simp [errW_none, errW_some] <;> rfl) | (simp [*, errW_none, errW_some] <;> rfl), by repeat (first | (with_reducible first | exact HB.out | apply bA | apply bN | apply bD) | exact HB.out)⟩
        ·rw [if_neg c28] at H
         have c28b0 : (((rd_T27 l0_0 a0_1).f0) == 5) = false := beq_eq_false_iff_ne.mpr c28
         have c28b1 : (((rd_T27 l0_0 a0_1).f0) != 5) = true := bne_iff_ne.mpr c28
         by_cases c34 : ((rd_T27 l0_0 a0_1).f0) = 6
         ·rw [if_pos c34] at H
          have c34b0 : (((rd_T27 l0_0 a0_1).f0) == 6) = true := beq_iff_eq.mpr c34
          have c34b1 : (((rd_T27 l0_0 a0_1).f0) != 6) = false := bne_eq_false_iff_eq.mpr c34
          clear c34
          by_cases c35 : t137 = true
          ·subst c35
           have H1 : ((spec_l24Items.f kj2 ((rd_T27 l0_0 a0_1).f3) 2 2).bind fun t160 => (if t160 = true then (if (((rd_T27 l0_0 a0_1).f5).length : Int) = 0 then (some (((rd_T27 l0_0 a0_1).f6) == 0)) else (some false)) else (some false))) = some r := by rw [if_pos rfl] at H; exact H
           clear H
           have H := H1
           clear H1
           replace H := Option.bind_eq_some_iff.mp H
           obtain ⟨t160, A360, H⟩ := H
           replace H : (if t160 = true then (if (((rd_T27 l0_0 a0_1).f5).length : Int) = 0 then (some (((rd_T27 l0_0 a0_1).f6) == 0)) else (some false)) else (some false)) = some r := H
           have A36 := aM A360
           clear A360
           by_cases c37 : t160 = true
           ·subst c37
            have H1 : (if (((rd_T27 l0_0 a0_1).f5).length : Int) = 0 then (some (((rd_T27 l0_0 a0_1).f6) == 0)) else (some false)) = some r := by rw [if_pos rfl] at H; exact H
            clear H
            have H := H1
            clear H1
            by_cases c38 : (((rd_T27 l0_0 a0_1).f5).length : Int) = 0
            ·rw [if_pos c38] at H
             have c38b0 : ((((rd_T27 l0_0 a0_1).f5).length : Int) == 0) = true := beq_iff_eq.mpr c38
             have c38b1 : ((((rd_T27 l0_0 a0_1).f5).length : Int) != 0) = false := bne_eq_false_iff_eq.mpr c38
             clear c38
             obtain rfl := Option.some.inj H
             have hx136_0 := HX9000_0.out
             have hx136_1 := HX9000_1.out
             have hx136_2 := HX9000_2.out
             have hx136_3 := HX9000_3.out
             have hx136_4 := HX9000_4.out
             have hx136_5 := HX9000_5.out
             have hx136_6 := HX9000_6.out
             replace hx136_0 := cB HB.out hx136_0
             replace hx136_1 := cB HB.out hx136_1
             replace hx136_2 := cB HB.out hx136_2
             replace hx136_3 := cB HB.out hx136_3
             replace hx136_4 := cB HB.out hx136_4
             replace hx136_5 := cB HB.out hx136_5
             replace hx136_6 := cB HB.out hx136_6
             have HR136_2 := HR9000_2
             have HC136_2 := HC9000_2
             have HR136_3 := HR9000_3
             have HC136_3 := HC9000_3
             have HR136_4 := HR9000_4
             have HC136_4 := HC9000_4
             have HR136_5 := HR9000_5
             have HC136_5 := HC9000_5
             go_wp2_with (first | ((with_reducible refine gate_callee (f := 56) rfl ?_); refine goesL_ (some 31) rfl rfl Try.func56 (by kernel_rfl) rfl #[.string ((rd_T27 l0_0 a0_1).f1)] rfl (by (try simp only [List.map_toArray, List.map_cons, List.map_nil]); first | done | rfl | (simp only [List.length_drop, List.length_take]; rfl)) ?_; (with_reducible refine (spec_IsName.calls kj2 ((rd_T27 l0_0 a0_1).f1) true _ A8.out).mono ?_); rintro e w' ⟨rfl, ⟨nd, rfl⟩⟩; refine ⟨_, rfl, ?_⟩; have hx138_0 := HX9000_0.out; have hx138_1 := HX9000_1.out; have hx138_2 := HX9000_2.out; have hx138_3 := HX9000_3.out; have hx138_4 := HX9000_4.out; have hx138_5 := HX9000_5.out; have hx138_6 := HX9000_6.out; replace hx138_0 := cB HB.out hx138_0; replace hx138_1 := cB HB.out hx138_1; replace hx138_2 := cB HB.out hx138_2; replace hx138_3 := cB HB.out hx138_3; replace hx138_4 := cB HB.out hx138_4; replace hx138_5 := cB HB.out hx138_5; replace hx138_6 := cB HB.out hx138_6; have HR138_2 := HR9000_2; have HC138_2 := HC9000_2; have HR138_3 := HR9000_3; have HC138_3 := HC9000_3; have HR138_4 := HR9000_4; have HC138_4 := HC9000_4; have HR138_5 := HR9000_5; have HC138_5 := HC9000_5; have hx139_0 := HX9000_0.out; have hx139_1 := HX9000_1.out; have hx139_2 := HX9000_2.out; have hx139_3 := HX9000_3.out; have hx139_4 := HX9000_4.out; have hx139_5 := HX9000_5.out; have hx139_6 := HX9000_6.out; replace hx139_0 := cB HB.out hx139_0; replace hx139_1 := cB HB.out hx139_1; replace hx139_2 := cB HB.out hx139_2; replace hx139_3 := cB HB.out hx139_3; replace hx139_4 := cB HB.out hx139_4; replace hx139_5 := cB HB.out hx139_5; replace hx139_6 := cB HB.out hx139_6; have HR139_2 := HR9000_2; have HC139_2 := HC9000_2; have HR139_3 := HR9000_3; have HC139_3 := HC9000_3; have HR139_4 := HR9000_4; have HC139_4 := HC9000_4; have HR139_5 := HR9000_5; have HC139_5 := HC9000_5; have hx159_0 := HX9000_0.out; have hx159_1 := HX9000_1.out; have hx159_2 := HX9000_2.out; have hx159_3 := HX9000_3.out; have hx159_4 := HX9000_4.out; have hx159_5 := HX9000_5.out; have hx159_6 := HX9000_6.out; replace hx159_0 := cB HB.out hx159_0; replace hx159_1 := cB HB.out hx159_1; replace hx159_2 := cB HB.out hx159_2; replace hx159_3 := cB HB.out hx159_3; replace hx159_4 := cB HB.out hx159_4; replace hx159_5 := cB HB.out hx159_5; replace hx159_6 := cB HB.out hx159_6; have HR159_2 := HR9000_2; have HC159_2 := HC9000_2; have HR159_3 := HR9000_3; have HC159_3 := HC9000_3; have HR159_4 := HR9000_4; have HC159_4 := HC9000_4; have HR159_5 := HR9000_5; have HC159_5 := HC9000_5) | (go_at_call 55; (with_reducible refine (spec_l24Items.calls kj2 _ _ ((rd_T27 l0_0 a0_1).f3) 2 2 true _ ?side1 ?side2 A36.out).mono ?_); (case side1 => repeat (first | exact (Kd.C_below HR159_3.out (by repeat (first | (with_reducible first | exact HB.out | apply bA | apply bN | apply bD) | exact HB.out))) | (with_reducible first | refine cA ?_ _ | refine cN ?_ _ | refine cD ?_))); (case side2 => exact HC159_3.out); rintro e w' ⟨rfl, ⟨nd, rfl⟩⟩; have hx161_0 := HX9000_0.out; have hx161_1 := HX9000_1.out; have hx161_2 := HX9000_2.out; have hx161_3 := HX9000_3.out; have hx161_4 := HX9000_4.out; have hx161_5 := HX9000_5.out; have hx161_6 := HX9000_6.out; replace hx161_0 := cB HB.out hx161_0; replace hx161_1 := cB HB.out hx161_1; replace hx161_2 := cB HB.out hx161_2; replace hx161_3 := cB HB.out hx161_3; replace hx161_4 := cB HB.out hx161_4; replace hx161_5 := cB HB.out hx161_5; replace hx161_6 := cB HB.out hx161_6; have HR161_2 := HR9000_2; have HC161_2 := HC9000_2; have HR161_3 := HR9000_3; have HC161_3 := HC9000_3; have HR161_4 := HR9000_4; have HC161_4 := HC9000_4; have HR161_5 := HR9000_5; have HC161_5 := HC9000_5))
             go_ret
             exact ⟨by first | rfl | (simp [errW_none, errW_some] <;> rfl) | (simp [*, errW_none, errW_some] <;> rfl), by repeat (first | (with_reducible first | exact HB.out | apply bA | apply bN | apply bD) | exact HB.out)⟩
            ·rw [if_neg c38] at H
             have c38b0 : ((((rd_T27 l0_0 a0_1).f5).length : Int) == 0) = false := beq_eq_false_iff_ne.mpr c38
             have c38b1 : ((((rd_T27 l0_0 a0_1).f5).length : Int) != 0) = true := bne_iff_ne.mpr c38
             have c38b2 : ¬ (((rd_T27 l0_0 a0_1).f5) = []) := fun h_ => c38 (by rw [h_]; rfl)
             obtain rfl := Option.some.inj H
             have hx136_0 := HX9000_0.out
             have hx136_1 := HX9000_1.out
             have hx136_2 := HX9000_2.out
             have hx136_3 := HX9000_3.out
             have hx136_4 := HX9000_4.out
             have hx136_5 := HX9000_5.out
             have hx136_6 := HX9000_6.out
             replace hx136_0 := cB HB.out hx136_0
             replace hx136_1 := cB HB.out hx136_1
             replace hx136_2 := cB HB.out hx136_2
             replace hx136_3 := cB HB.out hx136_3
             replace hx136_4 := cB HB.out hx136_4
             replace hx136_5 := cB HB.out hx136_5
             replace hx136_6 := cB HB.out hx136_6
             have HR136_2 := HR9000_2
             have HC136_2 := HC9000_2
             have HR136_3 := HR9000_3
             have HC136_3 := HC9000_3
             have HR136_4 := HR9000_4
             have HC136_4 := HC9000_4
             have HR136_5 := HR9000_5
             have HC136_5 := HC9000_5
             go_wp2_with (first | ((with_reducible refine gate_callee (f := 56) rfl ?_); refine goesL_ (some 31) rfl rfl Try.func56 (by kernel_rfl) rfl #[.string ((rd_T27 l0_0 a0_1).f1)] rfl (by (try simp only [List.map_toArray, List.map_cons, List.map_nil]); first | done | rfl | (simp only [List.length_drop, List.length_take]; rfl)) ?_; (with_reducible refine (spec_IsName.calls kj2 ((rd_T27 l0_0 a0_1).f1) true _ A8.out).mono ?_); rintro e w' ⟨rfl, ⟨nd, rfl⟩⟩; refine ⟨_, rfl, ?_⟩; have hx138_0 := HX9000_0.out; have hx138_1 := HX9000_1.out; have hx138_2 := HX9000_2.out; have hx138_3 := HX9000_3.out; have hx138_4 := HX9000_4.out; have hx138_5 := HX9000_5.out; have hx138_6 := HX9000_6.out; replace hx138_0 := cB HB.out hx138_0; replace hx138_1 := cB HB.out hx138_1; replace hx138_2 := cB HB.out hx138_2; replace hx138_3 := cB HB.out hx138_3; replace hx138_4 := cB HB.out hx138_4; replace hx138_5 := cB HB.out hx138_5; replace hx138_6 := cB HB.out hx138_6; have HR138_2 := HR9000_2; have HC138_2 := HC9000_2; have HR138_3 := HR9000_3; have HC138_3 := HC9000_3; have HR138_4 := HR9000_4; have HC138_4 := HC9000_4; have HR138_5 := HR9000_5; have HC138_5 := HC9000_5; have hx139_0 := HX9000_0.out; have hx139_1 := HX9000_1.out; have hx139_2 := HX9000_2.out; have hx139_3 := HX9000_3.out; have hx139_4 := HX9000_4.out; have hx139_5 := HX9000_5.out; have hx139_6 := HX9000_6.out; replace hx139_0 := cB HB.out hx139_0; replace hx139_1 := cB HB.out hx139_1; replace hx139_2 := cB HB.out hx139_2; replace hx139_3 := cB HB.out hx139_3; replace hx139_4 := cB HB.out hx139_4; replace hx139_5 := cB HB.out hx139_5; replace hx139_6 := cB HB.out hx139_6; have HR139_2 := HR9000_2; have HC139_2 := HC9000_2; have HR139_3 := HR9000_3; have HC139_3 := HC9000_3; have HR139_4 := HR9000_4; have HC139_4 := HC9000_4; have HR139_5 := HR9000_5; have HC139_5 := HC9000_5; have hx159_0 := HX9000_0.out; have hx159_1 := HX9000_1.out; have hx159_2 := HX9000_2.out; have hx159_3 := HX9000_3.out; have hx159_4 := HX9000_4.out; have hx159_5 := HX9000_5.out; have hx159_6 := HX9000_6.out; replace hx159_0 := cB HB.out hx159_0; replace hx159_1 := cB HB.out hx159_1; replace hx159_2 := cB HB.out hx159_2; replace hx159_3 := cB HB.out hx159_3; replace hx159_4 := cB HB.out hx159_4; replace hx159_5 := cB HB.out hx159_5; replace hx159_6 := cB HB.out hx159_6; have HR159_2 := HR9000_2; have HC159_2 := HC9000_2; have HR159_3 := HR9000_3; have HC159_3 := HC9000_3; have HR159_4 := HR9000_4; have HC159_4 := HC9000_4; have HR159_5 := HR9000_5; have HC159_5 := HC9000_5) | (go_at_call 55; (with_reducible refine (spec_l24Items.calls kj2 _ _ ((rd_T27 l0_0 a0_1).f3) 2 2 true _ ?side1 ?side2 A36.out).mono ?_); (case side1 => repeat (first | exact (Kd.C_below HR159_3.out (by repeat (first | (with_reducible first | exact HB.out | apply bA | apply bN | apply bD) | exact HB.out))) | (with_reducible first | refine cA ?_ _ | refine cN ?_ _ | refine cD ?_))); (case side2 => exact HC159_3.out); rintro e w' ⟨rfl, ⟨nd, rfl⟩⟩))
             go_ret
             exact ⟨by first | rfl | (simp [errW_none, errW_some] <;> rfl) | (simp [*, errW_none, errW_some] <;> rfl), by repeat (first | (with_reducible first | exact HB.out | apply bA | apply bN | apply bD) | exact HB.out)⟩
           ·replace c37 := Bool.eq_false_iff.mpr c37
            subst c37
            have H1 : (some false) = some r := by rw [if_neg (show ¬ (false = true) by decide)] at H; exact H
            clear H
            have H := H1
            clear H1
            obtain rfl := Option.some.inj H
            have hx136_0 := HX9000_0.out
            have hx136_1 := HX9000_1.out
            have hx136_2 := HX9000_2.out
            have hx136_3 := HX9000_3.out
            have hx136_4 := HX9000_4.out
            have hx136_5 := HX9000_5.out
            have hx136_6 := HX9000_6.out
            replace hx136_0 := cB HB.out hx136_0
            replace hx136_1 := cB HB.out hx136_1
            replace hx136_2 := cB HB.out hx136_2
            replace hx136_3 := cB HB.out hx136_3
            replace hx136_4 := cB HB.out hx136_4
            replace hx136_5 := cB HB.out hx136_5
            replace hx136_6 := cB HB.out hx136_6
            have HR136_2 := HR9000_2
            have HC136_2 := HC9000_2
            have HR136_3 := HR9000_3
            have HC136_3 := HC9000_3
            have HR136_4 := HR9000_4
            have HC136_4 := HC9000_4
            have HR136_5 := HR9000_5
            have HC136_5 := HC9000_5
            go_wp2_with (first | ((with_reducible refine gate_callee (f := 56) rfl ?_); refine goesL_ (some 31) rfl rfl Try.func56 (by kernel_rfl) rfl #[.string ((rd_T27 l0_0 a0_1).f1)] rfl (by (try simp only [List.map_toArray, List.map_cons, List.map_nil]); first | done | rfl | (simp only [List.length_drop, List.length_take]; rfl)) ?_; (with_reducible refine (spec_IsName.calls kj2 ((rd_T27 l0_0 a0_1).f1) true _ A8.out).mono ?_); rintro e w' ⟨rfl, ⟨nd, rfl⟩⟩; refine ⟨_, rfl, ?_⟩; have hx138_0 := HX9000_0.out; have hx138_1 := HX9000_1.out; have hx138_2 := HX9000_2.out; have hx138_3 := HX9000_3.out; have hx138_4 := HX9000_4.out; have hx138_5 := HX9000_5.out; have hx138_6 := HX9000_6.out; replace hx138_0 := cB HB.out hx138_0; replace hx138_1 := cB HB.out hx138_1; replace hx138_2 := cB HB.out hx138_2; replace hx138_3 := cB HB.out hx138_3; replace hx138_4 := cB HB.out hx138_4; replace hx138_5 := cB HB.out hx138_5; replace hx138_6 := cB HB.out hx138_6; have HR138_2 := HR9000_2; have HC138_2 := HC9000_2; have HR138_3 := HR9000_3; have HC138_3 := HC9000_3; have HR138_4 := HR9000_4; have HC138_4 := HC9000_4; have HR138_5 := HR9000_5; have HC138_5 := HC9000_5; have hx139_0 := HX9000_0.out; have hx139_1 := HX9000_1.out; have hx139_2 := HX9000_2.out; have hx139_3 := HX9000_3.out; have hx139_4 := HX9000_4.out; have hx139_5 := HX9000_5.out; have hx139_6 := HX9000_6.out; replace hx139_0 := cB HB.out hx139_0; replace hx139_1 := cB HB.out hx139_1; replace hx139_2 := cB HB.out hx139_2; replace hx139_3 := cB HB.out hx139_3; replace hx139_4 := cB HB.out hx139_4; replace hx139_5 := cB HB.out hx139_5; replace hx139_6 := cB HB.out hx139_6; have HR139_2 := HR9000_2; have HC139_2 := HC9000_2; have HR139_3 := HR9000_3; have HC139_3 := HC9000_3; have HR139_4 := HR9000_4; have HC139_4 := HC9000_4; have HR139_5 := HR9000_5; have HC139_5 := HC9000_5; have hx159_0 := HX9000_0.out; have hx159_1 := HX9000_1.out; have hx159_2 := HX9000_2.out; have hx159_3 := HX9000_3.out; have hx159_4 := HX9000_4.out; have hx159_5 := HX9000_5.out; have hx159_6 := HX9000_6.out; replace hx159_0 := cB HB.out hx159_0; replace hx159_1 := cB HB.out hx159_1; replace hx159_2 := cB HB.out hx159_2; replace hx159_3 := cB HB.out hx159_3; replace hx159_4 := cB HB.out hx159_4; replace hx159_5 := cB HB.out hx159_5; replace hx159_6 := cB HB.out hx159_6; have HR159_2 := HR9000_2; have HC159_2 := HC9000_2; have HR159_3 := HR9000_3; have HC159_3 := HC9000_3; have HR159_4 := HR9000_4; have HC159_4 := HC9000_4; have HR159_5 := HR9000_5; have HC159_5 := HC9000_5) | (go_at_call 55; (with_reducible refine (spec_l24Items.calls kj2 _ _ ((rd_T27 l0_0 a0_1).f3) 2 2 false _ ?side1 ?side2 A36.out).mono ?_); (case side1 => repeat (first | exact (Kd.C_below HR159_3.out (by repeat (first | (with_reducible first | exact HB.out | apply bA | apply bN | apply bD) | exact HB.out))) | (with_reducible first | refine cA ?_ _ | refine cN ?_ _ | refine cD ?_))); (case side2 => exact HC159_3.out); rintro e w' ⟨rfl, ⟨nd, rfl⟩⟩))
            go_ret
            exact ⟨by first | rfl | (simp [errW_none, errW_some] <;> rfl) | (simp [*, errW_none, errW_some] <;> rfl), by repeat (first | (with_reducible first | exact HB.out | apply bA | apply bN | apply bD) | exact HB.out)⟩
          ·replace c35 := Bool.eq_false_iff.mpr c35
           subst c35
           have H1 : (some false) = some r := by rw [if_neg (show ¬ (false = true) by decide)] at H; exact H
           clear H
           have H := H1
           clear H1
           obtain rfl := Option.some.inj H
           have hx136_0 := HX9000_0.out
           have hx136_1 := HX9000_1.out
           have hx136_2 := HX9000_2.out
           have hx136_3 := HX9000_3.out
           have hx136_4 := HX9000_4.out
           have hx136_5 := HX9000_5.out
           have hx136_6 := HX9000_6.out
           replace hx136_0 := cB HB.out hx136_0
           replace hx136_1 := cB HB.out hx136_1
           replace hx136_2 := cB HB.out hx136_2
           replace hx136_3 := cB HB.out hx136_3
           replace hx136_4 := cB HB.out hx136_4
           replace hx136_5 := cB HB.out hx136_5
           replace hx136_6 := cB HB.out hx136_6
           have HR136_2 := HR9000_2
           have HC136_2 := HC9000_2
           have HR136_3 := HR9000_3
           have HC136_3 := HC9000_3
           have HR136_4 := HR9000_4
           have HC136_4 := HC9000_4
           have HR136_5 := HR9000_5
           have HC136_5 := HC9000_5
           go_wp2_with (first | ((with_reducible refine gate_callee (f := 56) rfl ?_); refine goesL_ (some 31) rfl rfl Try.func56 (by kernel_rfl) rfl #[.string ((rd_T27 l0_0 a0_1).f1)] rfl (by (try simp only [List.map_toArray, List.map_cons, List.map_nil]); first | done | rfl | (simp only [List.length_drop, List.length_take]; rfl)) ?_; (with_reducible refine (spec_IsName.calls kj2 ((rd_T27 l0_0 a0_1).f1) false _ A8.out).mono ?_); rintro e w' ⟨rfl, ⟨nd, rfl⟩⟩; refine ⟨_, rfl, ?_⟩; have hx138_0 := HX9000_0.out; have hx138_1 := HX9000_1.out; have hx138_2 := HX9000_2.out; have hx138_3 := HX9000_3.out; have hx138_4 := HX9000_4.out; have hx138_5 := HX9000_5.out; have hx138_6 := HX9000_6.out; replace hx138_0 := cB HB.out hx138_0; replace hx138_1 := cB HB.out hx138_1; replace hx138_2 := cB HB.out hx138_2; replace hx138_3 := cB HB.out hx138_3; replace hx138_4 := cB HB.out hx138_4; replace hx138_5 := cB HB.out hx138_5; replace hx138_6 := cB HB.out hx138_6; have HR138_2 := HR9000_2; have HC138_2 := HC9000_2; have HR138_3 := HR9000_3; have HC138_3 := HC9000_3; have HR138_4 := HR9000_4; have HC138_4 := HC9000_4; have HR138_5 := HR9000_5; have HC138_5 := HC9000_5; have hx139_0 := HX9000_0.out; have hx139_1 := HX9000_1.out; have hx139_2 := HX9000_2.out; have hx139_3 := HX9000_3.out; have hx139_4 := HX9000_4.out; have hx139_5 := HX9000_5.out; have hx139_6 := HX9000_6.out; replace hx139_0 := cB HB.out hx139_0; replace hx139_1 := cB HB.out hx139_1; replace hx139_2 := cB HB.out hx139_2; replace hx139_3 := cB HB.out hx139_3; replace hx139_4 := cB HB.out hx139_4; replace hx139_5 := cB HB.out hx139_5; replace hx139_6 := cB HB.out hx139_6; have HR139_2 := HR9000_2; have HC139_2 := HC9000_2; have HR139_3 := HR9000_3; have HC139_3 := HC9000_3; have HR139_4 := HR9000_4; have HC139_4 := HC9000_4; have HR139_5 := HR9000_5; have HC139_5 := HC9000_5))
           go_ret
           exact ⟨by first | rfl | (simp [errW_none, errW_some] <;> rfl) | (simp [*, errW_none, errW_some] <;> rfl), by repeat (first | (with_reducible first | exact HB.out | apply bA | apply bN | apply bD) | exact HB.out)⟩
         ·rw [if_neg c34] at H
          have c34b0 : (((rd_T27 l0_0 a0_1).f0) == 6) = false := beq_eq_false_iff_ne.mpr c34
          have c34b1 : (((rd_T27 l0_0 a0_1).f0) != 6) = true := bne_iff_ne.mpr c34
          by_cases c39 : ((rd_T27 l0_0 a0_1).f0) = 7
          ·rw [if_pos c39] at H
           have c39b0 : (((rd_T27 l0_0 a0_1).f0) == 7) = true := beq_iff_eq.mpr c39
           have c39b1 : (((rd_T27 l0_0 a0_1).f0) != 7) = false := bne_eq_false_iff_eq.mpr c39
           clear c39
           by_cases c40 : t137 = true
           ·subst c40
            have H1 : (if (((rd_T27 l0_0 a0_1).f3).length : Int) = 0 then ((spec_l24Forms.f kj2 ((rd_T27 l0_0 a0_1).f5)).bind fun t164 => (if t164 = true then ((spec_l00In.f ((rd_T27 l0_0 a0_1).f6) 1 3).bind fun t166 => (some t166)) else (some false))) else (some false)) = some r := by rw [if_pos rfl] at H; exact H
            clear H
            have H := H1
            clear H1
            by_cases c41 : (((rd_T27 l0_0 a0_1).f3).length : Int) = 0
            ·rw [if_pos c41] at H
             have c41b0 : ((((rd_T27 l0_0 a0_1).f3).length : Int) == 0) = true := beq_iff_eq.mpr c41
             have c41b1 : ((((rd_T27 l0_0 a0_1).f3).length : Int) != 0) = false := bne_eq_false_iff_eq.mpr c41
             clear c41
             replace H := Option.bind_eq_some_iff.mp H
             obtain ⟨t164, A420, H⟩ := H
             replace H : (if t164 = true then ((spec_l00In.f ((rd_T27 l0_0 a0_1).f6) 1 3).bind fun t166 => (some t166)) else (some false)) = some r := H
             have A42 := aM A420
             clear A420
             by_cases c43 : t164 = true
             ·subst c43
              have H1 : ((spec_l00In.f ((rd_T27 l0_0 a0_1).f6) 1 3).bind fun t166 => (some t166)) = some r := by rw [if_pos rfl] at H; exact H
              clear H
              have H := H1
              clear H1
              replace H := Option.bind_eq_some_iff.mp H
              obtain ⟨t166, A440, H⟩ := H
              replace H : (some t166) = some r := H
              have A44 := aM A440
              clear A440
              obtain rfl := Option.some.inj H
              have hx136_0 := HX9000_0.out
              have hx136_1 := HX9000_1.out
              have hx136_2 := HX9000_2.out
              have hx136_3 := HX9000_3.out
              have hx136_4 := HX9000_4.out
              have hx136_5 := HX9000_5.out
              have hx136_6 := HX9000_6.out
              replace hx136_0 := cB HB.out hx136_0
              replace hx136_1 := cB HB.out hx136_1
              replace hx136_2 := cB HB.out hx136_2
              replace hx136_3 := cB HB.out hx136_3
              replace hx136_4 := cB HB.out hx136_4
              replace hx136_5 := cB HB.out hx136_5
              replace hx136_6 := cB HB.out hx136_6
              have HR136_2 := HR9000_2
              have HC136_2 := HC9000_2
              have HR136_3 := HR9000_3
              have HC136_3 := HC9000_3
              have HR136_4 := HR9000_4
              have HC136_4 := HC9000_4
              have HR136_5 := HR9000_5
              have HC136_5 := HC9000_5
              go_wp2_with (first | ((with_reducible refine gate_callee (f := 56) rfl ?_); refine goesL_ (some 31) rfl rfl Try.func56 (by kernel_rfl) rfl #[.string ((rd_T27 l0_0 a0_1).f1)] rfl (by (try simp only [List.map_toArray, List.map_cons, List.map_nil]); first | done | rfl | (simp only [List.length_drop, List.length_take]; rfl)) ?_; (with_reducible refine (spec_IsName.calls kj2 ((rd_T27 l0_0 a0_1).f1) true _ A8.out).mono ?_); rintro e w' ⟨rfl, ⟨nd, rfl⟩⟩; refine ⟨_, rfl, ?_⟩; have hx138_0 := HX9000_0.out; have hx138_1 := HX9000_1.out; have hx138_2 := HX9000_2.out; have hx138_3 := HX9000_3.out; have hx138_4 := HX9000_4.out; have hx138_5 := HX9000_5.out; have hx138_6 := HX9000_6.out; replace hx138_0 := cB HB.out hx138_0; replace hx138_1 := cB HB.out hx138_1; replace hx138_2 := cB HB.out hx138_2; replace hx138_3 := cB HB.out hx138_3; replace hx138_4 := cB HB.out hx138_4; replace hx138_5 := cB HB.out hx138_5; replace hx138_6 := cB HB.out hx138_6; have HR138_2 := HR9000_2; have HC138_2 := HC9000_2; have HR138_3 := HR9000_3; have HC138_3 := HC9000_3; have HR138_4 := HR9000_4; have HC138_4 := HC9000_4; have HR138_5 := HR9000_5; have HC138_5 := HC9000_5; have hx139_0 := HX9000_0.out; have hx139_1 := HX9000_1.out; have hx139_2 := HX9000_2.out; have hx139_3 := HX9000_3.out; have hx139_4 := HX9000_4.out; have hx139_5 := HX9000_5.out; have hx139_6 := HX9000_6.out; replace hx139_0 := cB HB.out hx139_0; replace hx139_1 := cB HB.out hx139_1; replace hx139_2 := cB HB.out hx139_2; replace hx139_3 := cB HB.out hx139_3; replace hx139_4 := cB HB.out hx139_4; replace hx139_5 := cB HB.out hx139_5; replace hx139_6 := cB HB.out hx139_6; have HR139_2 := HR9000_2; have HC139_2 := HC9000_2; have HR139_3 := HR9000_3; have HC139_3 := HC9000_3; have HR139_4 := HR9000_4; have HC139_4 := HC9000_4; have HR139_5 := HR9000_5; have HC139_5 := HC9000_5; have hx162_0 := HX9000_0.out; have hx162_1 := HX9000_1.out; have hx162_2 := HX9000_2.out; have hx162_3 := HX9000_3.out; have hx162_4 := HX9000_4.out; have hx162_5 := HX9000_5.out; have hx162_6 := HX9000_6.out; replace hx162_0 := cB HB.out hx162_0; replace hx162_1 := cB HB.out hx162_1; replace hx162_2 := cB HB.out hx162_2; replace hx162_3 := cB HB.out hx162_3; replace hx162_4 := cB HB.out hx162_4; replace hx162_5 := cB HB.out hx162_5; replace hx162_6 := cB HB.out hx162_6; have HR162_2 := HR9000_2; have HC162_2 := HC9000_2; have HR162_3 := HR9000_3; have HC162_3 := HC9000_3; have HR162_4 := HR9000_4; have HC162_4 := HC9000_4; have HR162_5 := HR9000_5; have HC162_5 := HC9000_5; have hx163_0 := HX9000_0.out; have hx163_1 := HX9000_1.out; have hx163_2 := HX9000_2.out; have hx163_3 := HX9000_3.out; have hx163_4 := HX9000_4.out; have hx163_5 := HX9000_5.out; have hx163_6 := HX9000_6.out; replace hx163_0 := cB HB.out hx163_0; replace hx163_1 := cB HB.out hx163_1; replace hx163_2 := cB HB.out hx163_2; replace hx163_3 := cB HB.out hx163_3; replace hx163_4 := cB HB.out hx163_4; replace hx163_5 := cB HB.out hx163_5; replace hx163_6 := cB HB.out hx163_6; have HR163_2 := HR9000_2; have HC163_2 := HC9000_2; have HR163_3 := HR9000_3; have HC163_3 := HC9000_3; have HR163_4 := HR9000_4; have HC163_4 := HC9000_4; have HR163_5 := HR9000_5; have HC163_5 := HC9000_5) | (go_at_call 58; (with_reducible refine (spec_l24Forms.calls kj2 _ _ ((rd_T27 l0_0 a0_1).f5) true _ ?side1 ?side2 A42.out).mono ?_); (case side1 => repeat (first | exact (Kd.C_below HR163_5.out (by repeat (first | (with_reducible first | exact HB.out | apply bA | apply bN | apply bD) | exact HB.out))) | (with_reducible first | refine cA ?_ _ | refine cN ?_ _ | refine cD ?_))); (case side2 => exact HC163_5.out); rintro e w' ⟨rfl, ⟨nd, rfl⟩⟩; have hx165_0 := HX9000_0.out; have hx165_1 := HX9000_1.out; have hx165_2 := HX9000_2.out; have hx165_3 := HX9000_3.out; have hx165_4 := HX9000_4.out; have hx165_5 := HX9000_5.out; have hx165_6 := HX9000_6.out; replace hx165_0 := cB HB.out hx165_0; replace hx165_1 := cB HB.out hx165_1; replace hx165_2 := cB HB.out hx165_2; replace hx165_3 := cB HB.out hx165_3; replace hx165_4 := cB HB.out hx165_4; replace hx165_5 := cB HB.out hx165_5; replace hx165_6 := cB HB.out hx165_6; have HR165_2 := HR9000_2; have HC165_2 := HC9000_2; have HR165_3 := HR9000_3; have HC165_3 := HC9000_3; have HR165_4 := HR9000_4; have HC165_4 := HC9000_4; have HR165_5 := HR9000_5; have HC165_5 := HC9000_5) | (go_at_call 57; (with_reducible refine (spec_l00In.calls ((rd_T27 l0_0 a0_1).f6) 1 3 t166 _ A44.out).mono ?_); rintro e w' ⟨rfl, ⟨nd, rfl⟩⟩))
              go_ret
              exact ⟨by first | rfl | (simp [errW_none, errW_some] <;> rfl) | (simp [*, errW_none, errW_some] <;> rfl), by repeat (first | (with_reducible first | exact HB.out | apply bA | apply bN | apply bD) | exact HB.out)⟩
             ·replace c43 := Bool.eq_false_iff.mpr c43
              subst c43
              have H1 : (some false) = some r := by rw [if_neg (show ¬ (false = true) by decide)] at H; exact H
              clear H
              have H := H1
              clear H1
              obtain rfl := Option.some.inj H
              have hx136_0 := HX9000_0.out
              have hx136_1 := HX9000_1.out
              have hx136_2 := HX9000_2.out
              have hx136_3 := HX9000_3.out
              have hx136_4 := HX9000_4.out
              have hx136_5 := HX9000_5.out
              have hx136_6 := HX9000_6.out
              replace hx136_0 := cB HB.out hx136_0
              replace hx136_1 := cB HB.out hx136_1
              replace hx136_2 := cB HB.out hx136_2
              replace hx136_3 := cB HB.out hx136_3
              replace hx136_4 := cB HB.out hx136_4
              replace hx136_5 := cB HB.out hx136_5
              replace hx136_6 := cB HB.out hx136_6
              have HR136_2 := HR9000_2
              have HC136_2 := HC9000_2
              have HR136_3 := HR9000_3
              have HC136_3 := HC9000_3
              have HR136_4 := HR9000_4
              have HC136_4 := HC9000_4
              have HR136_5 := HR9000_5
              have HC136_5 := HC9000_5
              go_wp2_with (first | ((with_reducible refine gate_callee (f := 56) rfl ?_); refine goesL_ (some 31) rfl rfl Try.func56 (by kernel_rfl) rfl #[.string ((rd_T27 l0_0 a0_1).f1)] rfl (by (try simp only [List.map_toArray, List.map_cons, List.map_nil]); first | done | rfl | (simp only [List.length_drop, List.length_take]; rfl)) ?_; (with_reducible refine (spec_IsName.calls kj2 ((rd_T27 l0_0 a0_1).f1) true _ A8.out).mono ?_); rintro e w' ⟨rfl, ⟨nd, rfl⟩⟩; refine ⟨_, rfl, ?_⟩; have hx138_0 := HX9000_0.out; have hx138_1 := HX9000_1.out; have hx138_2 := HX9000_2.out; have hx138_3 := HX9000_3.out; have hx138_4 := HX9000_4.out; have hx138_5 := HX9000_5.out; have hx138_6 := HX9000_6.out; replace hx138_0 := cB HB.out hx138_0; replace hx138_1 := cB HB.out hx138_1; replace hx138_2 := cB HB.out hx138_2; replace hx138_3 := cB HB.out hx138_3; replace hx138_4 := cB HB.out hx138_4; replace hx138_5 := cB HB.out hx138_5; replace hx138_6 := cB HB.out hx138_6; have HR138_2 := HR9000_2; have HC138_2 := HC9000_2; have HR138_3 := HR9000_3; have HC138_3 := HC9000_3; have HR138_4 := HR9000_4; have HC138_4 := HC9000_4; have HR138_5 := HR9000_5; have HC138_5 := HC9000_5; have hx139_0 := HX9000_0.out; have hx139_1 := HX9000_1.out; have hx139_2 := HX9000_2.out; have hx139_3 := HX9000_3.out; have hx139_4 := HX9000_4.out; have hx139_5 := HX9000_5.out; have hx139_6 := HX9000_6.out; replace hx139_0 := cB HB.out hx139_0; replace hx139_1 := cB HB.out hx139_1; replace hx139_2 := cB HB.out hx139_2; replace hx139_3 := cB HB.out hx139_3; replace hx139_4 := cB HB.out hx139_4; replace hx139_5 := cB HB.out hx139_5; replace hx139_6 := cB HB.out hx139_6; have HR139_2 := HR9000_2; have HC139_2 := HC9000_2; have HR139_3 := HR9000_3; have HC139_3 := HC9000_3; have HR139_4 := HR9000_4; have HC139_4 := HC9000_4; have HR139_5 := HR9000_5; have HC139_5 := HC9000_5; have hx162_0 := HX9000_0.out; have hx162_1 := HX9000_1.out; have hx162_2 := HX9000_2.out; have hx162_3 := HX9000_3.out; have hx162_4 := HX9000_4.out; have hx162_5 := HX9000_5.out; have hx162_6 := HX9000_6.out; replace hx162_0 := cB HB.out hx162_0; replace hx162_1 := cB HB.out hx162_1; replace hx162_2 := cB HB.out hx162_2; replace hx162_3 := cB HB.out hx162_3; replace hx162_4 := cB HB.out hx162_4; replace hx162_5 := cB HB.out hx162_5; replace hx162_6 := cB HB.out hx162_6; have HR162_2 := HR9000_2; have HC162_2 := HC9000_2; have HR162_3 := HR9000_3; have HC162_3 := HC9000_3; have HR162_4 := HR9000_4; have HC162_4 := HC9000_4; have HR162_5 := HR9000_5; have HC162_5 := HC9000_5; have hx163_0 := HX9000_0.out; have hx163_1 := HX9000_1.out; have hx163_2 := HX9000_2.out; have hx163_3 := HX9000_3.out; have hx163_4 := HX9000_4.out; have hx163_5 := HX9000_5.out; have hx163_6 := HX9000_6.out; replace hx163_0 := cB HB.out hx163_0; replace hx163_1 := cB HB.out hx163_1; replace hx163_2 := cB HB.out hx163_2; replace hx163_3 := cB HB.out hx163_3; replace hx163_4 := cB HB.out hx163_4; replace hx163_5 := cB HB.out hx163_5; replace hx163_6 := cB HB.out hx163_6; have HR163_2 := HR9000_2; have HC163_2 := HC9000_2; have HR163_3 := HR9000_3; have HC163_3 := HC9000_3; have HR163_4 := HR9000_4; have HC163_4 := HC9000_4; have HR163_5 := HR9000_5; have HC163_5 := HC9000_5) | (go_at_call 58; (with_reducible refine (spec_l24Forms.calls kj2 _ _ ((rd_T27 l0_0 a0_1).f5) false _ ?side1 ?side2 A42.out).mono ?_); (case side1 => repeat (first | exact (Kd.C_below HR163_5.out (by repeat (first | (with_reducible first | exact HB.out | apply bA | apply bN | apply bD) | exact HB.out))) | (with_reducible first | refine cA ?_ _ | refine cN ?_ _ | refine cD ?_))); (case side2 => exact HC163_5.out); rintro e w' ⟨rfl, ⟨nd, rfl⟩⟩))
              go_ret
              exact ⟨by first | rfl | (simp [errW_none, errW_some] <;> rfl) | (simp [*, errW_none, errW_some] <;> rfl), by repeat (first | (with_reducible first | exact HB.out | apply bA | apply bN | apply bD) | exact HB.out)⟩
            ·rw [if_neg c41] at H
             have c41b0 : ((((rd_T27 l0_0 a0_1).f3).length : Int) == 0) = false := beq_eq_false_iff_ne.mpr c41
             have c41b1 : ((((rd_T27 l0_0 a0_1).f3).length : Int) != 0) = true := bne_iff_ne.mpr c41
             have c41b2 : ¬ (((rd_T27 l0_0 a0_1).f3) = []) := fun h_ => c41 (by rw [h_]; rfl)
             obtain rfl := Option.some.inj H
             have hx136_0 := HX9000_0.out
             have hx136_1 := HX9000_1.out
             have hx136_2 := HX9000_2.out
             have hx136_3 := HX9000_3.out
             have hx136_4 := HX9000_4.out
             have hx136_5 := HX9000_5.out
             have hx136_6 := HX9000_6.out
             replace hx136_0 := cB HB.out hx136_0
             replace hx136_1 := cB HB.out hx136_1
             replace hx136_2 := cB HB.out hx136_2
             replace hx136_3 := cB HB.out hx136_3
             replace hx136_4 := cB HB.out hx136_4
             replace hx136_5 := cB HB.out hx136_5
             replace hx136_6 := cB HB.out hx136_6
             have HR136_2 := HR9000_2
             have HC136_2 := HC9000_2
             have HR136_3 := HR9000_3
             have HC136_3 := HC9000_3
             have HR136_4 := HR9000_4
             have HC136_4 := HC9000_4
             have HR136_5 := HR9000_5
             have HC136_5 := HC9000_5
             go_wp2_with (first | ((with_reducible refine gate_callee (f := 56) rfl ?_); refine goesL_ (some 31) rfl rfl Try.func56 (by kernel_rfl) rfl #[.string ((rd_T27 l0_0 a0_1).f1)] rfl (by (try simp only [List.map_toArray, List.map_cons, List.map_nil]); first | done | rfl | (simp only [List.length_drop, List.length_take]; rfl)) ?_; (with_reducible refine (spec_IsName.calls kj2 ((rd_T27 l0_0 a0_1).f1) true _ A8.out).mono ?_); rintro e w' ⟨rfl, ⟨nd, rfl⟩⟩; refine ⟨_, rfl, ?_⟩; have hx138_0 := HX9000_0.out; have hx138_1 := HX9000_1.out; have hx138_2 := HX9000_2.out; have hx138_3 := HX9000_3.out; have hx138_4 := HX9000_4.out; have hx138_5 := HX9000_5.out; have hx138_6 := HX9000_6.out; replace hx138_0 := cB HB.out hx138_0; replace hx138_1 := cB HB.out hx138_1; replace hx138_2 := cB HB.out hx138_2; replace hx138_3 := cB HB.out hx138_3; replace hx138_4 := cB HB.out hx138_4; replace hx138_5 := cB HB.out hx138_5; replace hx138_6 := cB HB.out hx138_6; have HR138_2 := HR9000_2; have HC138_2 := HC9000_2; have HR138_3 := HR9000_3; have HC138_3 := HC9000_3; have HR138_4 := HR9000_4; have HC138_4 := HC9000_4; have HR138_5 := HR9000_5; have HC138_5 := HC9000_5; have hx139_0 := HX9000_0.out; have hx139_1 := HX9000_1.out; have hx139_2 := HX9000_2.out; have hx139_3 := HX9000_3.out; have hx139_4 := HX9000_4.out; have hx139_5 := HX9000_5.out; have hx139_6 := HX9000_6.out; replace hx139_0 := cB HB.out hx139_0; replace hx139_1 := cB HB.out hx139_1; replace hx139_2 := cB HB.out hx139_2; replace hx139_3 := cB HB.out hx139_3; replace hx139_4 := cB HB.out hx139_4; replace hx139_5 := cB HB.out hx139_5; replace hx139_6 := cB HB.out hx139_6; have HR139_2 := HR9000_2; have HC139_2 := HC9000_2; have HR139_3 := HR9000_3; have HC139_3 := HC9000_3; have HR139_4 := HR9000_4; have HC139_4 := HC9000_4; have HR139_5 := HR9000_5; have HC139_5 := HC9000_5; have hx162_0 := HX9000_0.out; have hx162_1 := HX9000_1.out; have hx162_2 := HX9000_2.out; have hx162_3 := HX9000_3.out; have hx162_4 := HX9000_4.out; have hx162_5 := HX9000_5.out; have hx162_6 := HX9000_6.out; replace hx162_0 := cB HB.out hx162_0; replace hx162_1 := cB HB.out hx162_1; replace hx162_2 := cB HB.out hx162_2; replace hx162_3 := cB HB.out hx162_3; replace hx162_4 := cB HB.out hx162_4; replace hx162_5 := cB HB.out hx162_5; replace hx162_6 := cB HB.out hx162_6; have HR162_2 := HR9000_2; have HC162_2 := HC9000_2; have HR162_3 := HR9000_3; have HC162_3 := HC9000_3; have HR162_4 := HR9000_4; have HC162_4 := HC9000_4; have HR162_5 := HR9000_5; have HC162_5 := HC9000_5))
             go_ret
             exact ⟨by first | rfl | (simp [errW_none, errW_some] <;> rfl) | (simp [*, errW_none, errW_some] <;> rfl), by repeat (first | (with_reducible first | exact HB.out | apply bA | apply bN | apply bD) | exact HB.out)⟩
           ·replace c40 := Bool.eq_false_iff.mpr c40
            subst c40
            have H1 : (some false) = some r := by rw [if_neg (show ¬ (false = true) by decide)] at H; exact H
            clear H
            have H := H1
            clear H1
            obtain rfl := Option.some.inj H
            have hx136_0 := HX9000_0.out
            have hx136_1 := HX9000_1.out
            have hx136_2 := HX9000_2.out
            have hx136_3 := HX9000_3.out
            have hx136_4 := HX9000_4.out
            have hx136_5 := HX9000_5.out
            have hx136_6 := HX9000_6.out
            replace hx136_0 := cB HB.out hx136_0
            replace hx136_1 := cB HB.out hx136_1
            replace hx136_2 := cB HB.out hx136_2
            replace hx136_3 := cB HB.out hx136_3
            replace hx136_4 := cB HB.out hx136_4
            replace hx136_5 := cB HB.out hx136_5
            replace hx136_6 := cB HB.out hx136_6
            have HR136_2 := HR9000_2
            have HC136_2 := HC9000_2
            have HR136_3 := HR9000_3
            have HC136_3 := HC9000_3
            have HR136_4 := HR9000_4
            have HC136_4 := HC9000_4
            have HR136_5 := HR9000_5
            have HC136_5 := HC9000_5
            go_wp2_with (first | ((with_reducible refine gate_callee (f := 56) rfl ?_); refine goesL_ (some 31) rfl rfl Try.func56 (by kernel_rfl) rfl #[.string ((rd_T27 l0_0 a0_1).f1)] rfl (by (try simp only [List.map_toArray, List.map_cons, List.map_nil]); first | done | rfl | (simp only [List.length_drop, List.length_take]; rfl)) ?_; (with_reducible refine (spec_IsName.calls kj2 ((rd_T27 l0_0 a0_1).f1) false _ A8.out).mono ?_); rintro e w' ⟨rfl, ⟨nd, rfl⟩⟩; refine ⟨_, rfl, ?_⟩; have hx138_0 := HX9000_0.out; have hx138_1 := HX9000_1.out; have hx138_2 := HX9000_2.out; have hx138_3 := HX9000_3.out; have hx138_4 := HX9000_4.out; have hx138_5 := HX9000_5.out; have hx138_6 := HX9000_6.out; replace hx138_0 := cB HB.out hx138_0; replace hx138_1 := cB HB.out hx138_1; replace hx138_2 := cB HB.out hx138_2; replace hx138_3 := cB HB.out hx138_3; replace hx138_4 := cB HB.out hx138_4; replace hx138_5 := cB HB.out hx138_5; replace hx138_6 := cB HB.out hx138_6; have HR138_2 := HR9000_2; have HC138_2 := HC9000_2; have HR138_3 := HR9000_3; have HC138_3 := HC9000_3; have HR138_4 := HR9000_4; have HC138_4 := HC9000_4; have HR138_5 := HR9000_5; have HC138_5 := HC9000_5; have hx139_0 := HX9000_0.out; have hx139_1 := HX9000_1.out; have hx139_2 := HX9000_2.out; have hx139_3 := HX9000_3.out; have hx139_4 := HX9000_4.out; have hx139_5 := HX9000_5.out; have hx139_6 := HX9000_6.out; replace hx139_0 := cB HB.out hx139_0; replace hx139_1 := cB HB.out hx139_1; replace hx139_2 := cB HB.out hx139_2; replace hx139_3 := cB HB.out hx139_3; replace hx139_4 := cB HB.out hx139_4; replace hx139_5 := cB HB.out hx139_5; replace hx139_6 := cB HB.out hx139_6; have HR139_2 := HR9000_2; have HC139_2 := HC9000_2; have HR139_3 := HR9000_3; have HC139_3 := HC9000_3; have HR139_4 := HR9000_4; have HC139_4 := HC9000_4; have HR139_5 := HR9000_5; have HC139_5 := HC9000_5))
            go_ret
            exact ⟨by first | rfl | (simp [errW_none, errW_some] <;> rfl) | (simp [*, errW_none, errW_some] <;> rfl), by repeat (first | (with_reducible first | exact HB.out | apply bA | apply bN | apply bD) | exact HB.out)⟩
          ·rw [if_neg c39] at H
           have c39b0 : (((rd_T27 l0_0 a0_1).f0) == 7) = false := beq_eq_false_iff_ne.mpr c39
           have c39b1 : (((rd_T27 l0_0 a0_1).f0) != 7) = true := bne_iff_ne.mpr c39
           obtain rfl := Option.some.inj H
           have hx136_0 := HX9000_0.out
           have hx136_1 := HX9000_1.out
           have hx136_2 := HX9000_2.out
           have hx136_3 := HX9000_3.out
           have hx136_4 := HX9000_4.out
           have hx136_5 := HX9000_5.out
           have hx136_6 := HX9000_6.out
           replace hx136_0 := cB HB.out hx136_0
           replace hx136_1 := cB HB.out hx136_1
           replace hx136_2 := cB HB.out hx136_2
           replace hx136_3 := cB HB.out hx136_3
           replace hx136_4 := cB HB.out hx136_4
           replace hx136_5 := cB HB.out hx136_5
           replace hx136_6 := cB HB.out hx136_6
           have HR136_2 := HR9000_2
           have HC136_2 := HC9000_2
           have HR136_3 := HR9000_3
           have HC136_3 := HC9000_3
           have HR136_4 := HR9000_4
           have HC136_4 := HC9000_4
           have HR136_5 := HR9000_5
           have HC136_5 := HC9000_5
           go_wp2_with (first | ((with_reducible refine gate_callee (f := 56) rfl ?_); refine goesL_ (some 31) rfl rfl Try.func56 (by kernel_rfl) rfl #[.string ((rd_T27 l0_0 a0_1).f1)] rfl (by (try simp only [List.map_toArray, List.map_cons, List.map_nil]); first | done | rfl | (simp only [List.length_drop, List.length_take]; rfl)) ?_; (with_reducible refine (spec_IsName.calls kj2 ((rd_T27 l0_0 a0_1).f1) t137 _ A8.out).mono ?_); rintro e w' ⟨rfl, ⟨nd, rfl⟩⟩; refine ⟨_, rfl, ?_⟩; have hx138_0 := HX9000_0.out; have hx138_1 := HX9000_1.out; have hx138_2 := HX9000_2.out; have hx138_3 := HX9000_3.out; have hx138_4 := HX9000_4.out; have hx138_5 := HX9000_5.out; have hx138_6 := HX9000_6.out; replace hx138_0 := cB HB.out hx138_0; replace hx138_1 := cB HB.out hx138_1; replace hx138_2 := cB HB.out hx138_2; replace hx138_3 := cB HB.out hx138_3; replace hx138_4 := cB HB.out hx138_4; replace hx138_5 := cB HB.out hx138_5; replace hx138_6 := cB HB.out hx138_6; have HR138_2 := HR9000_2; have HC138_2 := HC9000_2; have HR138_3 := HR9000_3; have HC138_3 := HC9000_3; have HR138_4 := HR9000_4; have HC138_4 := HC9000_4; have HR138_5 := HR9000_5; have HC138_5 := HC9000_5; have hx139_0 := HX9000_0.out; have hx139_1 := HX9000_1.out; have hx139_2 := HX9000_2.out; have hx139_3 := HX9000_3.out; have hx139_4 := HX9000_4.out; have hx139_5 := HX9000_5.out; have hx139_6 := HX9000_6.out; replace hx139_0 := cB HB.out hx139_0; replace hx139_1 := cB HB.out hx139_1; replace hx139_2 := cB HB.out hx139_2; replace hx139_3 := cB HB.out hx139_3; replace hx139_4 := cB HB.out hx139_4; replace hx139_5 := cB HB.out hx139_5; replace hx139_6 := cB HB.out hx139_6; have HR139_2 := HR9000_2; have HC139_2 := HC9000_2; have HR139_3 := HR9000_3; have HC139_3 := HC9000_3; have HR139_4 := HR9000_4; have HC139_4 := HC9000_4; have HR139_5 := HR9000_5; have HC139_5 := HC9000_5))
           go_ret
           exact ⟨by first | rfl | (simp [errW_none, errW_some] <;> rfl) | (simp [*, errW_none, errW_some] <;> rfl), by repeat (first | (with_reducible first | exact HB.out | apply bA | apply bN | apply bD) | exact HB.out)⟩

end Go.Proofs.Ytklflfdkkddfdaa.QFnExactValidLine
