/- What some Go functions answer, each as a Lean function, and that the machine answers so: written by a program of this session out of the translation. -/
import Derived.Test.YtdahcapolipnbaaQFnExactRuleForx0
import Derived.Test.YtdahcapolipnbaaQFnExactRuleForx2
namespace Go.Proofs.Ytdahcapolipnbaa.QFnExactRuleFor
open Go.RowKit Go.Proofs.YtdahcapolipnbaaW.PrintWords Go.Proofs.YtdahcapolipnbaaW.PrintLast Go.Proofs.YtdahcapolipnbaaW.PrintMore Go.Proofs.Ytdahcapolipnbaa.Rp
attribute [local go_sem] max2_int min2_int max_two min_two max_three min_three max_four min_four   -- for this text's walks alone
set_option linter.unusedVariables false
set_option linter.unusedSimpArgs false

/-! ### spec_IsName: function 173 -/
mutual
def spec_IsName.j0 : Nat → ByteArray → Bool → Option (Bool)
 | 0, _, _ => none
 | k + 1, x0, x16 => if x16 = true then (some false) else (spec_IsName.l0 k x0 0)
def spec_IsName.l0 : Nat → ByteArray → Int → Option (Bool)
 | 0, _, _ => none
 | k + 1, x0, x3 => if x3 < (x0.size : Int) then (if 0 ≤ x3 then ((spec_l01Small.f (bt x0 x3)).bind fun t148 => (if t148 = true then (spec_IsName.l0 k x0 (wrap64 (x3 + 1))) else ((spec_l01Digit.f (bt x0 x3)).bind fun t149 => (if t149 = true then (spec_IsName.l0 k x0 (wrap64 (x3 + 1))) else (if (bt x0 x3) = 46 then (spec_IsName.l0 k x0 (wrap64 (x3 + 1))) else (some false)))))) else (none)) else (some true)
end
def spec_IsName.f (k : Nat) (a0 : ByteArray) : Option (Bool) := if a0.toList = ([] : List UInt8) then (spec_IsName.j0 k a0 true) else (if (a0.size : Int) > 12 then (spec_IsName.j0 k a0 true) else (if 0 < (a0.size : Int) then ((spec_l01Small.f (bt a0 0)).bind fun t147 => (spec_IsName.j0 k a0 (!t147))) else (none)))
theorem spec_IsName.mono_l : ∀ k, (∀ y0 y1, LeO (spec_IsName.j0 k y0 y1) (spec_IsName.j0 (k + 1) y0 y1)) ∧ (∀ y0 y1, LeO (spec_IsName.l0 k y0 y1) (spec_IsName.l0 (k + 1) y0 y1))
 | 0 => ⟨fun _ _ r h => by simp [spec_IsName.j0] at h, fun _ _ r h => by simp [spec_IsName.l0] at h⟩
 | k + 1 => by
  obtain ⟨ih0, ih1⟩ := spec_IsName.mono_l k
  refine ⟨?_, ?_⟩
  ·intro y0 y1
   unfold spec_IsName.j0
   repeat' first
   | (with_reducible exact ih0 _ _)
   | (with_reducible exact ih1 _ _)
   | (with_reducible exact LeO.refl _)
   | (with_reducible exact LeO.none _)
   | (with_reducible refine LeO.ite ?_ ?_)
   | (with_reducible refine LeO.bind ?_ (fun _ => ?_))
   | exact ih0 _ _
   | exact ih1 _ _
   | exact LeO.none _
   | refine LeO.ite ?_ ?_
   | refine LeO.bind ?_ (fun _ => ?_)
  ·intro y0 y1
   unfold spec_IsName.l0
   repeat' first
   | (with_reducible exact ih0 _ _)
   | (with_reducible exact ih1 _ _)
   | (with_reducible exact LeO.refl _)
   | (with_reducible exact LeO.none _)
   | (with_reducible refine LeO.ite ?_ ?_)
   | (with_reducible refine LeO.bind ?_ (fun _ => ?_))
   | exact ih0 _ _
   | exact ih1 _ _
   | exact LeO.none _
   | refine LeO.ite ?_ ?_
   | refine LeO.bind ?_ (fun _ => ?_)
theorem spec_IsName.mono : ∀ a0 k, LeO (spec_IsName.f k a0) (spec_IsName.f (k + 1) a0) := by
 intro a0 k
 obtain ⟨ih0, ih1⟩ := spec_IsName.mono_l k
 unfold spec_IsName.f
 repeat' first
   | (with_reducible exact ih0 _ _)
   | (with_reducible exact ih1 _ _)
   | (with_reducible exact LeO.refl _)
   | (with_reducible exact LeO.none _)
   | (with_reducible refine LeO.ite ?_ ?_)
   | (with_reducible refine LeO.bind ?_ (fun _ => ?_))
   | exact ih0 _ _
   | exact ih1 _ _
   | exact LeO.none _
   | refine LeO.ite ?_ ?_
   | refine LeO.bind ?_ (fun _ => ?_)
set_option maxHeartbeats 8000000 in
set_option maxRecDepth 100000 in
theorem spec_IsName.calls (k : Nat) (a0 : ByteArray) (r : Bool) (w : World) (h : spec_IsName.f k a0 = some r) :
  Calls Try.prog 173 #[.string a0] w fun e w' => e = .returned (.bool r) ∧ Drawn0 w w' := by
 have H : (if a0.toList = ([] : List UInt8) then (spec_IsName.j0 k a0 true) else (if (a0.size : Int) > 12 then (spec_IsName.j0 k a0 true) else (if 0 < (a0.size : Int) then ((spec_l01Small.f (bt a0 0)).bind fun t147 => (spec_IsName.j0 k a0 (!t147))) else (none)))) = some r := h
 clear h
 have HC2 := aM H
 clear H
 go_enter Try.func173, Try.ntmps173
 go_upto_region 1 with (fail)
 go_cut [16] (fun v16 wc => ∃ (kq : Nat) (x16_1 : Bool), v16 = .bool x16_1 ∧ Aside0 (spec_IsName.j0 kq a0 x16_1 = some r) ∧ Aside0 (kq ≤ k) ∧ Drawn0 w wc)
 case first =>
  have H := HC2.out
  clear HC2
  by_cases c3 : a0.toList = ([] : List UInt8)
  ·rw [if_pos c3] at H
   have c3b0 : (a0.toList == ([] : List UInt8)) = true := beq_iff_eq.mpr c3
   have c3b1 : (a0.toList != ([] : List UInt8)) = false := bne_eq_false_iff_eq.mpr c3
   clear c3
   (first | rw [c3b0] | (simp only [i64_w, i32_w]; rw [c3b0]) | rw [c3b1] | rw [c3b2] | rw [c3b3] | rw [c3b4] | skip)
   have H' := aM H
   clear H
   go_wp2
   go_meet
   case rel => exact ⟨_, (true), rQ, H', ⟨by first | omega | exact Nat.le_refl _⟩, by repeat (first | exact Drawn0.refl _ | apply Drawn0.step)⟩
  ·rw [if_neg c3] at H
   have c3b0 : (a0.toList == ([] : List UInt8)) = false := beq_eq_false_iff_ne.mpr c3
   have c3b1 : (a0.toList != ([] : List UInt8)) = true := bne_iff_ne.mpr c3
   (first | rw [c3b0] | (simp only [i64_w, i32_w]; rw [c3b0]) | rw [c3b1] | rw [c3b2] | rw [c3b3] | rw [c3b4] | skip)
   by_cases c4 : (a0.size : Int) > 12
   ·rw [if_pos c4] at H
    have c4b0 : decide (12 < (a0.size : Int)) = true := decide_eq_true c4
    have c4b1 : decide (12 < a0.size) = true := decide_eq_true (by omega)
    clear c4
    have H' := aM H
    clear H
    go_wp2
    go_meet
    case rel => exact ⟨_, (true), rQ, H', ⟨by first | omega | exact Nat.le_refl _⟩, by repeat (first | exact Drawn0.refl _ | apply Drawn0.step)⟩
   ·rw [if_neg c4] at H
    have c4b0 : decide (12 < (a0.size : Int)) = false := decide_eq_false c4
    have c4b1 : decide (12 < a0.size) = false := decide_eq_false (by omega)
    clear c4
    by_cases c5 : 0 < (a0.size : Int)
    ·rw [if_pos c5] at H
     have c5b0 : decide (0 < (a0.size : Int)) = true := decide_eq_true c5
     have c5b1 : decide (0 < a0.size) = true := decide_eq_true (by omega)
     clear c5
     replace H := Option.bind_eq_some_iff.mp H
     obtain ⟨t147, A70, H⟩ := H
     replace H : (spec_IsName.j0 k a0 (!t147)) = some r := H
     have A7 := aM A70
     clear A70
     have H' := aM H
     clear H
     have p6 : 0 ≤ (0 : Int) := (by omega)
     have q6 : 0 < a0.size := (by have : (0 : Int) < (a0.size : Int) := dA; omega)
     have hx6 : ∀ h : 0 < a0.size, ((a0[0]'h).toNat : Int) = bt a0 0 := bt_at a0 0
     clear p6
     have qi6 : (0 < (a0.size : Int)) = True := eq_true (dA)
     replace q6 := eq_true q6
     go_wp2_with (first | (go_at_call 193; (with_reducible refine (spec_l01Small.calls (bt a0 0) t147 _ A7.out).mono ?_); rintro e w' ⟨rfl, ⟨nd, rfl⟩⟩))
     go_meet
     case rel => exact ⟨_, (!t147), rQ, H', ⟨by first | omega | exact Nat.le_refl _⟩, by repeat (first | exact Drawn0.refl _ | apply Drawn0.step)⟩
    ·rw [if_neg c5] at H
     exact absurd H (by simp)
 case rest =>
  clear HC2
  try clear c1
  try clear p2
  try clear c3
  try clear c3b0
  try clear c3b1
  try clear c3b2
  try clear c4
  try clear c4b0
  try clear c4b1
  try clear c5
  try clear c5b0
  try clear c5b1
  try clear p6
  try clear q6
  try clear hx6
  try clear qi6
  try clear p6
  try clear q6
  obtain ⟨kq, x16_1, rfl, HA, HJ1, ⟨mc1, rfl⟩⟩ := hcut
  cases kq with
  | zero => exact absurd HA.out (by simp [spec_IsName.j0])
  | succ kj1 =>
   have H := HA.out
   clear HA
   simp only [spec_IsName.j0] at H
   by_cases c8 : x16_1 = true
   ·subst c8
    have H1 : (some false) = some r := by rw [if_pos rfl] at H; exact H
    clear H
    have H := H1
    clear H1
    obtain rfl := Option.some.inj H
    go_wp2
    go_ret
    exact ⟨rQ, by repeat (first | exact Drawn0.refl _ | apply Drawn0.step)⟩
   ·replace c8 := Bool.eq_false_iff.mpr c8
    subst c8
    have H1 : (spec_IsName.l0 kj1 a0 0) = some r := by rw [if_neg (show ¬ (false = true) by decide)] at H; exact H
    clear H
    have H := H1
    clear H1
    have H' := aM H
    clear H
    go_wp2
    go_loopg [3] kj1 (fun kq v3 w' => ∃ (x3_2 : Int), v3 = .int .i64 x3_2 ∧ Aside0 (spec_IsName.l0 kq a0 x3_2 = some r) ∧ Aside0 (kq ≤ kj1) ∧ Drawn0 w w')
    case atStart => exact ⟨(0), rQ, H', ⟨Nat.le_refl _⟩, by repeat (first | exact Drawn0.refl _ | apply Drawn0.step)⟩
    case round =>
     clear H'
     try clear c1
     try clear p2
     try clear c3
     try clear c3b0
     try clear c3b1
     try clear c3b2
     try clear c4
     try clear c4b0
     try clear c4b1
     try clear c5
     try clear c5b0
     try clear c5b1
     try clear p6
     try clear q6
     try clear hx6
     try clear qi6
     try clear c8
     try clear p2
     try clear p6
     try clear q6
     obtain ⟨x3_2, rfl, HA, HK2, ⟨m2, rfl⟩⟩ := hrel
     cases gk with
     | zero => exact absurd HA.out (by simp [spec_IsName.l0])
     | succ k2 =>
      have H := HA.out
      clear HA
      simp only [spec_IsName.l0] at H
      by_cases c9 : x3_2 < (a0.size : Int)
      ·rw [if_pos c9] at H
       have c9b0 : decide (x3_2 < (a0.size : Int)) = true := decide_eq_true c9
       clear c9
       by_cases c10 : 0 ≤ x3_2
       ·rw [if_pos c10] at H
        have c10b0 : decide (0 ≤ x3_2) = true := decide_eq_true c10
        clear c10
        replace H := Option.bind_eq_some_iff.mp H
        obtain ⟨t148, A120, H⟩ := H
        replace H : (if t148 = true then (spec_IsName.l0 k2 a0 (wrap64 (x3_2 + 1))) else ((spec_l01Digit.f (bt a0 x3_2)).bind fun t149 => (if t149 = true then (spec_IsName.l0 k2 a0 (wrap64 (x3_2 + 1))) else (if (bt a0 x3_2) = 46 then (spec_IsName.l0 k2 a0 (wrap64 (x3_2 + 1))) else (some false))))) = some r := H
        have A12 := aM A120
        clear A120
        by_cases c13 : t148 = true
        ·subst c13
         have H1 : (spec_IsName.l0 k2 a0 (wrap64 (x3_2 + 1))) = some r := by rw [if_pos rfl] at H; exact H
         clear H
         have H := H1
         clear H1
         have H' := aM H
         clear H
         have p11 : 0 ≤ (x3_2 : Int) := dA
         have q11 : x3_2 < (a0.size : Int) := dA
         have hx11 := bt_at a0 x3_2
         replace p11 := eq_true p11
         replace q11 := eq_true q11
         go_wp2_with (first | ((with_reducible refine gate_callee (f := 193) rfl ?_); refine goesL_ (some 26) rfl rfl Try.func193 (by kernel_rfl) rfl #[.int .u8 (bt a0 x3_2)] rfl gQ ?_; (with_reducible refine (spec_l01Small.calls (bt a0 x3_2) true _ A12.out).mono ?_); rintro e w' ⟨rfl, ⟨nd, rfl⟩⟩; refine ⟨_, rfl, ?_⟩))
         go_roundg k2
         case measure => have := HJ1.out; have := HK2.out; omega
         case rel => exact ⟨(wrap64 (x3_2 + 1)), rQ, H', ⟨by have := HJ1.out; have := HK2.out; omega⟩, by repeat (first | exact Drawn0.refl _ | apply Drawn0.step)⟩
        ·replace c13 := Bool.eq_false_iff.mpr c13
         subst c13
         have H1 : ((spec_l01Digit.f (bt a0 x3_2)).bind fun t149 => (if t149 = true then (spec_IsName.l0 k2 a0 (wrap64 (x3_2 + 1))) else (if (bt a0 x3_2) = 46 then (spec_IsName.l0 k2 a0 (wrap64 (x3_2 + 1))) else (some false)))) = some r := by rw [if_neg (show ¬ (false = true) by decide)] at H; exact H
         clear H
         have H := H1
         clear H1
         replace H := Option.bind_eq_some_iff.mp H
         obtain ⟨t149, A150, H⟩ := H
         replace H : (if t149 = true then (spec_IsName.l0 k2 a0 (wrap64 (x3_2 + 1))) else (if (bt a0 x3_2) = 46 then (spec_IsName.l0 k2 a0 (wrap64 (x3_2 + 1))) else (some false))) = some r := H
         have A15 := aM A150
         clear A150
         by_cases c16 : t149 = true
         ·subst c16
          have H1 : (spec_IsName.l0 k2 a0 (wrap64 (x3_2 + 1))) = some r := by rw [if_pos rfl] at H; exact H
          clear H
          have H := H1
          clear H1
          have H' := aM H
          clear H
          have p11 : 0 ≤ (x3_2 : Int) := dA
          have q11 : x3_2 < (a0.size : Int) := dA
          have hx11 := bt_at a0 x3_2
          replace p11 := eq_true p11
          replace q11 := eq_true q11
          go_wp2_with (first | ((with_reducible refine gate_callee (f := 193) rfl ?_); refine goesL_ (some 26) rfl rfl Try.func193 (by kernel_rfl) rfl #[.int .u8 (bt a0 x3_2)] rfl gQ ?_; (with_reducible refine (spec_l01Small.calls (bt a0 x3_2) false _ A12.out).mono ?_); rintro e w' ⟨rfl, ⟨nd, rfl⟩⟩; refine ⟨_, rfl, ?_⟩; have p14 : 0 ≤ (x3_2 : Int) := dA; have q14 : x3_2 < (a0.size : Int) := dA; have hx14 := bt_at a0 x3_2; replace p14 := eq_true p14; replace q14 := eq_true q14) | (go_at_call 194; (with_reducible refine (spec_l01Digit.calls (bt a0 x3_2) true _ A15.out).mono ?_); rintro e w' ⟨rfl, ⟨nd, rfl⟩⟩))
          go_roundg k2
          case measure => have := HJ1.out; have := HK2.out; omega
          case rel => exact ⟨(wrap64 (x3_2 + 1)), rQ, H', ⟨by have := HJ1.out; have := HK2.out; omega⟩, by repeat (first | exact Drawn0.refl _ | apply Drawn0.step)⟩
         ·replace c16 := Bool.eq_false_iff.mpr c16
          subst c16
          have H1 : (if (bt a0 x3_2) = 46 then (spec_IsName.l0 k2 a0 (wrap64 (x3_2 + 1))) else (some false)) = some r := by rw [if_neg (show ¬ (false = true) by decide)] at H; exact H
          clear H
          have H := H1
          clear H1
          by_cases c18 : (bt a0 x3_2) = 46
          ·rw [if_pos c18] at H
           have c18b0 : ((bt a0 x3_2) == 46) = true := beq_iff_eq.mpr c18
           have c18b1 : ((bt a0 x3_2) != 46) = false := bne_eq_false_iff_eq.mpr c18
           clear c18
           have H' := aM H
           clear H
           have p11 : 0 ≤ (x3_2 : Int) := dA
           have q11 : x3_2 < (a0.size : Int) := dA
           have hx11 := bt_at a0 x3_2
           replace p11 := eq_true p11
           replace q11 := eq_true q11
           go_wp2_with (first | ((with_reducible refine gate_callee (f := 193) rfl ?_); refine goesL_ (some 26) rfl rfl Try.func193 (by kernel_rfl) rfl #[.int .u8 (bt a0 x3_2)] rfl gQ ?_; (with_reducible refine (spec_l01Small.calls (bt a0 x3_2) false _ A12.out).mono ?_); rintro e w' ⟨rfl, ⟨nd, rfl⟩⟩; refine ⟨_, rfl, ?_⟩; have p14 : 0 ≤ (x3_2 : Int) := dA; have q14 : x3_2 < (a0.size : Int) := dA; have hx14 := bt_at a0 x3_2; replace p14 := eq_true p14; replace q14 := eq_true q14) | (go_at_call 194; (with_reducible refine (spec_l01Digit.calls (bt a0 x3_2) false _ A15.out).mono ?_); rintro e w' ⟨rfl, ⟨nd, rfl⟩⟩; have p17 : 0 ≤ (x3_2 : Int) := dA; have q17 : x3_2 < (a0.size : Int) := dA; have hx17 := bt_at a0 x3_2; replace p17 := eq_true p17; replace q17 := eq_true q17))
           go_roundg k2
           case measure => have := HJ1.out; have := HK2.out; omega
           case rel => exact ⟨(wrap64 (x3_2 + 1)), rQ, H', ⟨by have := HJ1.out; have := HK2.out; omega⟩, by repeat (first | exact Drawn0.refl _ | apply Drawn0.step)⟩
          ·rw [if_neg c18] at H
           have c18b0 : ((bt a0 x3_2) == 46) = false := beq_eq_false_iff_ne.mpr c18
           have c18b1 : ((bt a0 x3_2) != 46) = true := bne_iff_ne.mpr c18
           obtain rfl := Option.some.inj H
           have p11 : 0 ≤ (x3_2 : Int) := dA
           have q11 : x3_2 < (a0.size : Int) := dA
           have hx11 := bt_at a0 x3_2
           replace p11 := eq_true p11
           replace q11 := eq_true q11
           go_wp2_with (first | ((with_reducible refine gate_callee (f := 193) rfl ?_); refine goesL_ (some 26) rfl rfl Try.func193 (by kernel_rfl) rfl #[.int .u8 (bt a0 x3_2)] rfl gQ ?_; (with_reducible refine (spec_l01Small.calls (bt a0 x3_2) false _ A12.out).mono ?_); rintro e w' ⟨rfl, ⟨nd, rfl⟩⟩; refine ⟨_, rfl, ?_⟩; have p14 : 0 ≤ (x3_2 : Int) := dA; have q14 : x3_2 < (a0.size : Int) := dA; have hx14 := bt_at a0 x3_2; replace p14 := eq_true p14; replace q14 := eq_true q14) | (go_at_call 194; (with_reducible refine (spec_l01Digit.calls (bt a0 x3_2) false _ A15.out).mono ?_); rintro e w' ⟨rfl, ⟨nd, rfl⟩⟩; have p17 : 0 ≤ (x3_2 : Int) := dA; have q17 : x3_2 < (a0.size : Int) := dA; have hx17 := bt_at a0 x3_2; replace p17 := eq_true p17; replace q17 := eq_true q17))
           go_ret
           exact ⟨rQ, by repeat (first | exact Drawn0.refl _ | apply Drawn0.step)⟩
       ·rw [if_neg c10] at H
        exact absurd H (by simp)
      ·rw [if_neg c9] at H
       have c9b0 : decide (x3_2 < (a0.size : Int)) = false := decide_eq_false c9
       clear c9
       obtain rfl := Option.some.inj H
       go_wp2
       go_ret
       exact ⟨rQ, by repeat (first | exact Drawn0.refl _ | apply Drawn0.step)⟩

/-! ### spec_l25Rule_at: function 66 -/
def spec_l25Rule_at.l0 : Nat → Int → List (S38) → Int → Option (Bool)
 | 0, _, _, _ => none
 | k + 1, x3, x1000, x1001 => if x3 < (((rd_T38 x1000 x1001).f3).length : Int) then (if 0 ≤ x3 then ((spec_l00In.f (rd ((rd_T38 x1000 x1001).f3) x3) 0 39).bind fun t153 => (if t153 = true then (spec_l25Rule_at.l0 k (wrap64 (x3 + 1)) x1000 x1001) else (some false))) else (none)) else ((spec_l25Classes.f k ((rd_T38 x1000 x1001).f0) 0).bind fun t155 => (if t155 = true then ((spec_l25Classes.f k ((rd_T38 x1000 x1001).f1) 1).bind fun t157 => (if t157 = true then ((spec_l25Classes.f k ((rd_T38 x1000 x1001).f2) 0).bind fun t159 => (if t159 = true then (some (decide ((((rd_T38 x1000 x1001).f3).length : Int) ≤ 4))) else (some false))) else (some false))) else (some false)))
def spec_l25Rule_at.f (k : Nat) (l0_0 : List (S38)) (a0_1 : Int) : Option (Bool) := spec_l25Rule_at.l0 k 0 l0_0 a0_1
theorem spec_l25Rule_at.mono_l : ∀ k, (∀ y0 y1 y2, LeO (spec_l25Rule_at.l0 k y0 y1 y2) (spec_l25Rule_at.l0 (k + 1) y0 y1 y2))
 | 0 => fun _ _ _ r h => by simp [spec_l25Rule_at.l0] at h
 | k + 1 => by
  have ih0 := spec_l25Rule_at.mono_l k
  ·intro y0 y1 y2
   unfold spec_l25Rule_at.l0
   repeat' first
   | (with_reducible exact ih0 _ _ _)
   | (with_reducible exact spec_l25Classes.mono _ _ _)
   | (with_reducible exact LeO.refl _)
   | (with_reducible exact LeO.none _)
   | (with_reducible refine LeO.ite ?_ ?_)
   | (with_reducible refine LeO.bind ?_ (fun _ => ?_))
   | exact ih0 _ _ _
   | exact spec_l25Classes.mono _ _ _
   | exact LeO.none _
   | refine LeO.ite ?_ ?_
   | refine LeO.bind ?_ (fun _ => ?_)
theorem spec_l25Rule_at.mono : ∀ a0 a1 k, LeO (spec_l25Rule_at.f k a0 a1) (spec_l25Rule_at.f (k + 1) a0 a1) := by
 intro a0 a1 k
 have ih0 := spec_l25Rule_at.mono_l k
 unfold spec_l25Rule_at.f
 repeat' first
   | (with_reducible exact ih0 _ _ _)
   | (with_reducible exact spec_l25Classes.mono _ _ _)
   | (with_reducible exact LeO.refl _)
   | (with_reducible exact LeO.none _)
   | (with_reducible refine LeO.ite ?_ ?_)
   | (with_reducible refine LeO.bind ?_ (fun _ => ?_))
   | exact ih0 _ _ _
   | exact spec_l25Classes.mono _ _ _
   | exact LeO.none _
   | refine LeO.ite ?_ ?_
   | refine LeO.bind ?_ (fun _ => ?_)
set_option maxHeartbeats 8000000 in
set_option maxRecDepth 100000 in
theorem spec_l25Rule_at.calls (k : Nat) (p0_ : Addr) (l0_0 : List (S38)) (a0_1 : Int) (r : Bool) (w : World) (hP0_ : RPtr k38 ((a0_1 : Int).toNat * 4) w p0_ l0_0 a0_1) (h : spec_l25Rule_at.f k l0_0 a0_1 = some r) :
  Calls Try.prog 66 #[.pointer (some p0_)] w fun e w' => e = .returned (.bool r) ∧ Below w.heap.size w w' := by
 obtain ⟨ad0_, rfl, hr0_0, hi0_, hj0_⟩ := hP0_
 have hc0_0 : l0_0.length ≤ l0_0.length := Nat.le_refl _
 replace hi0_ := decide_eq_true hi0_
 replace hj0_ := decide_eq_true hj0_
 obtain ⟨ad9000, A9000_0, c9000_0, A9000_1, c9000_1, A9000_2, c9000_2, A9000_3, c9000_3, e9000, HX9000_0, HX9000_1, HX9000_2, HX9000_3, HC9000_0, HR9000_0, HC9000_1, HR9000_1, HC9000_2, HR9000_2, HC9000_3, HR9000_3⟩ := at_T38 hr0_0 a0_1 (of_decide_eq_true hi0_) (of_decide_eq_true hj0_)
 obtain rfl : ad0_ = ad9000 := (by injection e9000)
 replace HX9000_0 := aM HX9000_0
 replace HX9000_1 := aM HX9000_1
 replace HX9000_2 := aM HX9000_2
 replace HX9000_3 := aM HX9000_3
 replace HC9000_0 := aM HC9000_0
 replace HR9000_0 := aM HR9000_0
 replace HC9000_1 := aM HC9000_1
 replace HR9000_1 := aM HR9000_1
 replace HC9000_2 := aM HC9000_2
 replace HR9000_2 := aM HR9000_2
 replace HC9000_3 := aM HC9000_3
 replace HR9000_3 := aM HR9000_3
 have HR0_0 := aM hr0_0
 have HC0_0 := aM hc0_0
 clear hr0_0 hc0_0
 have HB := aM (Below.refl w.heap.size w)
 have H : (spec_l25Rule_at.l0 k 0 l0_0 a0_1) = some r := h
 clear h
 have H' := aM H
 clear H
 go_enter Try.func66, Try.ntmps66
 go_wp2
 go_loopg [3] k (fun kq v3 w' => ∃ (x3_1 : Int), v3 = .int .i64 x3_1 ∧ Aside0 (spec_l25Rule_at.l0 kq x3_1 l0_0 a0_1 = some r) ∧ Aside0 (kq ≤ k) ∧ Aside0 (Below w.heap.size w w'))
 case atStart => exact ⟨(0), rQ, H', ⟨Nat.le_refl _⟩, ⟨bQ⟩⟩
 case round =>
  clear H'
  obtain ⟨x3_1, rfl, HA, HK1, HB⟩ := hrel
  cases gk with
  | zero => exact absurd HA.out (by simp [spec_l25Rule_at.l0])
  | succ k1 =>
   have H := HA.out
   clear HA
   simp only [spec_l25Rule_at.l0] at H
   by_cases c2 : x3_1 < (((rd_T38 l0_0 a0_1).f3).length : Int)
   ·rw [if_pos c2] at H
    have c2b0 : decide (x3_1 < (((rd_T38 l0_0 a0_1).f3).length : Int)) = true := decide_eq_true c2
    clear c2
    by_cases c3 : 0 ≤ x3_1
    ·rw [if_pos c3] at H
     have c3b0 : decide (0 ≤ x3_1) = true := decide_eq_true c3
     clear c3
     replace H := Option.bind_eq_some_iff.mp H
     obtain ⟨t153, A40, H⟩ := H
     replace H : (if t153 = true then (spec_l25Rule_at.l0 k1 (wrap64 (x3_1 + 1)) l0_0 a0_1) else (some false)) = some r := H
     have A4 := aM A40
     clear A40
     by_cases c5 : t153 = true
     ·subst c5
      have H1 : (spec_l25Rule_at.l0 k1 (wrap64 (x3_1 + 1)) l0_0 a0_1) = some r := by rw [if_pos rfl] at H; exact H
      clear H
      have H := H1
      clear H1
      have H' := aM H
      clear H
      have hx150_0 := HX9000_0.out
      have hx150_1 := HX9000_1.out
      have hx150_2 := HX9000_2.out
      have hx150_3 := HX9000_3.out
      replace hx150_0 := cB HB.out hx150_0
      replace hx150_1 := cB HB.out hx150_1
      replace hx150_2 := cB HB.out hx150_2
      replace hx150_3 := cB HB.out hx150_3
      have HR150_0 := HR9000_0
      have HC150_0 := HC9000_0
      have HR150_1 := HR9000_1
      have HC150_1 := HC9000_1
      have HR150_2 := HR9000_2
      have HC150_2 := HC9000_2
      have HR150_3 := HR9000_3
      have HC150_3 := HC9000_3
      have hx151_0 := HX9000_0.out
      have hx151_1 := HX9000_1.out
      have hx151_2 := HX9000_2.out
      have hx151_3 := HX9000_3.out
      replace hx151_0 := cB HB.out hx151_0
      replace hx151_1 := cB HB.out hx151_1
      replace hx151_2 := cB HB.out hx151_2
      replace hx151_3 := cB HB.out hx151_3
      have HR151_0 := HR9000_0
      have HC151_0 := HC9000_0
      have HR151_1 := HR9000_1
      have HC151_1 := HC9000_1
      have HR151_2 := HR9000_2
      have HC151_2 := HC9000_2
      have HR151_3 := HR9000_3
      have HC151_3 := HC9000_3
      have p152 : 0 ≤ (x3_1 : Int) := dA
      have q152 : x3_1 < (((rd_T38 l0_0 a0_1).f3).length : Int) := dA
      obtain ⟨ad152, e152, hx152_0⟩ := Kd.at_int HR151_3.out x3_1 p152 q152
      cases e152
      replace hx152_0 := cB HB.out hx152_0
      replace p152 := eq_true p152
      replace q152 := eq_true q152
      go_wp2_with (first | ((with_reducible refine gate_callee (f := 54) rfl ?_); refine goesL_ (some 20) rfl rfl Try.func54 (by kernel_rfl) rfl #[.int .i64 (rd ((rd_T38 l0_0 a0_1).f3) x3_1), .int .i64 0, .int .i64 39] rfl gQ ?_; (with_reducible refine (spec_l00In.calls (rd ((rd_T38 l0_0 a0_1).f3) x3_1) 0 39 true _ A4.out).mono ?_); rintro e w' ⟨rfl, ⟨nd, rfl⟩⟩; refine ⟨_, rfl, ?_⟩))
      go_roundg k1
      case measure => have := HK1.out; omega
      case rel => exact ⟨(wrap64 (x3_1 + 1)), rQ, H', ⟨by have := HK1.out; omega⟩, ⟨bQ⟩⟩
     ·replace c5 := Bool.eq_false_iff.mpr c5
      subst c5
      have H1 : (some false) = some r := by rw [if_neg (show ¬ (false = true) by decide)] at H; exact H
      clear H
      have H := H1
      clear H1
      obtain rfl := Option.some.inj H
      have hx150_0 := HX9000_0.out
      have hx150_1 := HX9000_1.out
      have hx150_2 := HX9000_2.out
      have hx150_3 := HX9000_3.out
      replace hx150_0 := cB HB.out hx150_0
      replace hx150_1 := cB HB.out hx150_1
      replace hx150_2 := cB HB.out hx150_2
      replace hx150_3 := cB HB.out hx150_3
      have HR150_0 := HR9000_0
      have HC150_0 := HC9000_0
      have HR150_1 := HR9000_1
      have HC150_1 := HC9000_1
      have HR150_2 := HR9000_2
      have HC150_2 := HC9000_2
      have HR150_3 := HR9000_3
      have HC150_3 := HC9000_3
      have hx151_0 := HX9000_0.out
      have hx151_1 := HX9000_1.out
      have hx151_2 := HX9000_2.out
      have hx151_3 := HX9000_3.out
      replace hx151_0 := cB HB.out hx151_0
      replace hx151_1 := cB HB.out hx151_1
      replace hx151_2 := cB HB.out hx151_2
      replace hx151_3 := cB HB.out hx151_3
      have HR151_0 := HR9000_0
      have HC151_0 := HC9000_0
      have HR151_1 := HR9000_1
      have HC151_1 := HC9000_1
      have HR151_2 := HR9000_2
      have HC151_2 := HC9000_2
      have HR151_3 := HR9000_3
      have HC151_3 := HC9000_3
      have p152 : 0 ≤ (x3_1 : Int) := dA
      have q152 : x3_1 < (((rd_T38 l0_0 a0_1).f3).length : Int) := dA
      obtain ⟨ad152, e152, hx152_0⟩ := Kd.at_int HR151_3.out x3_1 p152 q152
      cases e152
      replace hx152_0 := cB HB.out hx152_0
      replace p152 := eq_true p152
      replace q152 := eq_true q152
      go_wp2_with (first | ((with_reducible refine gate_callee (f := 54) rfl ?_); refine goesL_ (some 20) rfl rfl Try.func54 (by kernel_rfl) rfl #[.int .i64 (rd ((rd_T38 l0_0 a0_1).f3) x3_1), .int .i64 0, .int .i64 39] rfl gQ ?_; (with_reducible refine (spec_l00In.calls (rd ((rd_T38 l0_0 a0_1).f3) x3_1) 0 39 false _ A4.out).mono ?_); rintro e w' ⟨rfl, ⟨nd, rfl⟩⟩; refine ⟨_, rfl, ?_⟩))
      go_ret
      exact ⟨eQ, bQ⟩
    ·rw [if_neg c3] at H
     exact absurd H (by simp)
   ·rw [if_neg c2] at H
    have c2b0 : decide (x3_1 < (((rd_T38 l0_0 a0_1).f3).length : Int)) = false := decide_eq_false c2
    clear c2
    replace H := Option.bind_eq_some_iff.mp H
    obtain ⟨t155, A60, H⟩ := H
    replace H : (if t155 = true then ((spec_l25Classes.f k1 ((rd_T38 l0_0 a0_1).f1) 1).bind fun t157 => (if t157 = true then ((spec_l25Classes.f k1 ((rd_T38 l0_0 a0_1).f2) 0).bind fun t159 => (if t159 = true then (some (decide ((((rd_T38 l0_0 a0_1).f3).length : Int) ≤ 4))) else (some false))) else (some false))) else (some false)) = some r := H
    have A6 := aM A60
    clear A60
    by_cases c7 : t155 = true
    ·subst c7
     have H1 : ((spec_l25Classes.f k1 ((rd_T38 l0_0 a0_1).f1) 1).bind fun t157 => (if t157 = true then ((spec_l25Classes.f k1 ((rd_T38 l0_0 a0_1).f2) 0).bind fun t159 => (if t159 = true then (some (decide ((((rd_T38 l0_0 a0_1).f3).length : Int) ≤ 4))) else (some false))) else (some false))) = some r := by rw [if_pos rfl] at H; exact H
     clear H
     have H := H1
     clear H1
     replace H := Option.bind_eq_some_iff.mp H
     obtain ⟨t157, A80, H⟩ := H
     replace H : (if t157 = true then ((spec_l25Classes.f k1 ((rd_T38 l0_0 a0_1).f2) 0).bind fun t159 => (if t159 = true then (some (decide ((((rd_T38 l0_0 a0_1).f3).length : Int) ≤ 4))) else (some false))) else (some false)) = some r := H
     have A8 := aM A80
     clear A80
     by_cases c9 : t157 = true
     ·subst c9
      have H1 : ((spec_l25Classes.f k1 ((rd_T38 l0_0 a0_1).f2) 0).bind fun t159 => (if t159 = true then (some (decide ((((rd_T38 l0_0 a0_1).f3).length : Int) ≤ 4))) else (some false))) = some r := by rw [if_pos rfl] at H; exact H
      clear H
      have H := H1
      clear H1
      replace H := Option.bind_eq_some_iff.mp H
      obtain ⟨t159, A100, H⟩ := H
      replace H : (if t159 = true then (some (decide ((((rd_T38 l0_0 a0_1).f3).length : Int) ≤ 4))) else (some false)) = some r := H
      have A10 := aM A100
      clear A100
      by_cases c11 : t159 = true
      ·subst c11
       have H1 : (some (decide ((((rd_T38 l0_0 a0_1).f3).length : Int) ≤ 4))) = some r := by rw [if_pos rfl] at H; exact H
       clear H
       have H := H1
       clear H1
       obtain rfl := Option.some.inj H
       have hx150_0 := HX9000_0.out
       have hx150_1 := HX9000_1.out
       have hx150_2 := HX9000_2.out
       have hx150_3 := HX9000_3.out
       replace hx150_0 := cB HB.out hx150_0
       replace hx150_1 := cB HB.out hx150_1
       replace hx150_2 := cB HB.out hx150_2
       replace hx150_3 := cB HB.out hx150_3
       have HR150_0 := HR9000_0
       have HC150_0 := HC9000_0
       have HR150_1 := HR9000_1
       have HC150_1 := HC9000_1
       have HR150_2 := HR9000_2
       have HC150_2 := HC9000_2
       have HR150_3 := HR9000_3
       have HC150_3 := HC9000_3
       have hx154_0 := HX9000_0.out
       have hx154_1 := HX9000_1.out
       have hx154_2 := HX9000_2.out
       have hx154_3 := HX9000_3.out
       replace hx154_0 := cB HB.out hx154_0
       replace hx154_1 := cB HB.out hx154_1
       replace hx154_2 := cB HB.out hx154_2
       replace hx154_3 := cB HB.out hx154_3
       have HR154_0 := HR9000_0
       have HC154_0 := HC9000_0
       have HR154_1 := HR9000_1
       have HC154_1 := HC9000_1
       have HR154_2 := HR9000_2
       have HC154_2 := HC9000_2
       have HR154_3 := HR9000_3
       have HC154_3 := HC9000_3
       go_wp2_with (first | ((with_reducible refine gate_callee (f := 131) rfl ?_); refine goesL_ (some 26) rfl rfl Try.func131 (by kernel_rfl) rfl #[.slice A9000_0 ((rd_T38 l0_0 a0_1).f0).length c9000_0, .int .i64 0] rfl gQ ?_; (with_reducible refine (spec_l25Classes.calls k1 _ _ ((rd_T38 l0_0 a0_1).f0) 0 true _ ?side1 ?side2 A6.out).mono ?_); (case side1 => exact cQ HR154_0.out); (case side2 => exact HC154_0.out); rintro e w' ⟨rfl, ⟨nd, rfl⟩⟩; refine ⟨_, rfl, ?_⟩; have hx156_0 := HX9000_0.out; have hx156_1 := HX9000_1.out; have hx156_2 := HX9000_2.out; have hx156_3 := HX9000_3.out; replace hx156_0 := cB HB.out hx156_0; replace hx156_1 := cB HB.out hx156_1; replace hx156_2 := cB HB.out hx156_2; replace hx156_3 := cB HB.out hx156_3; have HR156_0 := HR9000_0; have HC156_0 := HC9000_0; have HR156_1 := HR9000_1; have HC156_1 := HC9000_1; have HR156_2 := HR9000_2; have HC156_2 := HC9000_2; have HR156_3 := HR9000_3; have HC156_3 := HC9000_3) | (go_at_call 131; (with_reducible refine (spec_l25Classes.calls k1 _ _ ((rd_T38 l0_0 a0_1).f1) 1 true _ ?side1 ?side2 A8.out).mono ?_); (case side1 => exact cQ HR156_1.out); (case side2 => exact HC156_1.out); rintro e w' ⟨rfl, ⟨nd, rfl⟩⟩; have hx158_0 := HX9000_0.out; have hx158_1 := HX9000_1.out; have hx158_2 := HX9000_2.out; have hx158_3 := HX9000_3.out; replace hx158_0 := cB HB.out hx158_0; replace hx158_1 := cB HB.out hx158_1; replace hx158_2 := cB HB.out hx158_2; replace hx158_3 := cB HB.out hx158_3; have HR158_0 := HR9000_0; have HC158_0 := HC9000_0; have HR158_1 := HR9000_1; have HC158_1 := HC9000_1; have HR158_2 := HR9000_2; have HC158_2 := HC9000_2; have HR158_3 := HR9000_3; have HC158_3 := HC9000_3) | (go_at_call 131; (with_reducible refine (spec_l25Classes.calls k1 _ _ ((rd_T38 l0_0 a0_1).f2) 0 true _ ?side1 ?side2 A10.out).mono ?_); (case side1 => exact cQ HR158_2.out); (case side2 => exact HC158_2.out); rintro e w' ⟨rfl, ⟨nd, rfl⟩⟩; have hx160_0 := HX9000_0.out; have hx160_1 := HX9000_1.out; have hx160_2 := HX9000_2.out; have hx160_3 := HX9000_3.out; replace hx160_0 := cB HB.out hx160_0; replace hx160_1 := cB HB.out hx160_1; replace hx160_2 := cB HB.out hx160_2; replace hx160_3 := cB HB.out hx160_3; have HR160_0 := HR9000_0; have HC160_0 := HC9000_0; have HR160_1 := HR9000_1; have HC160_1 := HC9000_1; have HR160_2 := HR9000_2; have HC160_2 := HC9000_2; have HR160_3 := HR9000_3; have HC160_3 := HC9000_3))
       go_ret
       exact ⟨eQ, bQ⟩
      ·replace c11 := Bool.eq_false_iff.mpr c11
       subst c11
       have H1 : (some false) = some r := by rw [if_neg (show ¬ (false = true) by decide)] at H; exact H
       clear H
       have H := H1
       clear H1
       obtain rfl := Option.some.inj H
       have hx150_0 := HX9000_0.out
       have hx150_1 := HX9000_1.out
       have hx150_2 := HX9000_2.out
       have hx150_3 := HX9000_3.out
       replace hx150_0 := cB HB.out hx150_0
       replace hx150_1 := cB HB.out hx150_1
       replace hx150_2 := cB HB.out hx150_2
       replace hx150_3 := cB HB.out hx150_3
       have HR150_0 := HR9000_0
       have HC150_0 := HC9000_0
       have HR150_1 := HR9000_1
       have HC150_1 := HC9000_1
       have HR150_2 := HR9000_2
       have HC150_2 := HC9000_2
       have HR150_3 := HR9000_3
       have HC150_3 := HC9000_3
       have hx154_0 := HX9000_0.out
       have hx154_1 := HX9000_1.out
       have hx154_2 := HX9000_2.out
       have hx154_3 := HX9000_3.out
       replace hx154_0 := cB HB.out hx154_0
       replace hx154_1 := cB HB.out hx154_1
       replace hx154_2 := cB HB.out hx154_2
       replace hx154_3 := cB HB.out hx154_3
       have HR154_0 := HR9000_0
       have HC154_0 := HC9000_0
       have HR154_1 := HR9000_1
       have HC154_1 := HC9000_1
       have HR154_2 := HR9000_2
       have HC154_2 := HC9000_2
       have HR154_3 := HR9000_3
       have HC154_3 := HC9000_3
       go_wp2_with (first | ((with_reducible refine gate_callee (f := 131) rfl ?_); refine goesL_ (some 26) rfl rfl Try.func131 (by kernel_rfl) rfl #[.slice A9000_0 ((rd_T38 l0_0 a0_1).f0).length c9000_0, .int .i64 0] rfl gQ ?_; (with_reducible refine (spec_l25Classes.calls k1 _ _ ((rd_T38 l0_0 a0_1).f0) 0 true _ ?side1 ?side2 A6.out).mono ?_); (case side1 => exact cQ HR154_0.out); (case side2 => exact HC154_0.out); rintro e w' ⟨rfl, ⟨nd, rfl⟩⟩; refine ⟨_, rfl, ?_⟩; have hx156_0 := HX9000_0.out; have hx156_1 := HX9000_1.out; have hx156_2 := HX9000_2.out; have hx156_3 := HX9000_3.out; replace hx156_0 := cB HB.out hx156_0; replace hx156_1 := cB HB.out hx156_1; replace hx156_2 := cB HB.out hx156_2; replace hx156_3 := cB HB.out hx156_3; have HR156_0 := HR9000_0; have HC156_0 := HC9000_0; have HR156_1 := HR9000_1; have HC156_1 := HC9000_1; have HR156_2 := HR9000_2; have HC156_2 := HC9000_2; have HR156_3 := HR9000_3; have HC156_3 := HC9000_3) | (go_at_call 131; (with_reducible refine (spec_l25Classes.calls k1 _ _ ((rd_T38 l0_0 a0_1).f1) 1 true _ ?side1 ?side2 A8.out).mono ?_); (case side1 => exact cQ HR156_1.out); (case side2 => exact HC156_1.out); rintro e w' ⟨rfl, ⟨nd, rfl⟩⟩; have hx158_0 := HX9000_0.out; have hx158_1 := HX9000_1.out; have hx158_2 := HX9000_2.out; have hx158_3 := HX9000_3.out; replace hx158_0 := cB HB.out hx158_0; replace hx158_1 := cB HB.out hx158_1; replace hx158_2 := cB HB.out hx158_2; replace hx158_3 := cB HB.out hx158_3; have HR158_0 := HR9000_0; have HC158_0 := HC9000_0; have HR158_1 := HR9000_1; have HC158_1 := HC9000_1; have HR158_2 := HR9000_2; have HC158_2 := HC9000_2; have HR158_3 := HR9000_3; have HC158_3 := HC9000_3) | (go_at_call 131; (with_reducible refine (spec_l25Classes.calls k1 _ _ ((rd_T38 l0_0 a0_1).f2) 0 false _ ?side1 ?side2 A10.out).mono ?_); (case side1 => exact cQ HR158_2.out); (case side2 => exact HC158_2.out); rintro e w' ⟨rfl, ⟨nd, rfl⟩⟩))
       go_ret
       exact ⟨eQ, bQ⟩
     ·replace c9 := Bool.eq_false_iff.mpr c9
      subst c9
      have H1 : (some false) = some r := by rw [if_neg (show ¬ (false = true) by decide)] at H; exact H
      clear H
      have H := H1
      clear H1
      obtain rfl := Option.some.inj H
      have hx150_0 := HX9000_0.out
      have hx150_1 := HX9000_1.out
      have hx150_2 := HX9000_2.out
      have hx150_3 := HX9000_3.out
      replace hx150_0 := cB HB.out hx150_0
      replace hx150_1 := cB HB.out hx150_1
      replace hx150_2 := cB HB.out hx150_2
      replace hx150_3 := cB HB.out hx150_3
      have HR150_0 := HR9000_0
      have HC150_0 := HC9000_0
      have HR150_1 := HR9000_1
      have HC150_1 := HC9000_1
      have HR150_2 := HR9000_2
      have HC150_2 := HC9000_2
      have HR150_3 := HR9000_3
      have HC150_3 := HC9000_3
      have hx154_0 := HX9000_0.out
      have hx154_1 := HX9000_1.out
      have hx154_2 := HX9000_2.out
      have hx154_3 := HX9000_3.out
      replace hx154_0 := cB HB.out hx154_0
      replace hx154_1 := cB HB.out hx154_1
      replace hx154_2 := cB HB.out hx154_2
      replace hx154_3 := cB HB.out hx154_3
      have HR154_0 := HR9000_0
      have HC154_0 := HC9000_0
      have HR154_1 := HR9000_1
      have HC154_1 := HC9000_1
      have HR154_2 := HR9000_2
      have HC154_2 := HC9000_2
      have HR154_3 := HR9000_3
      have HC154_3 := HC9000_3
      go_wp2_with (first | ((with_reducible refine gate_callee (f := 131) rfl ?_); refine goesL_ (some 26) rfl rfl Try.func131 (by kernel_rfl) rfl #[.slice A9000_0 ((rd_T38 l0_0 a0_1).f0).length c9000_0, .int .i64 0] rfl gQ ?_; (with_reducible refine (spec_l25Classes.calls k1 _ _ ((rd_T38 l0_0 a0_1).f0) 0 true _ ?side1 ?side2 A6.out).mono ?_); (case side1 => exact cQ HR154_0.out); (case side2 => exact HC154_0.out); rintro e w' ⟨rfl, ⟨nd, rfl⟩⟩; refine ⟨_, rfl, ?_⟩; have hx156_0 := HX9000_0.out; have hx156_1 := HX9000_1.out; have hx156_2 := HX9000_2.out; have hx156_3 := HX9000_3.out; replace hx156_0 := cB HB.out hx156_0; replace hx156_1 := cB HB.out hx156_1; replace hx156_2 := cB HB.out hx156_2; replace hx156_3 := cB HB.out hx156_3; have HR156_0 := HR9000_0; have HC156_0 := HC9000_0; have HR156_1 := HR9000_1; have HC156_1 := HC9000_1; have HR156_2 := HR9000_2; have HC156_2 := HC9000_2; have HR156_3 := HR9000_3; have HC156_3 := HC9000_3) | (go_at_call 131; (with_reducible refine (spec_l25Classes.calls k1 _ _ ((rd_T38 l0_0 a0_1).f1) 1 false _ ?side1 ?side2 A8.out).mono ?_); (case side1 => exact cQ HR156_1.out); (case side2 => exact HC156_1.out); rintro e w' ⟨rfl, ⟨nd, rfl⟩⟩))
      go_ret
      exact ⟨eQ, bQ⟩
    ·replace c7 := Bool.eq_false_iff.mpr c7
     subst c7
     have H1 : (some false) = some r := by rw [if_neg (show ¬ (false = true) by decide)] at H; exact H
     clear H
     have H := H1
     clear H1
     obtain rfl := Option.some.inj H
     have hx150_0 := HX9000_0.out
     have hx150_1 := HX9000_1.out
     have hx150_2 := HX9000_2.out
     have hx150_3 := HX9000_3.out
     replace hx150_0 := cB HB.out hx150_0
     replace hx150_1 := cB HB.out hx150_1
     replace hx150_2 := cB HB.out hx150_2
     replace hx150_3 := cB HB.out hx150_3
     have HR150_0 := HR9000_0
     have HC150_0 := HC9000_0
     have HR150_1 := HR9000_1
     have HC150_1 := HC9000_1
     have HR150_2 := HR9000_2
     have HC150_2 := HC9000_2
     have HR150_3 := HR9000_3
     have HC150_3 := HC9000_3
     have hx154_0 := HX9000_0.out
     have hx154_1 := HX9000_1.out
     have hx154_2 := HX9000_2.out
     have hx154_3 := HX9000_3.out
     replace hx154_0 := cB HB.out hx154_0
     replace hx154_1 := cB HB.out hx154_1
     replace hx154_2 := cB HB.out hx154_2
     replace hx154_3 := cB HB.out hx154_3
     have HR154_0 := HR9000_0
     have HC154_0 := HC9000_0
     have HR154_1 := HR9000_1
     have HC154_1 := HC9000_1
     have HR154_2 := HR9000_2
     have HC154_2 := HC9000_2
     have HR154_3 := HR9000_3
     have HC154_3 := HC9000_3
     go_wp2_with (first | ((with_reducible refine gate_callee (f := 131) rfl ?_); refine goesL_ (some 26) rfl rfl Try.func131 (by kernel_rfl) rfl #[.slice A9000_0 ((rd_T38 l0_0 a0_1).f0).length c9000_0, .int .i64 0] rfl gQ ?_; (with_reducible refine (spec_l25Classes.calls k1 _ _ ((rd_T38 l0_0 a0_1).f0) 0 false _ ?side1 ?side2 A6.out).mono ?_); (case side1 => exact cQ HR154_0.out); (case side2 => exact HC154_0.out); rintro e w' ⟨rfl, ⟨nd, rfl⟩⟩; refine ⟨_, rfl, ?_⟩))
     go_ret
     exact ⟨eQ, bQ⟩

end Go.Proofs.Ytdahcapolipnbaa.QFnExactRuleFor
