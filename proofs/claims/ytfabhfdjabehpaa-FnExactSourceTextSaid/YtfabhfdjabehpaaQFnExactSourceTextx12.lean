/- What some Go functions answer, each as a Lean function, and that the machine answers so: written by a program of this session out of the translation. -/
import Derived.Test.YtfabhfdjabehpaaQFnExactSourceTextx0
import Derived.Test.YtfabhfdjabehpaaQFnExactSourceTextx1
import Derived.Test.YtfabhfdjabehpaaQFnExactSourceTextx2
import Derived.Test.YtfabhfdjabehpaaQFnExactSourceTextx7
import Derived.Test.YtfabhfdjabehpaaQFnExactSourceTextx11
namespace Go.Proofs.Ytfabhfdjabehpaa.QFnExactSourceText
open Go.RowKit Go.Proofs.YtfabhfdjabehpaaW.PrintWords Go.Proofs.YtfabhfdjabehpaaW.PrintLast Go.Proofs.YtfabhfdjabehpaaW.PrintMore Go.Proofs.Ytfabhfdjabehpaa.Rp
attribute [local go_sem] max2_int min2_int max_two min_two max_three min_three max_four min_four   -- for this text's walks alone
set_option linter.unusedVariables false
set_option linter.unusedSimpArgs false

/-! ### impl_FeatureLine_by_impl_validSource_1_70: function 70 -/
def impl_FeatureLine_by_impl_validSource_1_70.l0 : Nat → List (S39) → Int → Int → Option (Int)
 | 0, _, _, _ => none
 | k + 1, x0, x7, x8 => if x8 < x7 then (if 0 ≤ x8 then (if x8 < (x0.length : Int) then ((impl_validSource_1.f k ((rd_T39 x0 x8).f0) ((rd_T39 x0 x8).f1) ((rd_T39 x0 x8).f2) ((rd_T39 x0 x8).f3) ((rd_T39 x0 x8).f4) ((rd_T39 x0 x8).f5) ((rd_T39 x0 x8).f6)).bind fun t408 => (if t408 = true then (some x8) else (impl_FeatureLine_by_impl_validSource_1_70.l0 k x0 x7 (wrap64 (x8 + 1))))) else (none)) else (none)) else (some (-1))
def impl_FeatureLine_by_impl_validSource_1_70.f (k : Nat) (l0 : List (S39))  : Option (Int) := impl_FeatureLine_by_impl_validSource_1_70.l0 k l0 (l0.length : Int) 0
theorem impl_FeatureLine_by_impl_validSource_1_70.mono_l : ∀ k, (∀ y0 y1 y2, LeO (impl_FeatureLine_by_impl_validSource_1_70.l0 k y0 y1 y2) (impl_FeatureLine_by_impl_validSource_1_70.l0 (k + 1) y0 y1 y2))
 | 0 => fun _ _ _ r h => by simp [impl_FeatureLine_by_impl_validSource_1_70.l0] at h
 | k + 1 => by
  have ih0 := impl_FeatureLine_by_impl_validSource_1_70.mono_l k
  ·intro y0 y1 y2
   unfold impl_FeatureLine_by_impl_validSource_1_70.l0
   repeat' first
   | (with_reducible exact ih0 _ _ _)
   | (with_reducible exact impl_validSource_1.mono _ _ _ _ _ _ _ _)
   | (with_reducible exact LeO.refl _)
   | (with_reducible exact LeO.none _)
   | (with_reducible refine LeO.ite ?_ ?_)
   | (with_reducible refine LeO.bind ?_ (fun _ => ?_))
   | exact ih0 _ _ _
   | exact impl_validSource_1.mono _ _ _ _ _ _ _ _
   | exact LeO.none _
   | refine LeO.ite ?_ ?_
   | refine LeO.bind ?_ (fun _ => ?_)
theorem impl_FeatureLine_by_impl_validSource_1_70.mono : ∀ a0 k, LeO (impl_FeatureLine_by_impl_validSource_1_70.f k a0) (impl_FeatureLine_by_impl_validSource_1_70.f (k + 1) a0) := by
 intro a0 k
 have ih0 := impl_FeatureLine_by_impl_validSource_1_70.mono_l k
 unfold impl_FeatureLine_by_impl_validSource_1_70.f
 repeat' first
   | (with_reducible exact ih0 _ _ _)
   | (with_reducible exact impl_validSource_1.mono _ _ _ _ _ _ _ _)
   | (with_reducible exact LeO.refl _)
   | (with_reducible exact LeO.none _)
   | (with_reducible refine LeO.ite ?_ ?_)
   | (with_reducible refine LeO.bind ?_ (fun _ => ?_))
   | exact ih0 _ _ _
   | exact impl_validSource_1.mono _ _ _ _ _ _ _ _
   | exact LeO.none _
   | refine LeO.ite ?_ ?_
   | refine LeO.bind ?_ (fun _ => ?_)
set_option maxHeartbeats 8000000 in
set_option maxRecDepth 100000 in
theorem impl_FeatureLine_by_impl_validSource_1_70.calls (k : Nat) (A0 : Option Addr) (c0 : Nat) (l0 : List (S39))  (r : Int) (w : World) (hr0 : Kd.C k39 w A0 l0.length l0) (hc0 : l0.length ≤ c0) (h : impl_FeatureLine_by_impl_validSource_1_70.f k l0 = some r) :
  Calls Try.prog 70 #[.slice A0 l0.length c0, .func (.func 50) #[] #[]] w fun e w' => e = .returned (.int .i64 r) ∧ Below w.heap.size w w' := by
 have hu39 := Try.underlying39
 have HR0 := aM hr0
 have HC0 := aM hc0
 clear hr0 hc0
 have HB := aM (Below.refl w.heap.size w)
 have H : (impl_FeatureLine_by_impl_validSource_1_70.l0 k l0 (l0.length : Int) 0) = some r := h
 clear h
 have H' := aM H
 clear H
 go_enter Try.func70, Try.ntmps70
 go_wp2
 go_loopg [8] k (fun kq v8 w' => ∃ (x8_1 : Int), v8 = .int .i64 x8_1 ∧ Aside0 (impl_FeatureLine_by_impl_validSource_1_70.l0 kq l0 (l0.length : Int) x8_1 = some r) ∧ Aside0 (kq ≤ k) ∧ Aside0 (Below w.heap.size w w'))
 case atStart => exact ⟨(0), rQ, H', ⟨Nat.le_refl _⟩, ⟨bQ⟩⟩
 case round =>
  clear H'
  try clear p2
  obtain ⟨x8_1, rfl, HA, HK1, HB⟩ := hrel
  cases gk with
  | zero => exact absurd HA.out (by simp [impl_FeatureLine_by_impl_validSource_1_70.l0])
  | succ k1 =>
   have H := HA.out
   clear HA
   simp only [impl_FeatureLine_by_impl_validSource_1_70.l0] at H
   by_cases c3 : x8_1 < (l0.length : Int)
   ·rw [if_pos c3] at H
    have c3b0 : decide (x8_1 < (l0.length : Int)) = true := decide_eq_true c3
    clear c3
    by_cases c4 : 0 ≤ x8_1
    ·rw [if_pos c4] at H
     have c4b0 : decide (0 ≤ x8_1) = true := decide_eq_true c4
     clear c4
     by_cases c5 : x8_1 < (l0.length : Int)
     ·rw [if_pos c5] at H
      have c5b0 : decide (x8_1 < (l0.length : Int)) = true := decide_eq_true c5
      clear c5
      replace H := Option.bind_eq_some_iff.mp H
      obtain ⟨t408, A60, H⟩ := H
      replace H : (if t408 = true then (some x8_1) else (impl_FeatureLine_by_impl_validSource_1_70.l0 k1 l0 (l0.length : Int) (wrap64 (x8_1 + 1)))) = some r := H
      have A6 := aM A60
      clear A60
      by_cases c7 : t408 = true
      ·subst c7
       have H1 : (some x8_1) = some r := by rw [if_pos rfl] at H; exact H
       clear H
       have H := H1
       clear H1
       obtain rfl := Option.some.inj H
       have p407 : 0 ≤ (x8_1 : Int) := dA
       have q407 : x8_1 < (l0.length : Int) := dA
       obtain ⟨ad407, A407_2, c407_2, A407_3, c407_3, A407_4, c407_4, A407_5, c407_5, e407, hx407_0, hx407_1, hx407_2, hx407_3, hx407_4, hx407_5, hx407_6, hl407_2, hi407_2, hl407_3, hi407_3, hl407_4, hi407_4, hl407_5, hi407_5⟩ := at_T39 HR0.out x8_1 p407 q407
       cases e407
       replace hx407_0 := cB HB.out hx407_0
       replace hx407_1 := cB HB.out hx407_1
       replace hx407_2 := cB HB.out hx407_2
       replace hx407_3 := cB HB.out hx407_3
       replace hx407_4 := cB HB.out hx407_4
       replace hx407_5 := cB HB.out hx407_5
       replace hx407_6 := cB HB.out hx407_6
       have HR407_2 := aM hi407_2
       have HC407_2 := aM hl407_2
       clear hi407_2 hl407_2
       have HR407_3 := aM hi407_3
       have HC407_3 := aM hl407_3
       clear hi407_3 hl407_3
       have HR407_4 := aM hi407_4
       have HC407_4 := aM hl407_4
       clear hi407_4 hl407_4
       have HR407_5 := aM hi407_5
       have HC407_5 := aM hl407_5
       clear hi407_5 hl407_5
       replace p407 := eq_true p407
       replace q407 := eq_true q407
       go_wp2_with (first | (go_at_call 50; (with_reducible refine (impl_validSource_1.calls k1 ((rd_T39 l0 x8_1).f0) ((rd_T39 l0 x8_1).f1) _ _ ((rd_T39 l0 x8_1).f2) _ _ ((rd_T39 l0 x8_1).f3) _ _ ((rd_T39 l0 x8_1).f4) _ _ ((rd_T39 l0 x8_1).f5) ((rd_T39 l0 x8_1).f6) true _ ?side1 ?side2 ?side3 ?side4 ?side5 ?side6 ?side7 ?side8 A6.out).mono ?_); (case side1 => exact cQ HR407_2.out); (case side2 => exact HC407_2.out); (case side3 => exact cQ HR407_3.out); (case side4 => exact HC407_3.out); (case side5 => exact cQ HR407_4.out); (case side6 => exact HC407_4.out); (case side7 => exact cQ HR407_5.out); (case side8 => exact HC407_5.out); rintro e w8 ⟨rfl, hb⟩; have n0_ := aM (below_step bQ hb); clear HB; have HB := n0_; clear n0_; (try clear hb); (try clear hb2); (try clear hk); (try clear hi)))
       go_ret
       exact ⟨eQ, bQ⟩
      ·replace c7 := Bool.eq_false_iff.mpr c7
       subst c7
       have H1 : (impl_FeatureLine_by_impl_validSource_1_70.l0 k1 l0 (l0.length : Int) (wrap64 (x8_1 + 1))) = some r := by rw [if_neg (show ¬ (false = true) by decide)] at H; exact H
       clear H
       have H := H1
       clear H1
       have H' := aM H
       clear H
       have p407 : 0 ≤ (x8_1 : Int) := dA
       have q407 : x8_1 < (l0.length : Int) := dA
       obtain ⟨ad407, A407_2, c407_2, A407_3, c407_3, A407_4, c407_4, A407_5, c407_5, e407, hx407_0, hx407_1, hx407_2, hx407_3, hx407_4, hx407_5, hx407_6, hl407_2, hi407_2, hl407_3, hi407_3, hl407_4, hi407_4, hl407_5, hi407_5⟩ := at_T39 HR0.out x8_1 p407 q407
       cases e407
       replace hx407_0 := cB HB.out hx407_0
       replace hx407_1 := cB HB.out hx407_1
       replace hx407_2 := cB HB.out hx407_2
       replace hx407_3 := cB HB.out hx407_3
       replace hx407_4 := cB HB.out hx407_4
       replace hx407_5 := cB HB.out hx407_5
       replace hx407_6 := cB HB.out hx407_6
       have HR407_2 := aM hi407_2
       have HC407_2 := aM hl407_2
       clear hi407_2 hl407_2
       have HR407_3 := aM hi407_3
       have HC407_3 := aM hl407_3
       clear hi407_3 hl407_3
       have HR407_4 := aM hi407_4
       have HC407_4 := aM hl407_4
       clear hi407_4 hl407_4
       have HR407_5 := aM hi407_5
       have HC407_5 := aM hl407_5
       clear hi407_5 hl407_5
       replace p407 := eq_true p407
       replace q407 := eq_true q407
       go_wp2_with (first | (go_at_call 50; (with_reducible refine (impl_validSource_1.calls k1 ((rd_T39 l0 x8_1).f0) ((rd_T39 l0 x8_1).f1) _ _ ((rd_T39 l0 x8_1).f2) _ _ ((rd_T39 l0 x8_1).f3) _ _ ((rd_T39 l0 x8_1).f4) _ _ ((rd_T39 l0 x8_1).f5) ((rd_T39 l0 x8_1).f6) false _ ?side1 ?side2 ?side3 ?side4 ?side5 ?side6 ?side7 ?side8 A6.out).mono ?_); (case side1 => exact cQ HR407_2.out); (case side2 => exact HC407_2.out); (case side3 => exact cQ HR407_3.out); (case side4 => exact HC407_3.out); (case side5 => exact cQ HR407_4.out); (case side6 => exact HC407_4.out); (case side7 => exact cQ HR407_5.out); (case side8 => exact HC407_5.out); rintro e w9 ⟨rfl, hb⟩; have n0_ := aM (below_step bQ hb); clear HB; have HB := n0_; clear n0_; (try clear hb); (try clear hb2); (try clear hk); (try clear hi)))
       go_roundg k1
       case measure => have := HK1.out; omega
       case rel => exact ⟨(wrap64 (x8_1 + 1)), rQ, H', ⟨by have := HK1.out; omega⟩, ⟨bQ⟩⟩
     ·rw [if_neg c5] at H
      exact absurd H (by simp)
    ·rw [if_neg c4] at H
     exact absurd H (by simp)
   ·rw [if_neg c3] at H
    have c3b0 : decide (x8_1 < (l0.length : Int)) = false := decide_eq_false c3
    clear c3
    obtain rfl := Option.some.inj H
    go_wp2
    go_ret
    exact ⟨eQ, bQ⟩

/-! ### impl_FeatureLine_by_impl_validSource_1_49: function 49 -/
def impl_FeatureLine_by_impl_validSource_1_49.f (k : Nat) (l0 : List (S39))  : Option (Bool) := (impl_FeatureLine_by_impl_validSource_1_70.f k l0).bind fun t409 => (some (decide (t409 ≥ 0)))
theorem impl_FeatureLine_by_impl_validSource_1_49.mono : ∀ a0 k, LeO (impl_FeatureLine_by_impl_validSource_1_49.f k a0) (impl_FeatureLine_by_impl_validSource_1_49.f (k + 1) a0) := by
 intro a0 k
 unfold impl_FeatureLine_by_impl_validSource_1_49.f
 repeat' first
   | (with_reducible exact impl_FeatureLine_by_impl_validSource_1_70.mono _ _)
   | (with_reducible exact LeO.refl _)
   | (with_reducible exact LeO.none _)
   | (with_reducible refine LeO.ite ?_ ?_)
   | (with_reducible refine LeO.bind ?_ (fun _ => ?_))
   | exact impl_FeatureLine_by_impl_validSource_1_70.mono _ _
   | exact LeO.none _
   | refine LeO.ite ?_ ?_
   | refine LeO.bind ?_ (fun _ => ?_)
set_option maxHeartbeats 8000000 in
set_option maxRecDepth 100000 in
theorem impl_FeatureLine_by_impl_validSource_1_49.calls (k : Nat) (A0 : Option Addr) (c0 : Nat) (l0 : List (S39))  (r : Bool) (w : World) (hr0 : Kd.C k39 w A0 l0.length l0) (hc0 : l0.length ≤ c0) (h : impl_FeatureLine_by_impl_validSource_1_49.f k l0 = some r) :
  Calls Try.prog 49 #[.slice A0 l0.length c0, .func (.func 50) #[] #[]] w fun e w' => e = .returned (.bool r) ∧ Below w.heap.size w w' := by
 have HR0 := aM hr0
 have HC0 := aM hc0
 clear hr0 hc0
 have HB := aM (Below.refl w.heap.size w)
 have H : ((impl_FeatureLine_by_impl_validSource_1_70.f k l0).bind fun t409 => (some (decide (t409 ≥ 0)))) = some r := h
 clear h
 replace H := Option.bind_eq_some_iff.mp H
 obtain ⟨t409, A30, H⟩ := H
 replace H : (some (decide (t409 ≥ 0))) = some r := H
 have A3 := aM A30
 clear A30
 obtain rfl := Option.some.inj H
 go_enter Try.func49, Try.ntmps49
 go_wp2_with (first | ((with_reducible refine gate_callee (f := 70) rfl ?_); refine goesL_ (some 7) rfl rfl Try.func70 (by kernel_rfl) rfl #[.slice A0 l0.length c0, .func (.func 50) #[] #[]] rfl gQ ?_; (with_reducible refine (impl_FeatureLine_by_impl_validSource_1_70.calls k _ _ l0  t409 _ ?side1 ?side2 A3.out).mono ?_); (case side1 => repeat (first | exact HR0.out | (with_reducible first | refine cA ?_ _ | refine cN ?_ _ | refine cD ?_))); (case side2 => exact HC0.out); rintro e w4 ⟨rfl, hb⟩; refine ⟨_, rfl, ?_⟩; have n0_ := aM (below_step bQ hb); clear HB; have HB := n0_; clear n0_; (try clear hb); (try clear hb2); (try clear hk); (try clear hi)))
 go_ret
 exact ⟨eQ, bQ⟩

/-! ### impl_validSource: function 29 -/
def impl_validSource.f (k : Nat) (l0 : List (S39)) : Option (Bool) := if (l0.length : Int) ≤ 120 then ((impl_FeatureLine_by_impl_validSource_1_49.f k l0).bind fun t410 => (some (!t410))) else (some false)
theorem impl_validSource.mono : ∀ a0 k, LeO (impl_validSource.f k a0) (impl_validSource.f (k + 1) a0) := by
 intro a0 k
 unfold impl_validSource.f
 repeat' first
   | (with_reducible exact impl_FeatureLine_by_impl_validSource_1_49.mono _ _)
   | (with_reducible exact LeO.refl _)
   | (with_reducible exact LeO.none _)
   | (with_reducible refine LeO.ite ?_ ?_)
   | (with_reducible refine LeO.bind ?_ (fun _ => ?_))
   | exact impl_FeatureLine_by_impl_validSource_1_49.mono _ _
   | exact LeO.none _
   | refine LeO.ite ?_ ?_
   | refine LeO.bind ?_ (fun _ => ?_)
set_option maxHeartbeats 8000000 in
set_option maxRecDepth 100000 in
theorem impl_validSource.calls (k : Nat) (A0 : Option Addr) (c0 : Nat) (l0 : List (S39)) (r : Bool) (w : World) (hr0 : Kd.C k39 w A0 l0.length l0) (hc0 : l0.length ≤ c0) (h : impl_validSource.f k l0 = some r) :
  Calls Try.prog 29 #[.slice A0 l0.length c0] w fun e w' => e = .returned (.bool r) ∧ Below w.heap.size w w' := by
 have HR0 := aM hr0
 have HC0 := aM hc0
 clear hr0 hc0
 have HB := aM (Below.refl w.heap.size w)
 have H : (if (l0.length : Int) ≤ 120 then ((impl_FeatureLine_by_impl_validSource_1_49.f k l0).bind fun t410 => (some (!t410))) else (some false)) = some r := h
 clear h
 by_cases c2 : (l0.length : Int) ≤ 120
 ·rw [if_pos c2] at H
  have c2b0 : decide ((l0.length : Int) ≤ 120) = true := decide_eq_true c2
  have c2b1 : decide (l0.length ≤ 120) = true := decide_eq_true (by omega)
  clear c2
  replace H := Option.bind_eq_some_iff.mp H
  obtain ⟨t410, A30, H⟩ := H
  replace H : (some (!t410)) = some r := H
  have A3 := aM A30
  clear A30
  obtain rfl := Option.some.inj H
  go_enter Try.func29, Try.ntmps29
  go_wp2_with (first | (go_at_call 49; (with_reducible refine (impl_FeatureLine_by_impl_validSource_1_49.calls k _ _ l0  t410 _ ?side1 ?side2 A3.out).mono ?_); (case side1 => repeat (first | exact HR0.out | (with_reducible first | refine cA ?_ _ | refine cN ?_ _ | refine cD ?_))); (case side2 => exact HC0.out); rintro e w4 ⟨rfl, hb⟩; have n0_ := aM (below_step bQ hb); clear HB; have HB := n0_; clear n0_; (try clear hb); (try clear hb2); (try clear hk); (try clear hi)))
  go_ret
  exact ⟨eQ, bQ⟩
 ·rw [if_neg c2] at H
  have c2b0 : decide ((l0.length : Int) ≤ 120) = false := decide_eq_false c2
  have c2b1 : decide (l0.length ≤ 120) = false := decide_eq_false (by omega)
  clear c2
  obtain rfl := Option.some.inj H
  go_enter Try.func29, Try.ntmps29
  go_wp2
  go_ret
  exact ⟨eQ, bQ⟩

/-! ### impl_SourceText: function 22, given -/
def impl_SourceText.l0 : Nat → List (S39) → ByteArray → Int → Option (ByteArray)
 | 0, _, _, _ => none
 | k + 1, x0, x3, x11 => if x11 < (x0.length : Int) then (if 0 ≤ x11 then ((impl_LineText.f k ((rd_T39 x0 x11).f0) ((rd_T39 x0 x11).f1) ((rd_T39 x0 x11).f2) ((rd_T39 x0 x11).f3) ((rd_T39 x0 x11).f4) ((rd_T39 x0 x11).f5) ((rd_T39 x0 x11).f6)).bind fun t => (if t.size + 1 ≤ 9223372036854775807 then (if x3.size + (t ++ (⟨#[10]⟩ : ByteArray)).size ≤ 140737488355328 then (impl_SourceText.l0 k x0 (x3 ++ (t ++ (⟨#[10]⟩ : ByteArray))) (wrap64 (x11 + 1))) else (none)) else (none))) else (none)) else (some x3)
def impl_SourceText.f (k : Nat) (l0 : List (S39)) : Option (ByteArray) := (impl_validSource.f k l0).bind fun t => (if t = true then (impl_SourceText.l0 k l0 (⟨#[]⟩ : ByteArray) 0) else (some (⟨#[]⟩ : ByteArray)))
theorem impl_SourceText.mono_l : ∀ k, (∀ y0 y1 y2, LeO (impl_SourceText.l0 k y0 y1 y2) (impl_SourceText.l0 (k + 1) y0 y1 y2))
 | 0 => fun _ _ _ r h => by simp [impl_SourceText.l0] at h
 | k + 1 => by
  have ih0 := impl_SourceText.mono_l k
  intro y0 y1 y2
  unfold impl_SourceText.l0
  repeat' first
   | (with_reducible exact ih0 _ _ _)
   | (with_reducible exact impl_LineText.mono _ _ _ _ _ _ _ _)
   | (with_reducible exact LeO.refl _)
   | (with_reducible exact LeO.none _)
   | (with_reducible refine LeO.ite ?_ ?_)
   | (with_reducible refine LeO.bind ?_ (fun _ => ?_))
   | exact ih0 _ _ _
   | exact impl_LineText.mono _ _ _ _ _ _ _ _
   | exact LeO.none _
   | refine LeO.ite ?_ ?_
   | refine LeO.bind ?_ (fun _ => ?_)
theorem impl_SourceText.mono : ∀ a0 k, LeO (impl_SourceText.f k a0) (impl_SourceText.f (k + 1) a0) := fun a0 k => LeO.bind (impl_validSource.mono _ _) (fun t => LeO.ite (impl_SourceText.mono_l k _ _ _) (LeO.refl _))
set_option maxHeartbeats 16000000 in
set_option maxRecDepth 100000 in
theorem impl_SourceText.calls (k : Nat) (A0 : Option Addr) (c0 : Nat) (l0 : List (S39)) (r : ByteArray) (w : World) (hr0 : Kd.C k39 w A0 l0.length l0) (hc0 : l0.length ≤ c0) (h : impl_SourceText.f k l0 = some r) :
  Calls Try.prog 22 #[.slice A0 l0.length c0] w fun e w' => e = .returned (.string r) ∧ Below w.heap.size w w' := by
 have hu39 := Try.underlying39
 have HR0 := aM hr0
 have HC0 := aM hc0
 clear hr0 hc0
 have HB := aM (Below.refl w.heap.size w)
 have H : ((impl_validSource.f k l0).bind fun t => (if t = true then (impl_SourceText.l0 k l0 (⟨#[]⟩ : ByteArray) 0) else (some (⟨#[]⟩ : ByteArray)))) = some r := h
 clear h
 replace H := Option.bind_eq_some_iff.mp H
 obtain ⟨t7, A70, H⟩ := H
 have A7 := aM A70
 clear A70
 by_cases c7 : t7 = true
 ·subst c7
  have H' : Aside0 (impl_SourceText.l0 k l0 (⟨#[]⟩ : ByteArray) 0 = some r) := aM (by rw [if_pos rfl] at H; exact H)
  clear H
  go_enter Try.func22, Try.ntmps22
  go_wp2_with (first | ((with_reducible refine gate_callee (f := 29) rfl ?_); refine goesL_ (some 7) rfl rfl Try.func29 (by kernel_rfl) rfl #[.slice A0 l0.length c0] rfl gQ ?_; (with_reducible refine (impl_validSource.calls k _ _ l0 true _ ?side1 ?side2 A7.out).mono ?_); (case side1 => repeat (first | exact HR0.out | (with_reducible first | refine cA ?_ _ | refine cN ?_ _ | refine cD ?_))); (case side2 => exact HC0.out); rintro e w8 ⟨rfl, hb⟩; refine ⟨_, rfl, ?_⟩; have n0_ := aM (below_step HB.out hb); clear HB hb; have HB := n0_; clear n0_))
  have HD0 := aM (Go.Proofs.Ytfabhfdjabehpaa.Gv.Bld.newB w8 (below_size HB.out))
  have HB0 := aM (Go.Proofs.Ytfabhfdjabehpaa.Gv.below_new HB.out (below_size HB.out))
  clear HB
  generalize w8.heap.size = b8 at HD0 ⊢
  go_loopg [11] k (fun kq v11 w' => ∃ (x3_1 : ByteArray) (x11_1 : Int), v11 = .int .i64 x11_1 ∧ Aside0 (impl_SourceText.l0 kq l0 x3_1 x11_1 = some r) ∧ Aside0 (kq ≤ k) ∧ Aside0 (Go.Proofs.Ytfabhfdjabehpaa.Gv.Bld w.heap.size b8 x3_1 w') ∧ Aside0 (Below w.heap.size w w'))
  case atStart => exact ⟨(⟨#[]⟩ : ByteArray), (0), rQ, H', ⟨Nat.le_refl _⟩, HD0, HB0⟩
  case round =>
   clear H' HD0 HB0
   obtain ⟨x3_1, x11_1, rfl, HA, HK1, HD, HB⟩ := hrel
   cases gk with
   | zero => exact absurd HA.out (by simp [impl_SourceText.l0])
   | succ k1 =>
    have H := HA.out
    clear HA
    simp only [impl_SourceText.l0] at H
    by_cases c2 : x11_1 < (l0.length : Int)
    ·rw [if_pos c2] at H
     have c2b0 : decide (x11_1 < (l0.length : Int)) = true := decide_eq_true c2
     by_cases c3 : 0 ≤ x11_1
     ·rw [if_pos c3] at H
      have c3b0 : decide (0 ≤ x11_1) = true := decide_eq_true c3
      replace H := Option.bind_eq_some_iff.mp H
      obtain ⟨t155, A40, H⟩ := H
      have A4 := aM A40
      clear A40
      by_cases c5 : t155.size + 1 ≤ 9223372036854775807
      ·rw [if_pos c5] at H
       have c5b2 : (9223372036854775807 < t155.size + 1) = False := eq_false (Nat.not_lt.2 c5)
       clear c5
       by_cases c6 : x3_1.size + (t155 ++ (⟨#[10]⟩ : ByteArray)).size ≤ 140737488355328
       ·rw [if_pos c6] at H
        have C6 := aM c6
        clear c6
        have H' := aM H
        clear H
        have p8 : 0 ≤ (x11_1 : Int) := c3
        have q8 : x11_1 < (l0.length : Int) := c2
        obtain ⟨ad8, A8_2, c8_2, A8_3, c8_3, A8_4, c8_4, A8_5, c8_5, e8, hx8_0, hx8_1, hx8_2, hx8_3, hx8_4, hx8_5, hx8_6, hl8_2, hi8_2, hl8_3, hi8_3, hl8_4, hi8_4, hl8_5, hi8_5⟩ := at_T39 HR0.out x11_1 p8 q8
        clear c2 c3
        cases e8
        replace hx8_0 := cB HB.out hx8_0
        replace hx8_1 := cB HB.out hx8_1
        replace hx8_2 := cB HB.out hx8_2
        replace hx8_3 := cB HB.out hx8_3
        replace hx8_4 := cB HB.out hx8_4
        replace hx8_5 := cB HB.out hx8_5
        replace hx8_6 := cB HB.out hx8_6
        have HR8_2 := aM (Kd.C_below hi8_2 HB.out)
        have HR8_3 := aM (Kd.C_below hi8_3 HB.out)
        have HR8_4 := aM (Kd.C_below hi8_4 HB.out)
        have HR8_5 := aM (Kd.C_below hi8_5 HB.out)
        have HC8_2 := aM hl8_2
        have HC8_3 := aM hl8_3
        have HC8_4 := aM hl8_4
        have HC8_5 := aM hl8_5
        clear hi8_2 hl8_2 hi8_3 hl8_3 hi8_4 hl8_4 hi8_5 hl8_5
        replace p8 := eq_true p8
        replace q8 := eq_true q8
        go_wp2_with (first
         | ((with_reducible refine gate_dst (N := 5) rfl ?_); refine box_event ?hg (N := 5) ?hd (cs := #[.int .i64 0, .string ⟨#[]⟩, .slice none 0 0, .slice none 0 0, .slice none 0 0, .slice none 0 0, .int .i64 0]) (t := 39) ?hr ?_; (case hd => rfl); (case hg => rfl); (case hr => first | (go_simp; done) | (go_simp; rfl)); intro gb5 hg w23 hbox hb; have HB2 := aM hb; have GE5 : Aside0 (wr.heap.size ≤ gb5) := aM (Nat.le_of_eq hg.symm); have BK5 := aM hbox; clear hb hbox hg; obtain ⟨hcz5_0, hcz5_1, hcz5_2, hcz5_3, hcz5_4, hcz5_5, hcz5_6⟩ := cl7 BK5.out; obtain ⟨hfz5_0, hfz5_1, hfz5_2, hfz5_3, hfz5_4, hfz5_5, hfz5_6⟩ := fz7 BK5.out)
         | ((with_reducible refine gate_callee (f := 19) rfl ?_); refine goesL_ (some 16) rfl rfl Try.func19 (by kernel_rfl) rfl #[.agg #[.int .i64 ((rd_T39 l0 x11_1).f0), .string ((rd_T39 l0 x11_1).f1), .slice A8_2 ((rd_T39 l0 x11_1).f2).length c8_2, .slice A8_3 ((rd_T39 l0 x11_1).f3).length c8_3, .slice A8_4 ((rd_T39 l0 x11_1).f4).length c8_4, .slice A8_5 ((rd_T39 l0 x11_1).f5).length c8_5, .int .i64 ((rd_T39 l0 x11_1).f6)]] rfl gQ ?_; (with_reducible refine (impl_LineText.calls k1 ((rd_T39 l0 x11_1).f0) ((rd_T39 l0 x11_1).f1) _ _ ((rd_T39 l0 x11_1).f2) _ _ ((rd_T39 l0 x11_1).f3) _ _ ((rd_T39 l0 x11_1).f4) _ _ ((rd_T39 l0 x11_1).f5) ((rd_T39 l0 x11_1).f6) t155 _ ?side1 ?side2 ?side3 ?side4 ?side5 ?side6 ?side7 ?side8 A4.out).mono ?_); (case side1 => exact Kd.C_below HR8_2.out (by repeat (first | (with_reducible first | exact HB2.out | apply bA | apply bN | apply bD | refine below_set ?_ GE5.out) | exact HB2.out))); (case side2 => exact HC8_2.out); (case side3 => exact Kd.C_below HR8_3.out (by repeat (first | (with_reducible first | exact HB2.out | apply bA | apply bN | apply bD | refine below_set ?_ GE5.out) | exact HB2.out))); (case side4 => exact HC8_3.out); (case side5 => exact Kd.C_below HR8_4.out (by repeat (first | (with_reducible first | exact HB2.out | apply bA | apply bN | apply bD | refine below_set ?_ GE5.out) | exact HB2.out))); (case side6 => exact HC8_4.out); (case side7 => exact Kd.C_below HR8_5.out (by repeat (first | (with_reducible first | exact HB2.out | apply bA | apply bN | apply bD | refine below_set ?_ GE5.out) | exact HB2.out))); (case side8 => exact HC8_5.out); rintro e w24 ⟨rfl, hb⟩; refine ⟨_, rfl, ?_⟩; have n0_ := aM (below_step (by repeat (first | (with_reducible first | exact HB2.out | apply bA | apply bN | apply bD | refine below_set ?_ GE5.out) | exact HB2.out)) hb); clear HB2 hb hcz5_0 hcz5_1 hcz5_2 hcz5_3 hcz5_4 hcz5_5 hcz5_6 hfz5_0 hfz5_1 hfz5_2 hfz5_3 hfz5_4 hfz5_5 hfz5_6; have HB2 := n0_; clear n0_)
         | ((with_reducible refine gate_callee (f := 40) rfl ?_); refine goesL_ (some 18) rfl rfl Try.func40 (by kernel_rfl) rfl #[.pointer (some ⟨b8, 0, none⟩), .string (t155 ++ (⟨#[10]⟩ : ByteArray))] rfl gQ ?_; refine ((HD.out.below (by repeat (first | (with_reducible first | exact HB2.out | apply bA | apply bN | apply bD | refine below_set ?_ GE5.out) | exact HB2.out))).write C6.out (below_size (below_step HB.out (by repeat (first | (with_reducible first | exact HB2.out | apply bA | apply bN | apply bD | refine below_set ?_ GE5.out) | exact HB2.out))))).mono ?_; rintro e w25 ⟨rfl, hd, hb⟩; refine ⟨_, rfl, ?_⟩; have n0_ := aM ((below_step HB.out (by repeat (first | (with_reducible first | exact HB2.out | apply bA | apply bN | apply bD | refine below_set ?_ GE5.out) | exact HB2.out))).trans hb); have n1_ := aM hd; clear HB HB2 HD hb hd; have HB := n0_; have HD := n1_; clear n0_ n1_))
        go_roundg k1
        case measure => have := HK1.out; omega
        case rel => exact ⟨(x3_1 ++ (t155 ++ (⟨#[10]⟩ : ByteArray))), (wrap64 (x11_1 + 1)), rQ, H', ⟨by have := HK1.out; omega⟩, HD, HB⟩
       ·rw [if_neg c6] at H
        exact absurd H (by simp)
      ·rw [if_neg c5] at H
       exact absurd H (by simp)
     ·rw [if_neg c3] at H
      exact absurd H (by simp)
    ·rw [if_neg c2] at H
     have c2b0 : decide (x11_1 < (l0.length : Int)) = false := decide_eq_false c2
     clear c2
     obtain rfl := Option.some.inj H
     go_wp2_with ((with_reducible refine gate_callee (f := 41) rfl ?_); refine goesL_ (some 20) rfl rfl Try.func41 (by kernel_rfl) rfl #[.pointer (some ⟨b8, 0, none⟩)] rfl gQ ?_; refine (HD.out.string (below_size HB.out)).mono ?_; rintro e w7 ⟨rfl, hb⟩; refine ⟨_, rfl, ?_⟩; have n0_ := aM (HB.out.trans hb); clear HB HD; have HB := n0_; clear n0_ hb)
     go_ret
     exact ⟨eQ, HB.out⟩
 ·replace c7 := Bool.eq_false_iff.mpr c7
  subst c7
  have H1 : (some (⟨#[]⟩ : ByteArray)) = some r := by rw [if_neg (by decide)] at H; exact H
  clear H
  obtain rfl := Option.some.inj H1
  go_enter Try.func22, Try.ntmps22
  go_wp2_with (first | ((with_reducible refine gate_callee (f := 29) rfl ?_); refine goesL_ (some 7) rfl rfl Try.func29 (by kernel_rfl) rfl #[.slice A0 l0.length c0] rfl gQ ?_; (with_reducible refine (impl_validSource.calls k _ _ l0 false _ ?side1 ?side2 A7.out).mono ?_); (case side1 => repeat (first | exact HR0.out | (with_reducible first | refine cA ?_ _ | refine cN ?_ _ | refine cD ?_))); (case side2 => exact HC0.out); rintro e w8 ⟨rfl, hb⟩; refine ⟨_, rfl, ?_⟩; have n0_ := aM (below_step HB.out hb); clear HB hb; have HB := n0_; clear n0_))
  go_ret
  exact ⟨eQ, HB.out⟩

/-! ### laws_FnExactSourceText: function 5 -/
mutual
def laws_FnExactSourceText.j0 : Nat → List (S36) → Option (Bool)
 | 0, _ => none
 | k + 1, x0 => (laws_toFeatureLineS.f k x0).bind fun t412 => ((spec_SourceText.f k t412).bind fun t415 => ((laws_toFeatureLineS.f k x0).bind fun t416 => ((impl_SourceText.f k t416).bind fun t419 => (if t419.toList = t415.toList then (laws_FnExactSourceText.j1 k x0 t416) else (some false)))))
def laws_FnExactSourceText.j1 : Nat → List (S36) → List (S39) → Option (Bool)
 | 0, _, _ => none
 | k + 1, x0, x5 => (laws_toFeatureLineS.f k x0).bind fun t420 => ((laws_eqFeatureLineS.f k x5 t420).bind fun t423 => (if t423 = true then (some true) else (some false)))
end
def laws_FnExactSourceText.f (k : Nat) (l0 : List (S36)) : Option (Bool) := (laws_szFeatureLineS.f k l0 1048576).bind fun t411 => (if t411 < 0 then (some true) else (laws_FnExactSourceText.j0 k l0))
theorem laws_FnExactSourceText.mono_l : ∀ k, (∀ y0, LeO (laws_FnExactSourceText.j0 k y0) (laws_FnExactSourceText.j0 (k + 1) y0)) ∧ (∀ y0 y1, LeO (laws_FnExactSourceText.j1 k y0 y1) (laws_FnExactSourceText.j1 (k + 1) y0 y1))
 | 0 => ⟨fun _ r h => by simp [laws_FnExactSourceText.j0] at h, fun _ _ r h => by simp [laws_FnExactSourceText.j1] at h⟩
 | k + 1 => by
  obtain ⟨ih0, ih1⟩ := laws_FnExactSourceText.mono_l k
  refine ⟨?_, ?_⟩
  ·intro y0
   unfold laws_FnExactSourceText.j0
   repeat' first
   | (with_reducible exact ih0 _)
   | (with_reducible exact ih1 _ _)
   | (with_reducible exact impl_SourceText.mono _ _)
   | (with_reducible exact laws_eqFeatureLineS.mono _ _ _)
   | (with_reducible exact laws_szFeatureLineS.mono _ _ _)
   | (with_reducible exact laws_toFeatureLineS.mono _ _)
   | (with_reducible exact spec_SourceText.mono _ _)
   | (with_reducible exact LeO.refl _)
   | (with_reducible exact LeO.none _)
   | (with_reducible refine LeO.ite ?_ ?_)
   | (with_reducible refine LeO.bind ?_ (fun _ => ?_))
   | exact ih0 _
   | exact ih1 _ _
   | exact impl_SourceText.mono _ _
   | exact laws_eqFeatureLineS.mono _ _ _
   | exact laws_szFeatureLineS.mono _ _ _
   | exact laws_toFeatureLineS.mono _ _
   | exact spec_SourceText.mono _ _
   | exact LeO.none _
   | refine LeO.ite ?_ ?_
   | refine LeO.bind ?_ (fun _ => ?_)
  ·intro y0 y1
   unfold laws_FnExactSourceText.j1
   repeat' first
   | (with_reducible exact ih0 _)
   | (with_reducible exact ih1 _ _)
   | (with_reducible exact impl_SourceText.mono _ _)
   | (with_reducible exact laws_eqFeatureLineS.mono _ _ _)
   | (with_reducible exact laws_szFeatureLineS.mono _ _ _)
   | (with_reducible exact laws_toFeatureLineS.mono _ _)
   | (with_reducible exact spec_SourceText.mono _ _)
   | (with_reducible exact LeO.refl _)
   | (with_reducible exact LeO.none _)
   | (with_reducible refine LeO.ite ?_ ?_)
   | (with_reducible refine LeO.bind ?_ (fun _ => ?_))
   | exact ih0 _
   | exact ih1 _ _
   | exact impl_SourceText.mono _ _
   | exact laws_eqFeatureLineS.mono _ _ _
   | exact laws_szFeatureLineS.mono _ _ _
   | exact laws_toFeatureLineS.mono _ _
   | exact spec_SourceText.mono _ _
   | exact LeO.none _
   | refine LeO.ite ?_ ?_
   | refine LeO.bind ?_ (fun _ => ?_)
theorem laws_FnExactSourceText.mono : ∀ a0 k, LeO (laws_FnExactSourceText.f k a0) (laws_FnExactSourceText.f (k + 1) a0) := by
 intro a0 k
 obtain ⟨ih0, ih1⟩ := laws_FnExactSourceText.mono_l k
 unfold laws_FnExactSourceText.f
 repeat' first
   | (with_reducible exact ih0 _)
   | (with_reducible exact ih1 _ _)
   | (with_reducible exact impl_SourceText.mono _ _)
   | (with_reducible exact laws_eqFeatureLineS.mono _ _ _)
   | (with_reducible exact laws_szFeatureLineS.mono _ _ _)
   | (with_reducible exact laws_toFeatureLineS.mono _ _)
   | (with_reducible exact spec_SourceText.mono _ _)
   | (with_reducible exact LeO.refl _)
   | (with_reducible exact LeO.none _)
   | (with_reducible refine LeO.ite ?_ ?_)
   | (with_reducible refine LeO.bind ?_ (fun _ => ?_))
   | exact ih0 _
   | exact ih1 _ _
   | exact impl_SourceText.mono _ _
   | exact laws_eqFeatureLineS.mono _ _ _
   | exact laws_szFeatureLineS.mono _ _ _
   | exact laws_toFeatureLineS.mono _ _
   | exact spec_SourceText.mono _ _
   | exact LeO.none _
   | refine LeO.ite ?_ ?_
   | refine LeO.bind ?_ (fun _ => ?_)
set_option maxHeartbeats 8000000 in
set_option maxRecDepth 100000 in
theorem laws_FnExactSourceText.calls (k : Nat) (A0 : Option Addr) (c0 : Nat) (l0 : List (S36)) (r : Bool) (w : World) (hr0 : Kd.C k36 w A0 l0.length l0) (hc0 : l0.length ≤ c0) (h : laws_FnExactSourceText.f k l0 = some r) :
  Calls Try.prog 5 #[.slice A0 l0.length c0] w fun e w' => e = .returned (.bool r) ∧ Below w.heap.size w w' := by
 have HR0 := aM hr0
 have HC0 := aM hc0
 clear hr0 hc0
 have HB := aM (Below.refl w.heap.size w)
 have H : ((laws_szFeatureLineS.f k l0 1048576).bind fun t411 => (if t411 < 0 then (some true) else (laws_FnExactSourceText.j0 k l0))) = some r := h
 clear h
 replace H := Option.bind_eq_some_iff.mp H
 obtain ⟨t411, A20, H⟩ := H
 replace H : (if t411 < 0 then (some true) else (laws_FnExactSourceText.j0 k l0)) = some r := H
 have A2 := aM A20
 clear A20
 have HC3 := aM H
 clear H
 go_enter Try.func5, Try.ntmps5
 go_upto_if 11 with (first | ((with_reducible refine gate_callee (f := 7) rfl ?_); refine goesL_ (some 9) rfl rfl Try.func7 (by kernel_rfl) rfl #[.slice A0 l0.length c0, .int .i64 1048576] rfl gQ ?_; (with_reducible refine (laws_szFeatureLineS.calls k _ _ l0 1048576 t411 _ ?side1 ?side2 A2.out).mono ?_); (case side1 => repeat (first | exact HR0.out | (with_reducible first | refine cA ?_ _ | refine cN ?_ _ | refine cD ?_))); (case side2 => exact HC0.out); rintro e w4 ⟨rfl, hb⟩; refine ⟨_, rfl, ?_⟩; have n0_ := aM (below_step bQ hb); clear HB; have HB := n0_; clear n0_; (try clear hb); (try clear hb2); (try clear hk); (try clear hi)))
 (try simp only [Act.put, sI, sZ, sS])
 go_cut [] (fun wc => ∃ (kq : Nat), Aside0 (laws_FnExactSourceText.j0 kq l0 = some r) ∧ Aside0 (kq ≤ k) ∧ Aside0 (Below w.heap.size w wc))
 case first =>
  have H := HC3.out
  clear HC3
  by_cases c5 : t411 < 0
  ·rw [if_pos c5] at H
   have c5b0 : decide (t411 < 0) = true := decide_eq_true c5
   clear c5
   (first | rw [c5b0] | (simp only [i64_w, i32_w]; rw [c5b0]) | rw [c5b1] | rw [c5b2] | rw [c5b3] | rw [c5b4] | skip)
   obtain rfl := Option.some.inj H
   go_wp2
   go_ret
   exact ⟨eQ, bQ⟩
  ·rw [if_neg c5] at H
   have c5b0 : decide (t411 < 0) = false := decide_eq_false c5
   clear c5
   (first | rw [c5b0] | (simp only [i64_w, i32_w]; rw [c5b0]) | rw [c5b1] | rw [c5b2] | rw [c5b3] | rw [c5b4] | skip)
   have H' := aM H
   clear H
   go_wp2
   go_meet
   case rel => exact ⟨_, H', ⟨by first | omega | exact Nat.le_refl _⟩, ⟨bQ⟩⟩
 case rest =>
  clear HC3
  try clear p2
  try clear c5
  try clear c5b0
  try clear c5b1
  try clear c5b2
  obtain ⟨kq, HA, HJ2, HB⟩ := hcut
  cases kq with
  | zero => exact absurd HA.out (by simp [laws_FnExactSourceText.j0])
  | succ kj2 =>
   have H := HA.out
   clear HA
   simp only [laws_FnExactSourceText.j0] at H
   replace H := Option.bind_eq_some_iff.mp H
   obtain ⟨t412, A60, H⟩ := H
   replace H : ((spec_SourceText.f kj2 t412).bind fun t415 => ((laws_toFeatureLineS.f kj2 l0).bind fun t416 => ((impl_SourceText.f kj2 t416).bind fun t419 => (if t419.toList = t415.toList then (laws_FnExactSourceText.j1 kj2 l0 t416) else (some false))))) = some r := H
   have A6 := aM A60
   clear A60
   replace H := Option.bind_eq_some_iff.mp H
   obtain ⟨t415, A70, H⟩ := H
   replace H : ((laws_toFeatureLineS.f kj2 l0).bind fun t416 => ((impl_SourceText.f kj2 t416).bind fun t419 => (if t419.toList = t415.toList then (laws_FnExactSourceText.j1 kj2 l0 t416) else (some false)))) = some r := H
   have A7 := aM A70
   clear A70
   replace H := Option.bind_eq_some_iff.mp H
   obtain ⟨t416, A80, H⟩ := H
   replace H : ((impl_SourceText.f kj2 t416).bind fun t419 => (if t419.toList = t415.toList then (laws_FnExactSourceText.j1 kj2 l0 t416) else (some false))) = some r := H
   have A8 := aM A80
   clear A80
   replace H := Option.bind_eq_some_iff.mp H
   obtain ⟨t419, A90, H⟩ := H
   replace H : (if t419.toList = t415.toList then (laws_FnExactSourceText.j1 kj2 l0 t416) else (some false)) = some r := H
   have A9 := aM A90
   clear A90
   have HC10 := aM H
   clear H
   go_upto_if 21 with (first | ((with_reducible refine gate_callee (f := 9) rfl ?_); refine goesL_ (some 13) rfl rfl Try.func9 (by kernel_rfl) rfl #[.slice A0 l0.length c0] rfl gQ ?_; (with_reducible refine (laws_toFeatureLineS.calls kj2 _ _ l0 t412 _ ?side1 ?side2 A6.out).mono ?_); (case side1 => exact cQ HR0.out); (case side2 => exact HC0.out); rintro e w11 ⟨v413, rfl, ho0, hb⟩; refine ⟨_, rfl, ?_⟩; have n0_ := aM (Kd.S_lower ho0 (below_size bQ)); have n1_ := aM (below_step bQ hb); clear HB; have HO414 := n0_; have HB := n1_; clear n0_ n1_; (try clear hb); (try clear hb2); (try clear hk); (try clear hi); (try clear ho0); obtain ⟨Ao12, co12, eo12⟩ := Kd.S_slice HO414.out; subst eo12) | ((with_reducible refine gate_callee (f := 21) rfl ?_); refine goesL_ (some 14) rfl rfl Try.func21 (by kernel_rfl) rfl #[.slice Ao12 t412.length co12] rfl gQ ?_; (with_reducible refine (spec_SourceText.calls kj2 _ _ t412 t415 _ ?side1 ?side2 A7.out).mono ?_); (case side1 => repeat (first | exact (Kd.S_reads' HO414.out).2.2 | (with_reducible first | refine cA ?_ _ | refine cN ?_ _ | refine cD ?_))); (case side2 => exact (Kd.S_reads' HO414.out).2.1); rintro e w13 ⟨rfl, hb⟩; refine ⟨_, rfl, ?_⟩; have n0_ := aM (Kd.S_below (by (with_reducible repeat (first | apply Kd.S_alloc | apply Kd.S_drewN | apply Kd.S_drew)); exact HO414.out) hb); have n1_ := aM (below_step bQ hb); clear HO414; clear HB; have HO414 := n0_; have HB := n1_; clear n0_ n1_; (try clear hb); (try clear hb2); (try clear hk); (try clear hi)) | ((with_reducible refine gate_callee (f := 9) rfl ?_); refine goesL_ (some 16) rfl rfl Try.func9 (by kernel_rfl) rfl #[.slice A0 l0.length c0] rfl gQ ?_; (with_reducible refine (laws_toFeatureLineS.calls kj2 _ _ l0 t416 _ ?side1 ?side2 A8.out).mono ?_); (case side1 => exact cQ HR0.out); (case side2 => exact HC0.out); rintro e w14 ⟨v417, rfl, ho0, hb⟩; refine ⟨_, rfl, ?_⟩; have n0_ := aM (Kd.S_elder' (by (with_reducible repeat (first | apply Kd.S_alloc | apply Kd.S_drewN | apply Kd.S_drew)); exact HO414.out) (Kd.S_base ho0) hb); have n1_ := aM (Kd.S_lower (Kd.S_new' ho0 (Kd.S_lt (by (with_reducible repeat (first | apply Kd.S_alloc | apply Kd.S_drewN | apply Kd.S_drew)); exact HO414.out))) (below_size bQ)); have n2_ := aM (below_step bQ hb); clear HO414; clear HB; have HO414 := n0_; have HO418 := n1_; have HB := n2_; clear n0_ n1_ n2_; (try clear hb); (try clear hb2); (try clear hk); (try clear hi); (try clear ho0); obtain ⟨Ao15, co15, eo15⟩ := Kd.S_slice HO418.out; subst eo15) | ((with_reducible refine gate_callee (f := 22) rfl ?_); refine goesL_ (some 18) rfl rfl Try.func22 (by kernel_rfl) rfl #[.slice Ao15 t416.length co15] rfl gQ ?_; (with_reducible refine (impl_SourceText.calls kj2 _ _ t416 t419 _ ?side1 ?side2 A9.out).mono ?_); (case side1 => repeat (first | exact (Kd.S_reads' HO418.out).2.2 | (with_reducible first | refine cA ?_ _ | refine cN ?_ _ | refine cD ?_))); (case side2 => exact (Kd.S_reads' HO418.out).2.1); rintro e w16 ⟨rfl, hb⟩; refine ⟨_, rfl, ?_⟩; have n0_ := aM (Kd.S_below (by (with_reducible repeat (first | apply Kd.S_alloc | apply Kd.S_drewN | apply Kd.S_drew)); exact HO414.out) hb); have n1_ := aM (Kd.S_below (by (with_reducible repeat (first | apply Kd.S_alloc | apply Kd.S_drewN | apply Kd.S_drew)); exact HO418.out) hb); have n2_ := aM (below_step bQ hb); clear HO414; clear HO418; clear HB; have HO414 := n0_; have HO418 := n1_; have HB := n2_; clear n0_ n1_ n2_; (try clear hb); (try clear hb2); (try clear hk); (try clear hi)))
   (try simp only [Act.put, sI, sZ, sS])
   go_cut [] (fun wc => ∃ (kq : Nat), Aside0 (laws_FnExactSourceText.j1 kq l0 t416 = some r) ∧ Aside0 (kq ≤ kj2) ∧ Aside0 (Kd.S k39 39 wc w.heap.size (fun _ => True) (.slice Ao15 t416.length co15) t416) ∧ Aside0 (Below w.heap.size w wc))
   case first =>
    have H := HC10.out
    clear HC10
    by_cases c17 : t419.toList = t415.toList
    ·rw [if_pos c17] at H
     have c17b0 : (t419.toList == t415.toList) = true := beq_iff_eq.mpr c17
     have c17b1 : (t419.toList != t415.toList) = false := bne_eq_false_iff_eq.mpr c17
     clear c17
     (first | rw [c17b0] | (simp only [i64_w, i32_w]; rw [c17b0]) | rw [c17b1] | rw [c17b2] | rw [c17b3] | rw [c17b4] | skip)
     have H' := aM H
     clear H
     go_wp2
     go_meet
     case rel => exact ⟨_, H', ⟨by have := HJ2.out; first | omega | exact Nat.le_refl _⟩, ⟨by (with_reducible repeat (first | apply Kd.S_alloc | apply Kd.S_drewN | apply Kd.S_drew)); exact Kd.S_mono HO418.out (fun _ hk => trivial)⟩, ⟨bQ⟩⟩
    ·rw [if_neg c17] at H
     have c17b0 : (t419.toList == t415.toList) = false := beq_eq_false_iff_ne.mpr c17
     have c17b1 : (t419.toList != t415.toList) = true := bne_iff_ne.mpr c17
     (first | rw [c17b0] | (simp only [i64_w, i32_w]; rw [c17b0]) | rw [c17b1] | rw [c17b2] | rw [c17b3] | rw [c17b4] | skip)
     obtain rfl := Option.some.inj H
     go_wp2
     go_ret
     exact ⟨eQ, bQ⟩
   case rest =>
    clear HC10
    try clear c1
    try clear c2
    try clear p2
    try clear c5
    try clear c5b0
    try clear c5b1
    try clear c5b2
    try clear c7
    try clear c9
    try clear c17
    try clear c17b0
    try clear c17b1
    try clear c17b2
    try clear p2
    obtain ⟨kq, HA, HJ9, HO_5, HB⟩ := hcut
    cases kq with
    | zero => exact absurd HA.out (by simp [laws_FnExactSourceText.j1])
    | succ kj9 =>
     have H := HA.out
     clear HA
     simp only [laws_FnExactSourceText.j1] at H
     replace H := Option.bind_eq_some_iff.mp H
     obtain ⟨t420, A180, H⟩ := H
     replace H : ((laws_eqFeatureLineS.f kj9 t416 t420).bind fun t423 => (if t423 = true then (some true) else (some false))) = some r := H
     have A18 := aM A180
     clear A180
     replace H := Option.bind_eq_some_iff.mp H
     obtain ⟨t423, A190, H⟩ := H
     replace H : (if t423 = true then (some true) else (some false)) = some r := H
     have A19 := aM A190
     clear A190
     by_cases c20 : t423 = true
     ·subst c20
      have H1 : (some true) = some r := by rw [if_pos rfl] at H; exact H
      clear H
      have H := H1
      clear H1
      obtain rfl := Option.some.inj H
      go_wp2_with (first | ((with_reducible refine gate_callee (f := 9) rfl ?_); refine goesL_ (some 24) rfl rfl Try.func9 (by kernel_rfl) rfl #[.slice A0 l0.length c0] rfl gQ ?_; (with_reducible refine (laws_toFeatureLineS.calls kj9 _ _ l0 t420 _ ?side1 ?side2 A18.out).mono ?_); (case side1 => exact cQ HR0.out); (case side2 => exact HC0.out); rintro e w21 ⟨v421, rfl, ho0, hb⟩; refine ⟨_, rfl, ?_⟩; have n0_ := aM (Kd.S_elder' (by (with_reducible repeat (first | apply Kd.S_alloc | apply Kd.S_drewN | apply Kd.S_drew)); exact HO_5.out) (Kd.S_base ho0) hb); have n1_ := aM (Kd.S_lower (Kd.S_new' ho0 (Kd.S_lt (by (with_reducible repeat (first | apply Kd.S_alloc | apply Kd.S_drewN | apply Kd.S_drew)); exact HO_5.out))) (below_size bQ)); have n2_ := aM (below_step bQ hb); clear HO_5; clear HB; have HO_5 := n0_; have HO422 := n1_; have HB := n2_; clear n0_ n1_ n2_; (try clear hb); (try clear hb2); (try clear hk); (try clear hi); (try clear ho0); obtain ⟨Ao22, co22, eo22⟩ := Kd.S_slice HO422.out; subst eo22) | ((with_reducible refine gate_callee (f := 12) rfl ?_); refine goesL_ (some 25) rfl rfl Try.func12 (by kernel_rfl) rfl #[.slice Ao15 t416.length co15, .slice Ao22 t420.length co22] rfl gQ ?_; (with_reducible refine (laws_eqFeatureLineS.calls kj9 _ _ t416 _ _ t420 true _ ?side1 ?side2 ?side3 ?side4 A19.out).mono ?_); (case side1 => repeat (first | exact (Kd.S_reads' HO_5.out).2.2 | (with_reducible first | refine cA ?_ _ | refine cN ?_ _ | refine cD ?_))); (case side2 => exact (Kd.S_reads' HO_5.out).2.1); (case side3 => repeat (first | exact (Kd.S_reads' HO422.out).2.2 | (with_reducible first | refine cA ?_ _ | refine cN ?_ _ | refine cD ?_))); (case side4 => exact (Kd.S_reads' HO422.out).2.1); rintro e w23 ⟨rfl, hb⟩; refine ⟨_, rfl, ?_⟩; have n0_ := aM (Kd.S_below (by (with_reducible repeat (first | apply Kd.S_alloc | apply Kd.S_drewN | apply Kd.S_drew)); exact HO_5.out) hb); have n1_ := aM (Kd.S_below (by (with_reducible repeat (first | apply Kd.S_alloc | apply Kd.S_drewN | apply Kd.S_drew)); exact HO422.out) hb); have n2_ := aM (below_step bQ hb); clear HO_5; clear HO422; clear HB; have HO_5 := n0_; have HO422 := n1_; have HB := n2_; clear n0_ n1_ n2_; (try clear hb); (try clear hb2); (try clear hk); (try clear hi)))
      go_ret
      exact ⟨eQ, bQ⟩
     ·replace c20 := Bool.eq_false_iff.mpr c20
      subst c20
      have H1 : (some false) = some r := by rw [if_neg (show ¬ (false = true) by decide)] at H; exact H
      clear H
      have H := H1
      clear H1
      obtain rfl := Option.some.inj H
      go_wp2_with (first | ((with_reducible refine gate_callee (f := 9) rfl ?_); refine goesL_ (some 24) rfl rfl Try.func9 (by kernel_rfl) rfl #[.slice A0 l0.length c0] rfl gQ ?_; (with_reducible refine (laws_toFeatureLineS.calls kj9 _ _ l0 t420 _ ?side1 ?side2 A18.out).mono ?_); (case side1 => exact cQ HR0.out); (case side2 => exact HC0.out); rintro e w24 ⟨v421, rfl, ho0, hb⟩; refine ⟨_, rfl, ?_⟩; have n0_ := aM (Kd.S_elder' (by (with_reducible repeat (first | apply Kd.S_alloc | apply Kd.S_drewN | apply Kd.S_drew)); exact HO_5.out) (Kd.S_base ho0) hb); have n1_ := aM (Kd.S_lower (Kd.S_new' ho0 (Kd.S_lt (by (with_reducible repeat (first | apply Kd.S_alloc | apply Kd.S_drewN | apply Kd.S_drew)); exact HO_5.out))) (below_size bQ)); have n2_ := aM (below_step bQ hb); clear HO_5; clear HB; have HO_5 := n0_; have HO422 := n1_; have HB := n2_; clear n0_ n1_ n2_; (try clear hb); (try clear hb2); (try clear hk); (try clear hi); (try clear ho0); obtain ⟨Ao25, co25, eo25⟩ := Kd.S_slice HO422.out; subst eo25) | ((with_reducible refine gate_callee (f := 12) rfl ?_); refine goesL_ (some 25) rfl rfl Try.func12 (by kernel_rfl) rfl #[.slice Ao15 t416.length co15, .slice Ao25 t420.length co25] rfl gQ ?_; (with_reducible refine (laws_eqFeatureLineS.calls kj9 _ _ t416 _ _ t420 false _ ?side1 ?side2 ?side3 ?side4 A19.out).mono ?_); (case side1 => repeat (first | exact (Kd.S_reads' HO_5.out).2.2 | (with_reducible first | refine cA ?_ _ | refine cN ?_ _ | refine cD ?_))); (case side2 => exact (Kd.S_reads' HO_5.out).2.1); (case side3 => repeat (first | exact (Kd.S_reads' HO422.out).2.2 | (with_reducible first | refine cA ?_ _ | refine cN ?_ _ | refine cD ?_))); (case side4 => exact (Kd.S_reads' HO422.out).2.1); rintro e w26 ⟨rfl, hb⟩; refine ⟨_, rfl, ?_⟩; have n0_ := aM (Kd.S_below (by (with_reducible repeat (first | apply Kd.S_alloc | apply Kd.S_drewN | apply Kd.S_drew)); exact HO_5.out) hb); have n1_ := aM (Kd.S_below (by (with_reducible repeat (first | apply Kd.S_alloc | apply Kd.S_drewN | apply Kd.S_drew)); exact HO422.out) hb); have n2_ := aM (below_step bQ hb); clear HO_5; clear HO422; clear HB; have HO_5 := n0_; have HO422 := n1_; have HB := n2_; clear n0_ n1_ n2_; (try clear hb); (try clear hb2); (try clear hk); (try clear hi)))
      go_ret
      exact ⟨eQ, bQ⟩

end Go.Proofs.Ytfabhfdjabehpaa.QFnExactSourceText
