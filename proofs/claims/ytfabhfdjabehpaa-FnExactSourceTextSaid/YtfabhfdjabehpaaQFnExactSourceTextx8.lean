/- What some Go functions answer, each as a Lean function, and that the machine answers so: written by a program of this session out of the translation. -/
import Derived.Test.YtfabhfdjabehpaaQFnExactSourceTextx0
import Derived.Test.YtfabhfdjabehpaaQFnExactSourceTextx7
namespace Go.Proofs.Ytfabhfdjabehpaa.QFnExactSourceText
open Go.RowKit Go.Proofs.YtfabhfdjabehpaaW.PrintWords Go.Proofs.YtfabhfdjabehpaaW.PrintLast Go.Proofs.YtfabhfdjabehpaaW.PrintMore Go.Proofs.Ytfabhfdjabehpaa.Rp
attribute [local go_sem] max2_int min2_int max_two min_two max_three min_three max_four min_four   -- for this text's walks alone
set_option linter.unusedVariables false
set_option linter.unusedSimpArgs false

/-! ### slices_ContainsFunc_string_string_by_impl_areItems_1: function 76 -/
def slices_ContainsFunc_string_string_by_impl_areItems_1.f (k : Nat) (l0 : List ByteArray)  : Option (Bool) := (slices_IndexFunc_string_string_by_impl_areItems_1.f k l0).bind fun t305 => (some (decide (t305 ≥ 0)))
theorem slices_ContainsFunc_string_string_by_impl_areItems_1.mono : ∀ a0 k, LeO (slices_ContainsFunc_string_string_by_impl_areItems_1.f k a0) (slices_ContainsFunc_string_string_by_impl_areItems_1.f (k + 1) a0) := by
 intro a0 k
 unfold slices_ContainsFunc_string_string_by_impl_areItems_1.f
 repeat' first
   | (with_reducible exact slices_IndexFunc_string_string_by_impl_areItems_1.mono _ _)
   | (with_reducible exact LeO.refl _)
   | (with_reducible exact LeO.none _)
   | (with_reducible refine LeO.ite ?_ ?_)
   | (with_reducible refine LeO.bind ?_ (fun _ => ?_))
   | exact slices_IndexFunc_string_string_by_impl_areItems_1.mono _ _
   | exact LeO.none _
   | refine LeO.ite ?_ ?_
   | refine LeO.bind ?_ (fun _ => ?_)
set_option maxHeartbeats 8000000 in
set_option maxRecDepth 100000 in
theorem slices_ContainsFunc_string_string_by_impl_areItems_1.calls (k : Nat) (A0 : Option Addr) (c0 : Nat) (l0 : List ByteArray)  (r : Bool) (w : World) (hr0 : Kd.C Kd.string w A0 l0.length l0) (hc0 : l0.length ≤ c0) (h : slices_ContainsFunc_string_string_by_impl_areItems_1.f k l0 = some r) :
  Calls Try.prog 76 #[.slice A0 l0.length c0, .func (.func 77) #[] #[]] w fun e w' => e = .returned (.bool r) ∧ Below w.heap.size w w' := by
 have HR0 := aM hr0
 have HC0 := aM hc0
 clear hr0 hc0
 have HB := aM (Below.refl w.heap.size w)
 have H : ((slices_IndexFunc_string_string_by_impl_areItems_1.f k l0).bind fun t305 => (some (decide (t305 ≥ 0)))) = some r := h
 clear h
 replace H := Option.bind_eq_some_iff.mp H
 obtain ⟨t305, A30, H⟩ := H
 replace H : (some (decide (t305 ≥ 0))) = some r := H
 have A3 := aM A30
 clear A30
 obtain rfl := Option.some.inj H
 go_enter Try.func76, Try.ntmps76
 go_wp2_with (first | ((with_reducible refine gate_callee (f := 69) rfl ?_); refine goesL_ (some 7) rfl rfl Try.func69 (by kernel_rfl) rfl #[.slice A0 l0.length c0, .func (.func 77) #[] #[]] rfl gQ ?_; (with_reducible refine (slices_IndexFunc_string_string_by_impl_areItems_1.calls k _ _ l0  t305 _ ?side1 ?side2 A3.out).mono ?_); (case side1 => repeat (first | exact HR0.out | (with_reducible first | refine cA ?_ _ | refine cN ?_ _ | refine cD ?_))); (case side2 => exact HC0.out); rintro e w4 ⟨rfl, hb⟩; refine ⟨_, rfl, ?_⟩; have n0_ := aM (below_step bQ hb); clear HB; have HB := n0_; clear n0_; (try clear hb); (try clear hb2); (try clear hk); (try clear hi)))
 go_ret
 exact ⟨eQ, bQ⟩

/-! ### impl_areItems: function 60 -/
def impl_areItems.f (k : Nat) (l0 : List ByteArray) (a1 : Int) (a2 : Int) : Option (Bool) := if (l0.length : Int) ≥ a1 then (if (l0.length : Int) ≤ a2 then ((slices_ContainsFunc_string_string_by_impl_areItems_1.f k l0).bind fun t306 => (some (!t306))) else (some false)) else (some false)
theorem impl_areItems.mono : ∀ a0 a1 a2 k, LeO (impl_areItems.f k a0 a1 a2) (impl_areItems.f (k + 1) a0 a1 a2) := by
 intro a0 a1 a2 k
 unfold impl_areItems.f
 repeat' first
   | (with_reducible exact slices_ContainsFunc_string_string_by_impl_areItems_1.mono _ _)
   | (with_reducible exact LeO.refl _)
   | (with_reducible exact LeO.none _)
   | (with_reducible refine LeO.ite ?_ ?_)
   | (with_reducible refine LeO.bind ?_ (fun _ => ?_))
   | exact slices_ContainsFunc_string_string_by_impl_areItems_1.mono _ _
   | exact LeO.none _
   | refine LeO.ite ?_ ?_
   | refine LeO.bind ?_ (fun _ => ?_)
set_option maxHeartbeats 8000000 in
set_option maxRecDepth 100000 in
theorem impl_areItems.calls (k : Nat) (A0 : Option Addr) (c0 : Nat) (l0 : List ByteArray) (a1 : Int) (a2 : Int) (r : Bool) (w : World) (hr0 : Kd.C Kd.string w A0 l0.length l0) (hc0 : l0.length ≤ c0) (h : impl_areItems.f k l0 a1 a2 = some r) :
  Calls Try.prog 60 #[.slice A0 l0.length c0, .int .i64 a1, .int .i64 a2] w fun e w' => e = .returned (.bool r) ∧ Below w.heap.size w w' := by
 have HR0 := aM hr0
 have HC0 := aM hc0
 clear hr0 hc0
 have HB := aM (Below.refl w.heap.size w)
 have H : (if (l0.length : Int) ≥ a1 then (if (l0.length : Int) ≤ a2 then ((slices_ContainsFunc_string_string_by_impl_areItems_1.f k l0).bind fun t306 => (some (!t306))) else (some false)) else (some false)) = some r := h
 clear h
 by_cases c4 : (l0.length : Int) ≥ a1
 ·rw [if_pos c4] at H
  have c4b0 : decide (a1 ≤ (l0.length : Int)) = true := decide_eq_true c4
  clear c4
  by_cases c5 : (l0.length : Int) ≤ a2
  ·rw [if_pos c5] at H
   have c5b0 : decide ((l0.length : Int) ≤ a2) = true := decide_eq_true c5
   clear c5
   replace H := Option.bind_eq_some_iff.mp H
   obtain ⟨t306, A60, H⟩ := H
   replace H : (some (!t306)) = some r := H
   have A6 := aM A60
   clear A60
   obtain rfl := Option.some.inj H
   go_enter Try.func60, Try.ntmps60
   go_wp2_with (first | (go_at_call 76; (with_reducible refine (slices_ContainsFunc_string_string_by_impl_areItems_1.calls k _ _ l0  t306 _ ?side1 ?side2 A6.out).mono ?_); (case side1 => repeat (first | exact HR0.out | (with_reducible first | refine cA ?_ _ | refine cN ?_ _ | refine cD ?_))); (case side2 => exact HC0.out); rintro e w7 ⟨rfl, hb⟩; have n0_ := aM (below_step bQ hb); clear HB; have HB := n0_; clear n0_; (try clear hb); (try clear hb2); (try clear hk); (try clear hi)))
   go_ret
   exact ⟨eQ, bQ⟩
  ·rw [if_neg c5] at H
   have c5b0 : decide ((l0.length : Int) ≤ a2) = false := decide_eq_false c5
   clear c5
   obtain rfl := Option.some.inj H
   go_enter Try.func60, Try.ntmps60
   go_wp2
   go_ret
   exact ⟨eQ, bQ⟩
 ·rw [if_neg c4] at H
  have c4b0 : decide (a1 ≤ (l0.length : Int)) = false := decide_eq_false c4
  clear c4
  obtain rfl := Option.some.inj H
  go_enter Try.func60, Try.ntmps60
  go_wp2
  go_ret
  exact ⟨eQ, bQ⟩

/-! ### impl_validJoinLine_1: function 79 -/
def impl_validJoinLine_1.f (k : Nat) (a0 : ByteArray) : Option (Bool) := if a0.toList = ([45] : List UInt8) then (some false) else ((impl_IsName.f k a0).bind fun t307 => (some (!t307)))
theorem impl_validJoinLine_1.mono : ∀ a0 k, LeO (impl_validJoinLine_1.f k a0) (impl_validJoinLine_1.f (k + 1) a0) := by
 intro a0 k
 unfold impl_validJoinLine_1.f
 repeat' first
   | (with_reducible exact impl_IsName.mono _ _)
   | (with_reducible exact LeO.refl _)
   | (with_reducible exact LeO.none _)
   | (with_reducible refine LeO.ite ?_ ?_)
   | (with_reducible refine LeO.bind ?_ (fun _ => ?_))
   | exact impl_IsName.mono _ _
   | exact LeO.none _
   | refine LeO.ite ?_ ?_
   | refine LeO.bind ?_ (fun _ => ?_)
set_option maxHeartbeats 8000000 in
set_option maxRecDepth 100000 in
theorem impl_validJoinLine_1.calls (k : Nat) (a0 : ByteArray) (r : Bool) (w : World) (h : impl_validJoinLine_1.f k a0 = some r) :
  Calls Try.prog 79 #[.string a0] w fun e w' => e = .returned (.bool r) ∧ Drawn0 w w' := by
 have H : (if a0.toList = ([45] : List UInt8) then (some false) else ((impl_IsName.f k a0).bind fun t307 => (some (!t307)))) = some r := h
 clear h
 by_cases c2 : a0.toList = ([45] : List UInt8)
 ·rw [if_pos c2] at H
  have c2b0 : (a0.toList == ([45] : List UInt8)) = true := beq_iff_eq.mpr c2
  have c2b1 : (a0.toList != ([45] : List UInt8)) = false := bne_eq_false_iff_eq.mpr c2
  clear c2
  obtain rfl := Option.some.inj H
  go_enter Try.func79, Try.ntmps79
  go_wp2
  go_ret
  exact ⟨rQ, by repeat (first | exact Drawn0.refl _ | apply Drawn0.step)⟩
 ·rw [if_neg c2] at H
  have c2b0 : (a0.toList == ([45] : List UInt8)) = false := beq_eq_false_iff_ne.mpr c2
  have c2b1 : (a0.toList != ([45] : List UInt8)) = true := bne_iff_ne.mpr c2
  replace H := Option.bind_eq_some_iff.mp H
  obtain ⟨t307, A30, H⟩ := H
  replace H : (some (!t307)) = some r := H
  have A3 := aM A30
  clear A30
  obtain rfl := Option.some.inj H
  go_enter Try.func79, Try.ntmps79
  go_wp2_with (first | (go_at_call 59; (with_reducible refine (impl_IsName.calls k a0 t307 _ A3.out).mono ?_); rintro e w' ⟨rfl, ⟨nd, rfl⟩⟩))
  go_ret
  exact ⟨rQ, by repeat (first | exact Drawn0.refl _ | apply Drawn0.step)⟩

/-! ### slices_IndexFunc_string_string_by_impl_validJoinLine_1: function 69 -/
def slices_IndexFunc_string_string_by_impl_validJoinLine_1.l0 : Nat → List ByteArray → Int → Int → Option (Int)
 | 0, _, _, _ => none
 | k + 1, x0, x7, x8 => if x8 < x7 then (if 0 ≤ x8 then (if x8 < (x0.length : Int) then ((impl_validJoinLine_1.f k (rdOf ByteArray.empty x0 x8)).bind fun t309 => (if t309 = true then (some x8) else (slices_IndexFunc_string_string_by_impl_validJoinLine_1.l0 k x0 x7 (wrap64 (x8 + 1))))) else (none)) else (none)) else (some (-1))
def slices_IndexFunc_string_string_by_impl_validJoinLine_1.f (k : Nat) (l0 : List ByteArray)  : Option (Int) := slices_IndexFunc_string_string_by_impl_validJoinLine_1.l0 k l0 (l0.length : Int) 0
theorem slices_IndexFunc_string_string_by_impl_validJoinLine_1.mono_l : ∀ k, (∀ y0 y1 y2, LeO (slices_IndexFunc_string_string_by_impl_validJoinLine_1.l0 k y0 y1 y2) (slices_IndexFunc_string_string_by_impl_validJoinLine_1.l0 (k + 1) y0 y1 y2))
 | 0 => fun _ _ _ r h => by simp [slices_IndexFunc_string_string_by_impl_validJoinLine_1.l0] at h
 | k + 1 => by
  have ih0 := slices_IndexFunc_string_string_by_impl_validJoinLine_1.mono_l k
  ·intro y0 y1 y2
   unfold slices_IndexFunc_string_string_by_impl_validJoinLine_1.l0
   repeat' first
   | (with_reducible exact ih0 _ _ _)
   | (with_reducible exact impl_validJoinLine_1.mono _ _)
   | (with_reducible exact LeO.refl _)
   | (with_reducible exact LeO.none _)
   | (with_reducible refine LeO.ite ?_ ?_)
   | (with_reducible refine LeO.bind ?_ (fun _ => ?_))
   | exact ih0 _ _ _
   | exact impl_validJoinLine_1.mono _ _
   | exact LeO.none _
   | refine LeO.ite ?_ ?_
   | refine LeO.bind ?_ (fun _ => ?_)
theorem slices_IndexFunc_string_string_by_impl_validJoinLine_1.mono : ∀ a0 k, LeO (slices_IndexFunc_string_string_by_impl_validJoinLine_1.f k a0) (slices_IndexFunc_string_string_by_impl_validJoinLine_1.f (k + 1) a0) := by
 intro a0 k
 have ih0 := slices_IndexFunc_string_string_by_impl_validJoinLine_1.mono_l k
 unfold slices_IndexFunc_string_string_by_impl_validJoinLine_1.f
 repeat' first
   | (with_reducible exact ih0 _ _ _)
   | (with_reducible exact impl_validJoinLine_1.mono _ _)
   | (with_reducible exact LeO.refl _)
   | (with_reducible exact LeO.none _)
   | (with_reducible refine LeO.ite ?_ ?_)
   | (with_reducible refine LeO.bind ?_ (fun _ => ?_))
   | exact ih0 _ _ _
   | exact impl_validJoinLine_1.mono _ _
   | exact LeO.none _
   | refine LeO.ite ?_ ?_
   | refine LeO.bind ?_ (fun _ => ?_)
set_option maxHeartbeats 8000000 in
set_option maxRecDepth 100000 in
theorem slices_IndexFunc_string_string_by_impl_validJoinLine_1.calls (k : Nat) (A0 : Option Addr) (c0 : Nat) (l0 : List ByteArray)  (r : Int) (w : World) (hr0 : Kd.C Kd.string w A0 l0.length l0) (hc0 : l0.length ≤ c0) (h : slices_IndexFunc_string_string_by_impl_validJoinLine_1.f k l0 = some r) :
  Calls Try.prog 69 #[.slice A0 l0.length c0, .func (.func 79) #[] #[]] w fun e w' => e = .returned (.int .i64 r) ∧ Below w.heap.size w w' := by
 have HR0 := aM hr0
 have HC0 := aM hc0
 clear hr0 hc0
 have HB := aM (Below.refl w.heap.size w)
 have H : (slices_IndexFunc_string_string_by_impl_validJoinLine_1.l0 k l0 (l0.length : Int) 0) = some r := h
 clear h
 have H' := aM H
 clear H
 go_enter Try.func69, Try.ntmps69
 go_wp2
 go_loopg [8] k (fun kq v8 w' => ∃ (x8_1 : Int), v8 = .int .i64 x8_1 ∧ Aside0 (slices_IndexFunc_string_string_by_impl_validJoinLine_1.l0 kq l0 (l0.length : Int) x8_1 = some r) ∧ Aside0 (kq ≤ k) ∧ Aside0 (Below w.heap.size w w'))
 case atStart => exact ⟨(0), rQ, H', ⟨Nat.le_refl _⟩, ⟨bQ⟩⟩
 case round =>
  clear H'
  try clear p2
  obtain ⟨x8_1, rfl, HA, HK1, HB⟩ := hrel
  cases gk with
  | zero => exact absurd HA.out (by simp [slices_IndexFunc_string_string_by_impl_validJoinLine_1.l0])
  | succ k1 =>
   have H := HA.out
   clear HA
   simp only [slices_IndexFunc_string_string_by_impl_validJoinLine_1.l0] at H
   by_cases c3 : x8_1 < (l0.length : Int)
   ·rw [if_pos c3] at H
    have c3b0 : decide (x8_1 < (l0.length : Int)) = true := decide_eq_true c3
    clear c3
    by_cases c4 : 0 ≤ x8_1
    ·rw [if_pos c4] at H
     have c4b0 : decide (0 ≤ x8_1) = true := decide_eq_true c4
     clear c4
     by_cases c5 : x8_1 < (l0.length : Int)
     ·rw [if_pos c5] at H
      have c5b0 : decide (x8_1 < (l0.length : Int)) = true := decide_eq_true c5
      clear c5
      replace H := Option.bind_eq_some_iff.mp H
      obtain ⟨t309, A60, H⟩ := H
      replace H : (if t309 = true then (some x8_1) else (slices_IndexFunc_string_string_by_impl_validJoinLine_1.l0 k1 l0 (l0.length : Int) (wrap64 (x8_1 + 1)))) = some r := H
      have A6 := aM A60
      clear A60
      by_cases c7 : t309 = true
      ·subst c7
       have H1 : (some x8_1) = some r := by rw [if_pos rfl] at H; exact H
       clear H
       have H := H1
       clear H1
       obtain rfl := Option.some.inj H
       have p308 : 0 ≤ (x8_1 : Int) := dA
       have q308 : x8_1 < (l0.length : Int) := dA
       obtain ⟨ad308, e308, hx308_0⟩ := Kd.at_string HR0.out x8_1 p308 q308
       cases e308
       replace hx308_0 := cB HB.out hx308_0
       replace p308 := eq_true p308
       replace q308 := eq_true q308
       go_wp2_with (first | (go_at_call 79; (with_reducible refine (impl_validJoinLine_1.calls k1 (rdOf ByteArray.empty l0 x8_1) true _ A6.out).mono ?_); rintro e w' ⟨rfl, ⟨nd, rfl⟩⟩))
       go_ret
       exact ⟨eQ, bQ⟩
      ·replace c7 := Bool.eq_false_iff.mpr c7
       subst c7
       have H1 : (slices_IndexFunc_string_string_by_impl_validJoinLine_1.l0 k1 l0 (l0.length : Int) (wrap64 (x8_1 + 1))) = some r := by rw [if_neg (show ¬ (false = true) by decide)] at H; exact H
       clear H
       have H := H1
       clear H1
       have H' := aM H
       clear H
       have p308 : 0 ≤ (x8_1 : Int) := dA
       have q308 : x8_1 < (l0.length : Int) := dA
       obtain ⟨ad308, e308, hx308_0⟩ := Kd.at_string HR0.out x8_1 p308 q308
       cases e308
       replace hx308_0 := cB HB.out hx308_0
       replace p308 := eq_true p308
       replace q308 := eq_true q308
       go_wp2_with (first | (go_at_call 79; (with_reducible refine (impl_validJoinLine_1.calls k1 (rdOf ByteArray.empty l0 x8_1) false _ A6.out).mono ?_); rintro e w' ⟨rfl, ⟨nd, rfl⟩⟩))
       go_roundg k1
       case measure => have := HK1.out; omega
       case rel => exact ⟨(wrap64 (x8_1 + 1)), rQ, H', ⟨by have := HK1.out; omega⟩, ⟨bQ⟩⟩
     ·rw [if_neg c5] at H
      exact absurd H (by simp)
    ·rw [if_neg c4] at H
     exact absurd H (by simp)
   ·rw [if_neg c3] at H
    have c3b0 : decide (x8_1 < (l0.length : Int)) = false := decide_eq_false c3
    clear c3
    obtain rfl := Option.some.inj H
    go_wp2
    go_ret
    exact ⟨eQ, bQ⟩

/-! ### slices_ContainsFunc_string_string_by_impl_validJoinLine_1: function 76 -/
def slices_ContainsFunc_string_string_by_impl_validJoinLine_1.f (k : Nat) (l0 : List ByteArray)  : Option (Bool) := (slices_IndexFunc_string_string_by_impl_validJoinLine_1.f k l0).bind fun t310 => (some (decide (t310 ≥ 0)))
theorem slices_ContainsFunc_string_string_by_impl_validJoinLine_1.mono : ∀ a0 k, LeO (slices_ContainsFunc_string_string_by_impl_validJoinLine_1.f k a0) (slices_ContainsFunc_string_string_by_impl_validJoinLine_1.f (k + 1) a0) := by
 intro a0 k
 unfold slices_ContainsFunc_string_string_by_impl_validJoinLine_1.f
 repeat' first
   | (with_reducible exact slices_IndexFunc_string_string_by_impl_validJoinLine_1.mono _ _)
   | (with_reducible exact LeO.refl _)
   | (with_reducible exact LeO.none _)
   | (with_reducible refine LeO.ite ?_ ?_)
   | (with_reducible refine LeO.bind ?_ (fun _ => ?_))
   | exact slices_IndexFunc_string_string_by_impl_validJoinLine_1.mono _ _
   | exact LeO.none _
   | refine LeO.ite ?_ ?_
   | refine LeO.bind ?_ (fun _ => ?_)
set_option maxHeartbeats 8000000 in
set_option maxRecDepth 100000 in
theorem slices_ContainsFunc_string_string_by_impl_validJoinLine_1.calls (k : Nat) (A0 : Option Addr) (c0 : Nat) (l0 : List ByteArray)  (r : Bool) (w : World) (hr0 : Kd.C Kd.string w A0 l0.length l0) (hc0 : l0.length ≤ c0) (h : slices_ContainsFunc_string_string_by_impl_validJoinLine_1.f k l0 = some r) :
  Calls Try.prog 76 #[.slice A0 l0.length c0, .func (.func 79) #[] #[]] w fun e w' => e = .returned (.bool r) ∧ Below w.heap.size w w' := by
 have HR0 := aM hr0
 have HC0 := aM hc0
 clear hr0 hc0
 have HB := aM (Below.refl w.heap.size w)
 have H : ((slices_IndexFunc_string_string_by_impl_validJoinLine_1.f k l0).bind fun t310 => (some (decide (t310 ≥ 0)))) = some r := h
 clear h
 replace H := Option.bind_eq_some_iff.mp H
 obtain ⟨t310, A30, H⟩ := H
 replace H : (some (decide (t310 ≥ 0))) = some r := H
 have A3 := aM A30
 clear A30
 obtain rfl := Option.some.inj H
 go_enter Try.func76, Try.ntmps76
 go_wp2_with (first | ((with_reducible refine gate_callee (f := 69) rfl ?_); refine goesL_ (some 7) rfl rfl Try.func69 (by kernel_rfl) rfl #[.slice A0 l0.length c0, .func (.func 79) #[] #[]] rfl gQ ?_; (with_reducible refine (slices_IndexFunc_string_string_by_impl_validJoinLine_1.calls k _ _ l0  t310 _ ?side1 ?side2 A3.out).mono ?_); (case side1 => repeat (first | exact HR0.out | (with_reducible first | refine cA ?_ _ | refine cN ?_ _ | refine cD ?_))); (case side2 => exact HC0.out); rintro e w4 ⟨rfl, hb⟩; refine ⟨_, rfl, ?_⟩; have n0_ := aM (below_step bQ hb); clear HB; have HB := n0_; clear n0_; (try clear hb); (try clear hb2); (try clear hk); (try clear hi)))
 go_ret
 exact ⟨eQ, bQ⟩

/-! ### impl_validJoinLine: function 61 -/
def impl_validJoinLine.f (k : Nat) (a0_0 : Int) (a0_1 : ByteArray) (l0_2 : List ByteArray) (l0_3 : List ByteArray) (l0_4 : List ByteArray) (l0_5 : List ByteArray) (a0_6 : Int) : Option (Bool) := if a0_6 < 1 then (some false) else (if a0_6 > 3 then (some false) else (if (l0_5.length : Int) = 0 then ((slices_ContainsFunc_string_string_by_impl_validJoinLine_1.f k l0_5).bind fun t312 => (some (!t312))) else (if (l0_5.length : Int) = 3 then ((slices_ContainsFunc_string_string_by_impl_validJoinLine_1.f k l0_5).bind fun t313 => (some (!t313))) else (some false))))
theorem impl_validJoinLine.mono : ∀ a0 a1 a2 a3 a4 a5 a6 k, LeO (impl_validJoinLine.f k a0 a1 a2 a3 a4 a5 a6) (impl_validJoinLine.f (k + 1) a0 a1 a2 a3 a4 a5 a6) := by
 intro a0 a1 a2 a3 a4 a5 a6 k
 unfold impl_validJoinLine.f
 repeat' first
   | (with_reducible exact slices_ContainsFunc_string_string_by_impl_validJoinLine_1.mono _ _)
   | (with_reducible exact LeO.refl _)
   | (with_reducible exact LeO.none _)
   | (with_reducible refine LeO.ite ?_ ?_)
   | (with_reducible refine LeO.bind ?_ (fun _ => ?_))
   | exact slices_ContainsFunc_string_string_by_impl_validJoinLine_1.mono _ _
   | exact LeO.none _
   | refine LeO.ite ?_ ?_
   | refine LeO.bind ?_ (fun _ => ?_)
set_option maxHeartbeats 8000000 in
set_option maxRecDepth 100000 in
theorem impl_validJoinLine.calls (k : Nat) (a0_0 : Int) (a0_1 : ByteArray) (A0_2 : Option Addr) (c0_2 : Nat) (l0_2 : List ByteArray) (A0_3 : Option Addr) (c0_3 : Nat) (l0_3 : List ByteArray) (A0_4 : Option Addr) (c0_4 : Nat) (l0_4 : List ByteArray) (A0_5 : Option Addr) (c0_5 : Nat) (l0_5 : List ByteArray) (a0_6 : Int) (r : Bool) (w : World) (hr0_2 : Kd.C Kd.string w A0_2 l0_2.length l0_2) (hc0_2 : l0_2.length ≤ c0_2) (hr0_3 : Kd.C Kd.string w A0_3 l0_3.length l0_3) (hc0_3 : l0_3.length ≤ c0_3) (hr0_4 : Kd.C Kd.string w A0_4 l0_4.length l0_4) (hc0_4 : l0_4.length ≤ c0_4) (hr0_5 : Kd.C Kd.string w A0_5 l0_5.length l0_5) (hc0_5 : l0_5.length ≤ c0_5) (h : impl_validJoinLine.f k a0_0 a0_1 l0_2 l0_3 l0_4 l0_5 a0_6 = some r) :
  Calls Try.prog 61 #[.agg #[.int .i64 a0_0, .string a0_1, .slice A0_2 l0_2.length c0_2, .slice A0_3 l0_3.length c0_3, .slice A0_4 l0_4.length c0_4, .slice A0_5 l0_5.length c0_5, .int .i64 a0_6]] w fun e w' => e = .returned (.bool r) ∧ Below w.heap.size w w' := by
 have hu39 := Try.underlying39
 have HR0_2 := aM hr0_2
 have HC0_2 := aM hc0_2
 clear hr0_2 hc0_2
 have HR0_3 := aM hr0_3
 have HC0_3 := aM hc0_3
 clear hr0_3 hc0_3
 have HR0_4 := aM hr0_4
 have HC0_4 := aM hc0_4
 clear hr0_4 hc0_4
 have HR0_5 := aM hr0_5
 have HC0_5 := aM hc0_5
 clear hr0_5 hc0_5
 have HB := aM (Below.refl w.heap.size w)
 have H : (if a0_6 < 1 then (some false) else (if a0_6 > 3 then (some false) else (if (l0_5.length : Int) = 0 then ((slices_ContainsFunc_string_string_by_impl_validJoinLine_1.f k l0_5).bind fun t312 => (some (!t312))) else (if (l0_5.length : Int) = 3 then ((slices_ContainsFunc_string_string_by_impl_validJoinLine_1.f k l0_5).bind fun t313 => (some (!t313))) else (some false))))) = some r := h
 clear h
 by_cases c2 : a0_6 < 1
 ·rw [if_pos c2] at H
  have c2b0 : decide (a0_6 < 1) = true := decide_eq_true c2
  clear c2
  obtain rfl := Option.some.inj H
  go_enter Try.func61, Try.ntmps61
  go_wp2_with (first | ((with_reducible refine gate_dst (N := 1) rfl ?_); (try (refine gate_guard (by rfl) ?_; dsimp only)); refine box_event ?hg (N := 1) ?hd (cs := #[.int .i64 a0_0, .string a0_1, .slice A0_2 l0_2.length c0_2, .slice A0_3 l0_3.length c0_3, .slice A0_4 l0_4.length c0_4, .slice A0_5 l0_5.length c0_5, .int .i64 a0_6]) (t := 39) ?hr ?_; (case hd => rfl); (case hg => rfl); (case hr => first | (go_simp; done) | (go_simp; rfl)); intro gb311 hg w3 hbox hb; have n0_ := aM (below_step bQ hb); have n1_ := aM (hbox); have n2_ := aM ((by rw [hg]; exact (below_size bQ) : w.heap.size ≤ gb311)); have n3_ := aM ((by rw [hg]; exact (below_size bQ) : w.heap.size ≤ gb311)); clear HB; have HB := n0_; have BK311 := n1_; have GW311 := n2_; have GE311 := n3_; clear n0_ n1_ n2_ n3_; clear hb hbox hg; obtain ⟨hcz4_0, hcz4_1, hcz4_2, hcz4_3, hcz4_4, hcz4_5, hcz4_6⟩ := cl7 BK311.out; obtain ⟨hfz4_0, hfz4_1, hfz4_2, hfz4_3, hfz4_4, hfz4_5⟩ := fz6 BK311.out; have hfz4_6 := blk_frozen BK311.out 6))
  go_ret
  exact ⟨eQ, by repeat (first | (with_reducible first | exact HB.out | apply bA | apply bN | apply bD | refine below_set ?_ GE311.out) | exact HB.out)⟩
 ·rw [if_neg c2] at H
  have c2b0 : decide (a0_6 < 1) = false := decide_eq_false c2
  clear c2
  by_cases c5 : a0_6 > 3
  ·rw [if_pos c5] at H
   have c5b0 : decide (3 < a0_6) = true := decide_eq_true c5
   clear c5
   obtain rfl := Option.some.inj H
   go_enter Try.func61, Try.ntmps61
   go_wp2_with (first | ((with_reducible refine gate_dst (N := 1) rfl ?_); (try (refine gate_guard (by rfl) ?_; dsimp only)); refine box_event ?hg (N := 1) ?hd (cs := #[.int .i64 a0_0, .string a0_1, .slice A0_2 l0_2.length c0_2, .slice A0_3 l0_3.length c0_3, .slice A0_4 l0_4.length c0_4, .slice A0_5 l0_5.length c0_5, .int .i64 a0_6]) (t := 39) ?hr ?_; (case hd => rfl); (case hg => rfl); (case hr => first | (go_simp; done) | (go_simp; rfl)); intro gb311 hg w6 hbox hb; have n0_ := aM (below_step bQ hb); have n1_ := aM (hbox); have n2_ := aM ((by rw [hg]; exact (below_size bQ) : w.heap.size ≤ gb311)); have n3_ := aM ((by rw [hg]; exact (below_size bQ) : w.heap.size ≤ gb311)); clear HB; have HB := n0_; have BK311 := n1_; have GW311 := n2_; have GE311 := n3_; clear n0_ n1_ n2_ n3_; clear hb hbox hg; obtain ⟨hcz7_0, hcz7_1, hcz7_2, hcz7_3, hcz7_4, hcz7_5, hcz7_6⟩ := cl7 BK311.out; obtain ⟨hfz7_0, hfz7_1, hfz7_2, hfz7_3, hfz7_4, hfz7_5⟩ := fz6 BK311.out; have hfz7_6 := blk_frozen BK311.out 6))
   go_ret
   exact ⟨eQ, by repeat (first | (with_reducible first | exact HB.out | apply bA | apply bN | apply bD | refine below_set ?_ GE311.out) | exact HB.out)⟩
  ·rw [if_neg c5] at H
   have c5b0 : decide (3 < a0_6) = false := decide_eq_false c5
   clear c5
   by_cases c8 : (l0_5.length : Int) = 0
   ·rw [if_pos c8] at H
    have c8b0 : ((l0_5.length : Int) == 0) = true := beq_iff_eq.mpr c8
    have c8b1 : ((l0_5.length : Int) != 0) = false := bne_eq_false_iff_eq.mpr c8
    clear c8
    replace H := Option.bind_eq_some_iff.mp H
    obtain ⟨t312, A90, H⟩ := H
    replace H : (some (!t312)) = some r := H
    have A9 := aM A90
    clear A90
    obtain rfl := Option.some.inj H
    go_enter Try.func61, Try.ntmps61
    go_wp2_with (first | ((with_reducible refine gate_dst (N := 1) rfl ?_); (try (refine gate_guard (by rfl) ?_; dsimp only)); refine box_event ?hg (N := 1) ?hd (cs := #[.int .i64 a0_0, .string a0_1, .slice A0_2 l0_2.length c0_2, .slice A0_3 l0_3.length c0_3, .slice A0_4 l0_4.length c0_4, .slice A0_5 l0_5.length c0_5, .int .i64 a0_6]) (t := 39) ?hr ?_; (case hd => rfl); (case hg => rfl); (case hr => first | (go_simp; done) | (go_simp; rfl)); intro gb311 hg w10 hbox hb; have n0_ := aM (below_step bQ hb); have n1_ := aM (hbox); have n2_ := aM ((by rw [hg]; exact (below_size bQ) : w.heap.size ≤ gb311)); have n3_ := aM ((by rw [hg]; exact (below_size bQ) : w.heap.size ≤ gb311)); clear HB; have HB := n0_; have BK311 := n1_; have GW311 := n2_; have GE311 := n3_; clear n0_ n1_ n2_ n3_; clear hb hbox hg; obtain ⟨hcz11_0, hcz11_1, hcz11_2, hcz11_3, hcz11_4, hcz11_5, hcz11_6⟩ := cl7 BK311.out; obtain ⟨hfz11_0, hfz11_1, hfz11_2, hfz11_3, hfz11_4, hfz11_5⟩ := fz6 BK311.out; have hfz11_6 := blk_frozen BK311.out 6) | ((with_reducible refine gate_callee (f := 76) rfl ?_); refine goesL_ (some 25) rfl rfl Try.func76 (by kernel_rfl) rfl #[.slice A0_5 l0_5.length c0_5, .func (.func 79) #[] #[]] rfl gQ ?_; (with_reducible refine (slices_ContainsFunc_string_string_by_impl_validJoinLine_1.calls k _ _ l0_5  t312 _ ?side1 ?side2 A9.out).mono ?_); (case side1 => exact cQ HR0_5.out); (case side2 => exact HC0_5.out); rintro e w12 ⟨rfl, hb⟩; refine ⟨_, rfl, ?_⟩; have n0_ := aM (blk_below (g := gb311) (o := .cells #[.int .i64 a0_0, .string a0_1, .slice A0_2 l0_2.length c0_2, .slice A0_3 l0_3.length c0_3, .slice A0_4 l0_4.length c0_4, .slice A0_5 l0_5.length c0_5, .int .i64 a0_6] 39 (0, 0)) (by (with_reducible repeat (first | refine blk_drewN ?_ _ | refine blk_drew ?_ | refine blk_alloc ?_ _)); exact BK311.out) hb); have n1_ := aM (below_step (by repeat (first | (with_reducible first | exact HB.out | apply bA | apply bN | apply bD | refine below_set ?_ GE311.out) | exact HB.out)) hb); clear BK311; clear HB; have BK311 := n0_; have HB := n1_; clear n0_ n1_; (try clear hb); (try clear hb2); (try clear hk); (try clear hi)))
    go_ret
    exact ⟨eQ, by repeat (first | (with_reducible first | exact HB.out | apply bA | apply bN | apply bD | refine below_set ?_ GE311.out) | exact HB.out)⟩
   ·rw [if_neg c8] at H
    have c8b0 : ((l0_5.length : Int) == 0) = false := beq_eq_false_iff_ne.mpr c8
    have c8b1 : ((l0_5.length : Int) != 0) = true := bne_iff_ne.mpr c8
    have c8b2 : ¬ (l0_5 = []) := fun h_ => c8 (by rw [h_]; rfl)
    by_cases c13 : (l0_5.length : Int) = 3
    ·rw [if_pos c13] at H
     have c13b0 : ((l0_5.length : Int) == 3) = true := beq_iff_eq.mpr c13
     have c13b1 : ((l0_5.length : Int) != 3) = false := bne_eq_false_iff_eq.mpr c13
     clear c13
     replace H := Option.bind_eq_some_iff.mp H
     obtain ⟨t313, A140, H⟩ := H
     replace H : (some (!t313)) = some r := H
     have A14 := aM A140
     clear A140
     obtain rfl := Option.some.inj H
     go_enter Try.func61, Try.ntmps61
     go_wp2_with (first | ((with_reducible refine gate_dst (N := 1) rfl ?_); (try (refine gate_guard (by rfl) ?_; dsimp only)); refine box_event ?hg (N := 1) ?hd (cs := #[.int .i64 a0_0, .string a0_1, .slice A0_2 l0_2.length c0_2, .slice A0_3 l0_3.length c0_3, .slice A0_4 l0_4.length c0_4, .slice A0_5 l0_5.length c0_5, .int .i64 a0_6]) (t := 39) ?hr ?_; (case hd => rfl); (case hg => rfl); (case hr => first | (go_simp; done) | (go_simp; rfl)); intro gb311 hg w15 hbox hb; have n0_ := aM (below_step bQ hb); have n1_ := aM (hbox); have n2_ := aM ((by rw [hg]; exact (below_size bQ) : w.heap.size ≤ gb311)); have n3_ := aM ((by rw [hg]; exact (below_size bQ) : w.heap.size ≤ gb311)); clear HB; have HB := n0_; have BK311 := n1_; have GW311 := n2_; have GE311 := n3_; clear n0_ n1_ n2_ n3_; clear hb hbox hg; obtain ⟨hcz16_0, hcz16_1, hcz16_2, hcz16_3, hcz16_4, hcz16_5, hcz16_6⟩ := cl7 BK311.out; obtain ⟨hfz16_0, hfz16_1, hfz16_2, hfz16_3, hfz16_4, hfz16_5⟩ := fz6 BK311.out; have hfz16_6 := blk_frozen BK311.out 6) | ((with_reducible refine gate_callee (f := 76) rfl ?_); refine goesL_ (some 25) rfl rfl Try.func76 (by kernel_rfl) rfl #[.slice A0_5 l0_5.length c0_5, .func (.func 79) #[] #[]] rfl gQ ?_; (with_reducible refine (slices_ContainsFunc_string_string_by_impl_validJoinLine_1.calls k _ _ l0_5  t313 _ ?side1 ?side2 A14.out).mono ?_); (case side1 => exact cQ HR0_5.out); (case side2 => exact HC0_5.out); rintro e w17 ⟨rfl, hb⟩; refine ⟨_, rfl, ?_⟩; have n0_ := aM (blk_below (g := gb311) (o := .cells #[.int .i64 a0_0, .string a0_1, .slice A0_2 l0_2.length c0_2, .slice A0_3 l0_3.length c0_3, .slice A0_4 l0_4.length c0_4, .slice A0_5 l0_5.length c0_5, .int .i64 a0_6] 39 (0, 0)) (by (with_reducible repeat (first | refine blk_drewN ?_ _ | refine blk_drew ?_ | refine blk_alloc ?_ _)); exact BK311.out) hb); have n1_ := aM (below_step (by repeat (first | (with_reducible first | exact HB.out | apply bA | apply bN | apply bD | refine below_set ?_ GE311.out) | exact HB.out)) hb); clear BK311; clear HB; have BK311 := n0_; have HB := n1_; clear n0_ n1_; (try clear hb); (try clear hb2); (try clear hk); (try clear hi)))
     go_ret
     exact ⟨eQ, by repeat (first | (with_reducible first | exact HB.out | apply bA | apply bN | apply bD | refine below_set ?_ GE311.out) | exact HB.out)⟩
    ·rw [if_neg c13] at H
     have c13b0 : ((l0_5.length : Int) == 3) = false := beq_eq_false_iff_ne.mpr c13
     have c13b1 : ((l0_5.length : Int) != 3) = true := bne_iff_ne.mpr c13
     obtain rfl := Option.some.inj H
     go_enter Try.func61, Try.ntmps61
     go_wp2_with (first | ((with_reducible refine gate_dst (N := 1) rfl ?_); (try (refine gate_guard (by rfl) ?_; dsimp only)); refine box_event ?hg (N := 1) ?hd (cs := #[.int .i64 a0_0, .string a0_1, .slice A0_2 l0_2.length c0_2, .slice A0_3 l0_3.length c0_3, .slice A0_4 l0_4.length c0_4, .slice A0_5 l0_5.length c0_5, .int .i64 a0_6]) (t := 39) ?hr ?_; (case hd => rfl); (case hg => rfl); (case hr => first | (go_simp; done) | (go_simp; rfl)); intro gb311 hg w18 hbox hb; have n0_ := aM (below_step bQ hb); have n1_ := aM (hbox); have n2_ := aM ((by rw [hg]; exact (below_size bQ) : w.heap.size ≤ gb311)); have n3_ := aM ((by rw [hg]; exact (below_size bQ) : w.heap.size ≤ gb311)); clear HB; have HB := n0_; have BK311 := n1_; have GW311 := n2_; have GE311 := n3_; clear n0_ n1_ n2_ n3_; clear hb hbox hg; obtain ⟨hcz19_0, hcz19_1, hcz19_2, hcz19_3, hcz19_4, hcz19_5, hcz19_6⟩ := cl7 BK311.out; obtain ⟨hfz19_0, hfz19_1, hfz19_2, hfz19_3, hfz19_4, hfz19_5⟩ := fz6 BK311.out; have hfz19_6 := blk_frozen BK311.out 6))
     go_ret
     exact ⟨eQ, by repeat (first | (with_reducible first | exact HB.out | apply bA | apply bN | apply bD | refine below_set ?_ GE311.out) | exact HB.out)⟩

end Go.Proofs.Ytfabhfdjabehpaa.QFnExactSourceText
