/- What some Go functions answer, each as a Lean function, and that the machine answers so: written by a program of this session out of the translation. -/
import Derived.Test.YtdahcapolipnbaaQFnExactRuleTextx0
import Derived.Test.YtdahcapolipnbaaQFnExactRuleTextx5
namespace Go.Proofs.Ytdahcapolipnbaa.QFnExactRuleText
open Go.RowKit Go.Proofs.YtdahcapolipnbaaW.PrintWords Go.Proofs.YtdahcapolipnbaaW.PrintLast Go.Proofs.YtdahcapolipnbaaW.PrintMore Go.Proofs.Ytdahcapolipnbaa.Rp
attribute [local go_sem] max2_int min2_int max_two min_two max_three min_three max_four min_four   -- for this text's walks alone
set_option linter.unusedVariables false
set_option linter.unusedSimpArgs false

/-! ### slices_IndexFunc_int64_int64_by_impl_ValidRule_1: function 170 -/
def slices_IndexFunc_int64_int64_by_impl_ValidRule_1.l0 : Nat → List Int → Int → Int → Option (Int)
 | 0, _, _, _ => none
 | k + 1, x0, x7, x8 => if x8 < x7 then (if 0 ≤ x8 then (if x8 < (x0.length : Int) then ((impl_ValidRule_1.f (rd x0 x8)).bind fun t235 => (if t235 = true then (some x8) else (slices_IndexFunc_int64_int64_by_impl_ValidRule_1.l0 k x0 x7 (wrap64 (x8 + 1))))) else (none)) else (none)) else (some (-1))
def slices_IndexFunc_int64_int64_by_impl_ValidRule_1.f (k : Nat) (l0 : List Int)  : Option (Int) := slices_IndexFunc_int64_int64_by_impl_ValidRule_1.l0 k l0 (l0.length : Int) 0
theorem slices_IndexFunc_int64_int64_by_impl_ValidRule_1.mono_l : ∀ k, (∀ y0 y1 y2, LeO (slices_IndexFunc_int64_int64_by_impl_ValidRule_1.l0 k y0 y1 y2) (slices_IndexFunc_int64_int64_by_impl_ValidRule_1.l0 (k + 1) y0 y1 y2))
 | 0 => fun _ _ _ r h => by simp [slices_IndexFunc_int64_int64_by_impl_ValidRule_1.l0] at h
 | k + 1 => by
  have ih0 := slices_IndexFunc_int64_int64_by_impl_ValidRule_1.mono_l k
  ·intro y0 y1 y2
   unfold slices_IndexFunc_int64_int64_by_impl_ValidRule_1.l0
   repeat' first
   | (with_reducible exact ih0 _ _ _)
   | (with_reducible exact LeO.refl _)
   | (with_reducible exact LeO.none _)
   | (with_reducible refine LeO.ite ?_ ?_)
   | (with_reducible refine LeO.bind ?_ (fun _ => ?_))
   | exact ih0 _ _ _
   | exact LeO.none _
   | refine LeO.ite ?_ ?_
   | refine LeO.bind ?_ (fun _ => ?_)
theorem slices_IndexFunc_int64_int64_by_impl_ValidRule_1.mono : ∀ a0 k, LeO (slices_IndexFunc_int64_int64_by_impl_ValidRule_1.f k a0) (slices_IndexFunc_int64_int64_by_impl_ValidRule_1.f (k + 1) a0) := by
 intro a0 k
 have ih0 := slices_IndexFunc_int64_int64_by_impl_ValidRule_1.mono_l k
 unfold slices_IndexFunc_int64_int64_by_impl_ValidRule_1.f
 repeat' first
   | (with_reducible exact ih0 _ _ _)
   | (with_reducible exact LeO.refl _)
   | (with_reducible exact LeO.none _)
   | (with_reducible refine LeO.ite ?_ ?_)
   | (with_reducible refine LeO.bind ?_ (fun _ => ?_))
   | exact ih0 _ _ _
   | exact LeO.none _
   | refine LeO.ite ?_ ?_
   | refine LeO.bind ?_ (fun _ => ?_)
set_option maxHeartbeats 8000000 in
set_option maxRecDepth 100000 in
theorem slices_IndexFunc_int64_int64_by_impl_ValidRule_1.calls (k : Nat) (A0 : Option Addr) (c0 : Nat) (l0 : List Int)  (r : Int) (w : World) (hr0 : Kd.C (Kd.int .i64) w A0 l0.length l0) (hc0 : l0.length ≤ c0) (h : slices_IndexFunc_int64_int64_by_impl_ValidRule_1.f k l0 = some r) :
  Calls Try.prog 170 #[.slice A0 l0.length c0, .func (.func 136) #[] #[]] w fun e w' => e = .returned (.int .i64 r) ∧ Below w.heap.size w w' := by
 have HR0 := aM hr0
 have HC0 := aM hc0
 clear hr0 hc0
 have HB := aM (Below.refl w.heap.size w)
 have H : (slices_IndexFunc_int64_int64_by_impl_ValidRule_1.l0 k l0 (l0.length : Int) 0) = some r := h
 clear h
 have H' := aM H
 clear H
 go_enter Try.func170, Try.ntmps170
 go_wp2
 go_loopg [8] k (fun kq v8 w' => ∃ (x8_1 : Int), v8 = .int .i64 x8_1 ∧ Aside0 (slices_IndexFunc_int64_int64_by_impl_ValidRule_1.l0 kq l0 (l0.length : Int) x8_1 = some r) ∧ Aside0 (kq ≤ k) ∧ Aside0 (Below w.heap.size w w'))
 case atStart => exact ⟨(0), rQ, H', ⟨Nat.le_refl _⟩, ⟨bQ⟩⟩
 case round =>
  clear H'
  try clear p2
  obtain ⟨x8_1, rfl, HA, HK1, HB⟩ := hrel
  cases gk with
  | zero => exact absurd HA.out (by simp [slices_IndexFunc_int64_int64_by_impl_ValidRule_1.l0])
  | succ k1 =>
   have H := HA.out
   clear HA
   simp only [slices_IndexFunc_int64_int64_by_impl_ValidRule_1.l0] at H
   by_cases c3 : x8_1 < (l0.length : Int)
   ·rw [if_pos c3] at H
    have c3b0 : decide (x8_1 < (l0.length : Int)) = true := decide_eq_true c3
    clear c3
    by_cases c4 : 0 ≤ x8_1
    ·rw [if_pos c4] at H
     have c4b0 : decide (0 ≤ x8_1) = true := decide_eq_true c4
     clear c4
     by_cases c5 : x8_1 < (l0.length : Int)
     ·rw [if_pos c5] at H
      have c5b0 : decide (x8_1 < (l0.length : Int)) = true := decide_eq_true c5
      clear c5
      replace H := Option.bind_eq_some_iff.mp H
      obtain ⟨t235, A60, H⟩ := H
      replace H : (if t235 = true then (some x8_1) else (slices_IndexFunc_int64_int64_by_impl_ValidRule_1.l0 k1 l0 (l0.length : Int) (wrap64 (x8_1 + 1)))) = some r := H
      have A6 := aM A60
      clear A60
      by_cases c7 : t235 = true
      ·subst c7
       have H1 : (some x8_1) = some r := by rw [if_pos rfl] at H; exact H
       clear H
       have H := H1
       clear H1
       obtain rfl := Option.some.inj H
       have p234 : 0 ≤ (x8_1 : Int) := dA
       have q234 : x8_1 < (l0.length : Int) := dA
       obtain ⟨ad234, e234, hx234_0⟩ := Kd.at_int HR0.out x8_1 p234 q234
       cases e234
       replace hx234_0 := cB HB.out hx234_0
       replace p234 := eq_true p234
       replace q234 := eq_true q234
       go_wp2_with (first | (go_at_call 136; (with_reducible refine (impl_ValidRule_1.calls (rd l0 x8_1) true _ A6.out).mono ?_); rintro e w' ⟨rfl, ⟨nd, rfl⟩⟩))
       go_ret
       exact ⟨eQ, bQ⟩
      ·replace c7 := Bool.eq_false_iff.mpr c7
       subst c7
       have H1 : (slices_IndexFunc_int64_int64_by_impl_ValidRule_1.l0 k1 l0 (l0.length : Int) (wrap64 (x8_1 + 1))) = some r := by rw [if_neg (show ¬ (false = true) by decide)] at H; exact H
       clear H
       have H := H1
       clear H1
       have H' := aM H
       clear H
       have p234 : 0 ≤ (x8_1 : Int) := dA
       have q234 : x8_1 < (l0.length : Int) := dA
       obtain ⟨ad234, e234, hx234_0⟩ := Kd.at_int HR0.out x8_1 p234 q234
       cases e234
       replace hx234_0 := cB HB.out hx234_0
       replace p234 := eq_true p234
       replace q234 := eq_true q234
       go_wp2_with (first | (go_at_call 136; (with_reducible refine (impl_ValidRule_1.calls (rd l0 x8_1) false _ A6.out).mono ?_); rintro e w' ⟨rfl, ⟨nd, rfl⟩⟩))
       go_roundg k1
       case measure => have := HK1.out; omega
       case rel => exact ⟨(wrap64 (x8_1 + 1)), rQ, H', ⟨by have := HK1.out; omega⟩, ⟨bQ⟩⟩
     ·rw [if_neg c5] at H
      exact absurd H (by simp)
    ·rw [if_neg c4] at H
     exact absurd H (by simp)
   ·rw [if_neg c3] at H
    have c3b0 : decide (x8_1 < (l0.length : Int)) = false := decide_eq_false c3
    clear c3
    obtain rfl := Option.some.inj H
    go_wp2
    go_ret
    exact ⟨eQ, bQ⟩

/-! ### slices_ContainsFunc_int64_int64_by_impl_ValidRule_1: function 135 -/
def slices_ContainsFunc_int64_int64_by_impl_ValidRule_1.f (k : Nat) (l0 : List Int)  : Option (Bool) := (slices_IndexFunc_int64_int64_by_impl_ValidRule_1.f k l0).bind fun t236 => (some (decide (t236 ≥ 0)))
theorem slices_ContainsFunc_int64_int64_by_impl_ValidRule_1.mono : ∀ a0 k, LeO (slices_ContainsFunc_int64_int64_by_impl_ValidRule_1.f k a0) (slices_ContainsFunc_int64_int64_by_impl_ValidRule_1.f (k + 1) a0) := by
 intro a0 k
 unfold slices_ContainsFunc_int64_int64_by_impl_ValidRule_1.f
 repeat' first
   | (with_reducible exact slices_IndexFunc_int64_int64_by_impl_ValidRule_1.mono _ _)
   | (with_reducible exact LeO.refl _)
   | (with_reducible exact LeO.none _)
   | (with_reducible refine LeO.ite ?_ ?_)
   | (with_reducible refine LeO.bind ?_ (fun _ => ?_))
   | exact slices_IndexFunc_int64_int64_by_impl_ValidRule_1.mono _ _
   | exact LeO.none _
   | refine LeO.ite ?_ ?_
   | refine LeO.bind ?_ (fun _ => ?_)
set_option maxHeartbeats 8000000 in
set_option maxRecDepth 100000 in
theorem slices_ContainsFunc_int64_int64_by_impl_ValidRule_1.calls (k : Nat) (A0 : Option Addr) (c0 : Nat) (l0 : List Int)  (r : Bool) (w : World) (hr0 : Kd.C (Kd.int .i64) w A0 l0.length l0) (hc0 : l0.length ≤ c0) (h : slices_ContainsFunc_int64_int64_by_impl_ValidRule_1.f k l0 = some r) :
  Calls Try.prog 135 #[.slice A0 l0.length c0, .func (.func 136) #[] #[]] w fun e w' => e = .returned (.bool r) ∧ Below w.heap.size w w' := by
 have HR0 := aM hr0
 have HC0 := aM hc0
 clear hr0 hc0
 have HB := aM (Below.refl w.heap.size w)
 have H : ((slices_IndexFunc_int64_int64_by_impl_ValidRule_1.f k l0).bind fun t236 => (some (decide (t236 ≥ 0)))) = some r := h
 clear h
 replace H := Option.bind_eq_some_iff.mp H
 obtain ⟨t236, A30, H⟩ := H
 replace H : (some (decide (t236 ≥ 0))) = some r := H
 have A3 := aM A30
 clear A30
 obtain rfl := Option.some.inj H
 go_enter Try.func135, Try.ntmps135
 go_wp2_with (first | ((with_reducible refine gate_callee (f := 170) rfl ?_); refine goesL_ (some 7) rfl rfl Try.func170 (by kernel_rfl) rfl #[.slice A0 l0.length c0, .func (.func 136) #[] #[]] rfl gQ ?_; (with_reducible refine (slices_IndexFunc_int64_int64_by_impl_ValidRule_1.calls k _ _ l0  t236 _ ?side1 ?side2 A3.out).mono ?_); (case side1 => repeat (first | exact HR0.out | (with_reducible first | refine cA ?_ _ | refine cN ?_ _ | refine cD ?_))); (case side2 => exact HC0.out); rintro e w4 ⟨rfl, hb⟩; refine ⟨_, rfl, ?_⟩; have n0_ := aM (below_step bQ hb); clear HB; have HB := n0_; clear n0_; (try clear hb); (try clear hb2); (try clear hk); (try clear hi)))
 go_ret
 exact ⟨eQ, bQ⟩

/-! ### impl_ValidRule: function 69 -/
def impl_ValidRule.f (k : Nat) (l0_0 : List (List Int)) (l0_1 : List (List Int)) (l0_2 : List (List Int)) (l0_3 : List Int) : Option (Bool) := (impl_fullClasses.f k l0_0 0 4).bind fun t238 => (if t238 = true then ((impl_fullClasses.f k l0_1 1 4).bind fun t239 => (if t239 = true then ((impl_fullClasses.f k l0_2 0 4).bind fun t240 => (if t240 = true then (if (l0_3.length : Int) ≤ 4 then ((slices_ContainsFunc_int64_int64_by_impl_ValidRule_1.f k l0_3).bind fun t241 => (some (!t241))) else (some false)) else (some false))) else (some false))) else (some false))
theorem impl_ValidRule.mono : ∀ a0 a1 a2 a3 k, LeO (impl_ValidRule.f k a0 a1 a2 a3) (impl_ValidRule.f (k + 1) a0 a1 a2 a3) := by
 intro a0 a1 a2 a3 k
 unfold impl_ValidRule.f
 repeat' first
   | (with_reducible exact impl_fullClasses.mono _ _ _ _)
   | (with_reducible exact slices_ContainsFunc_int64_int64_by_impl_ValidRule_1.mono _ _)
   | (with_reducible exact LeO.refl _)
   | (with_reducible exact LeO.none _)
   | (with_reducible refine LeO.ite ?_ ?_)
   | (with_reducible refine LeO.bind ?_ (fun _ => ?_))
   | exact impl_fullClasses.mono _ _ _ _
   | exact slices_ContainsFunc_int64_int64_by_impl_ValidRule_1.mono _ _
   | exact LeO.none _
   | refine LeO.ite ?_ ?_
   | refine LeO.bind ?_ (fun _ => ?_)
set_option maxHeartbeats 8000000 in
set_option maxRecDepth 100000 in
theorem impl_ValidRule.calls (k : Nat) (A0_0 : Option Addr) (c0_0 : Nat) (l0_0 : List (List Int)) (A0_1 : Option Addr) (c0_1 : Nat) (l0_1 : List (List Int)) (A0_2 : Option Addr) (c0_2 : Nat) (l0_2 : List (List Int)) (A0_3 : Option Addr) (c0_3 : Nat) (l0_3 : List Int) (r : Bool) (w : World) (hr0_0 : Kd.C (Kd.slice 2 (Kd.int .i64)) w A0_0 l0_0.length l0_0) (hc0_0 : l0_0.length ≤ c0_0) (hr0_1 : Kd.C (Kd.slice 2 (Kd.int .i64)) w A0_1 l0_1.length l0_1) (hc0_1 : l0_1.length ≤ c0_1) (hr0_2 : Kd.C (Kd.slice 2 (Kd.int .i64)) w A0_2 l0_2.length l0_2) (hc0_2 : l0_2.length ≤ c0_2) (hr0_3 : Kd.C (Kd.int .i64) w A0_3 l0_3.length l0_3) (hc0_3 : l0_3.length ≤ c0_3) (h : impl_ValidRule.f k l0_0 l0_1 l0_2 l0_3 = some r) :
  Calls Try.prog 69 #[.agg #[.slice A0_0 l0_0.length c0_0, .slice A0_1 l0_1.length c0_1, .slice A0_2 l0_2.length c0_2, .slice A0_3 l0_3.length c0_3]] w fun e w' => e = .returned (.bool r) ∧ Below w.heap.size w w' := by
 have hu38 := Try.underlying38
 have HR0_0 := aM hr0_0
 have HC0_0 := aM hc0_0
 clear hr0_0 hc0_0
 have HR0_1 := aM hr0_1
 have HC0_1 := aM hc0_1
 clear hr0_1 hc0_1
 have HR0_2 := aM hr0_2
 have HC0_2 := aM hc0_2
 clear hr0_2 hc0_2
 have HR0_3 := aM hr0_3
 have HC0_3 := aM hc0_3
 clear hr0_3 hc0_3
 have HB := aM (Below.refl w.heap.size w)
 have H : ((impl_fullClasses.f k l0_0 0 4).bind fun t238 => (if t238 = true then ((impl_fullClasses.f k l0_1 1 4).bind fun t239 => (if t239 = true then ((impl_fullClasses.f k l0_2 0 4).bind fun t240 => (if t240 = true then (if (l0_3.length : Int) ≤ 4 then ((slices_ContainsFunc_int64_int64_by_impl_ValidRule_1.f k l0_3).bind fun t241 => (some (!t241))) else (some false)) else (some false))) else (some false))) else (some false))) = some r := h
 clear h
 replace H := Option.bind_eq_some_iff.mp H
 obtain ⟨t238, A20, H⟩ := H
 replace H : (if t238 = true then ((impl_fullClasses.f k l0_1 1 4).bind fun t239 => (if t239 = true then ((impl_fullClasses.f k l0_2 0 4).bind fun t240 => (if t240 = true then (if (l0_3.length : Int) ≤ 4 then ((slices_ContainsFunc_int64_int64_by_impl_ValidRule_1.f k l0_3).bind fun t241 => (some (!t241))) else (some false)) else (some false))) else (some false))) else (some false)) = some r := H
 have A2 := aM A20
 clear A20
 by_cases c3 : t238 = true
 ·subst c3
  have H1 : ((impl_fullClasses.f k l0_1 1 4).bind fun t239 => (if t239 = true then ((impl_fullClasses.f k l0_2 0 4).bind fun t240 => (if t240 = true then (if (l0_3.length : Int) ≤ 4 then ((slices_ContainsFunc_int64_int64_by_impl_ValidRule_1.f k l0_3).bind fun t241 => (some (!t241))) else (some false)) else (some false))) else (some false))) = some r := by rw [if_pos rfl] at H; exact H
  clear H
  have H := H1
  clear H1
  replace H := Option.bind_eq_some_iff.mp H
  obtain ⟨t239, A40, H⟩ := H
  replace H : (if t239 = true then ((impl_fullClasses.f k l0_2 0 4).bind fun t240 => (if t240 = true then (if (l0_3.length : Int) ≤ 4 then ((slices_ContainsFunc_int64_int64_by_impl_ValidRule_1.f k l0_3).bind fun t241 => (some (!t241))) else (some false)) else (some false))) else (some false)) = some r := H
  have A4 := aM A40
  clear A40
  by_cases c5 : t239 = true
  ·subst c5
   have H1 : ((impl_fullClasses.f k l0_2 0 4).bind fun t240 => (if t240 = true then (if (l0_3.length : Int) ≤ 4 then ((slices_ContainsFunc_int64_int64_by_impl_ValidRule_1.f k l0_3).bind fun t241 => (some (!t241))) else (some false)) else (some false))) = some r := by rw [if_pos rfl] at H; exact H
   clear H
   have H := H1
   clear H1
   replace H := Option.bind_eq_some_iff.mp H
   obtain ⟨t240, A60, H⟩ := H
   replace H : (if t240 = true then (if (l0_3.length : Int) ≤ 4 then ((slices_ContainsFunc_int64_int64_by_impl_ValidRule_1.f k l0_3).bind fun t241 => (some (!t241))) else (some false)) else (some false)) = some r := H
   have A6 := aM A60
   clear A60
   by_cases c7 : t240 = true
   ·subst c7
    have H1 : (if (l0_3.length : Int) ≤ 4 then ((slices_ContainsFunc_int64_int64_by_impl_ValidRule_1.f k l0_3).bind fun t241 => (some (!t241))) else (some false)) = some r := by rw [if_pos rfl] at H; exact H
    clear H
    have H := H1
    clear H1
    by_cases c8 : (l0_3.length : Int) ≤ 4
    ·rw [if_pos c8] at H
     have c8b0 : decide ((l0_3.length : Int) ≤ 4) = true := decide_eq_true c8
     have c8b1 : decide (l0_3.length ≤ 4) = true := decide_eq_true (by omega)
     clear c8
     replace H := Option.bind_eq_some_iff.mp H
     obtain ⟨t241, A90, H⟩ := H
     replace H : (some (!t241)) = some r := H
     have A9 := aM A90
     clear A90
     obtain rfl := Option.some.inj H
     go_enter Try.func69, Try.ntmps69
     go_wp2_with (first | ((with_reducible refine gate_dst (N := 1) rfl ?_); (try (refine gate_guard (by rfl) ?_; dsimp only)); refine box_event ?hg (N := 1) ?hd (cs := #[.slice A0_0 l0_0.length c0_0, .slice A0_1 l0_1.length c0_1, .slice A0_2 l0_2.length c0_2, .slice A0_3 l0_3.length c0_3]) (t := 38) ?hr ?_; (case hd => rfl); (case hg => rfl); (case hr => first | (go_simp; done) | (go_simp; rfl)); intro gb237 hg w10 hbox hb; have n0_ := aM (below_step bQ hb); have n1_ := aM (hbox); have n2_ := aM ((by rw [hg]; exact (below_size bQ) : w.heap.size ≤ gb237)); have n3_ := aM ((by rw [hg]; exact (below_size bQ) : w.heap.size ≤ gb237)); clear HB; have HB := n0_; have BK237 := n1_; have GW237 := n2_; have GE237 := n3_; clear n0_ n1_ n2_ n3_; clear hb hbox hg; have hcz11_0 : w10.cell? ⟨gb237, 0, none⟩ = some (.slice A0_0 l0_0.length c0_0) := (blk_cell BK237.out 0).trans rfl; have hcz11_1 : w10.cell? ⟨gb237, 1, none⟩ = some (.slice A0_1 l0_1.length c0_1) := (blk_cell BK237.out 1).trans rfl; have hcz11_2 : w10.cell? ⟨gb237, 2, none⟩ = some (.slice A0_2 l0_2.length c0_2) := (blk_cell BK237.out 2).trans rfl; have hcz11_3 : w10.cell? ⟨gb237, 3, none⟩ = some (.slice A0_3 l0_3.length c0_3) := (blk_cell BK237.out 3).trans rfl; have hfz11_0 := blk_frozen BK237.out 0; have hfz11_1 := blk_frozen BK237.out 1; have hfz11_2 := blk_frozen BK237.out 2; have hfz11_3 := blk_frozen BK237.out 3) | ((with_reducible refine gate_callee (f := 134) rfl ?_); refine goesL_ (some 5) rfl rfl Try.func134 (by kernel_rfl) rfl #[.slice A0_0 l0_0.length c0_0, .int .i64 0, .int .i64 4] rfl gQ ?_; (with_reducible refine (impl_fullClasses.calls k _ _ l0_0 0 4 true _ ?side1 ?side2 A2.out).mono ?_); (case side1 => exact cQ HR0_0.out); (case side2 => exact HC0_0.out); rintro e w12 ⟨rfl, hb⟩; refine ⟨_, rfl, ?_⟩; have n0_ := aM (blk_below (g := gb237) (o := .cells #[.slice A0_0 l0_0.length c0_0, .slice A0_1 l0_1.length c0_1, .slice A0_2 l0_2.length c0_2, .slice A0_3 l0_3.length c0_3] 38 (0, 0)) (by (with_reducible repeat (first | refine blk_drewN ?_ _ | refine blk_drew ?_ | refine blk_alloc ?_ _)); exact BK237.out) hb); have n1_ := aM (below_step (by repeat (first | (with_reducible first | exact HB.out | apply bA | apply bN | apply bD | refine below_set ?_ GE237.out) | exact HB.out)) hb); clear BK237; clear HB; have BK237 := n0_; have HB := n1_; clear n0_ n1_; (try clear hb); (try clear hb2); (try clear hk); (try clear hi); have hcz13_0 : w12.cell? ⟨gb237, 0, none⟩ = some (.slice A0_0 l0_0.length c0_0) := (blk_cell BK237.out 0).trans rfl; have hcz13_1 : w12.cell? ⟨gb237, 1, none⟩ = some (.slice A0_1 l0_1.length c0_1) := (blk_cell BK237.out 1).trans rfl; have hcz13_2 : w12.cell? ⟨gb237, 2, none⟩ = some (.slice A0_2 l0_2.length c0_2) := (blk_cell BK237.out 2).trans rfl; have hcz13_3 : w12.cell? ⟨gb237, 3, none⟩ = some (.slice A0_3 l0_3.length c0_3) := (blk_cell BK237.out 3).trans rfl; have hfz13_0 := blk_frozen BK237.out 0; have hfz13_1 := blk_frozen BK237.out 1; have hfz13_2 := blk_frozen BK237.out 2; have hfz13_3 := blk_frozen BK237.out 3) | (go_at_call 134; (with_reducible refine (impl_fullClasses.calls k _ _ l0_1 1 4 true _ ?side1 ?side2 A4.out).mono ?_); (case side1 => exact cQ HR0_1.out); (case side2 => exact HC0_1.out); rintro e w14 ⟨rfl, hb⟩; have n0_ := aM (blk_below (g := gb237) (o := .cells #[.slice A0_0 l0_0.length c0_0, .slice A0_1 l0_1.length c0_1, .slice A0_2 l0_2.length c0_2, .slice A0_3 l0_3.length c0_3] 38 (0, 0)) (by (with_reducible repeat (first | refine blk_drewN ?_ _ | refine blk_drew ?_ | refine blk_alloc ?_ _)); exact BK237.out) hb); have n1_ := aM (below_step (by repeat (first | (with_reducible first | exact HB.out | apply bA | apply bN | apply bD | refine below_set ?_ GE237.out) | exact HB.out)) hb); clear BK237; clear HB; have BK237 := n0_; have HB := n1_; clear n0_ n1_; (try clear hb); (try clear hb2); (try clear hk); (try clear hi); have hcz15_0 : w14.cell? ⟨gb237, 0, none⟩ = some (.slice A0_0 l0_0.length c0_0) := (blk_cell BK237.out 0).trans rfl; have hcz15_1 : w14.cell? ⟨gb237, 1, none⟩ = some (.slice A0_1 l0_1.length c0_1) := (blk_cell BK237.out 1).trans rfl; have hcz15_2 : w14.cell? ⟨gb237, 2, none⟩ = some (.slice A0_2 l0_2.length c0_2) := (blk_cell BK237.out 2).trans rfl; have hcz15_3 : w14.cell? ⟨gb237, 3, none⟩ = some (.slice A0_3 l0_3.length c0_3) := (blk_cell BK237.out 3).trans rfl; have hfz15_0 := blk_frozen BK237.out 0; have hfz15_1 := blk_frozen BK237.out 1; have hfz15_2 := blk_frozen BK237.out 2; have hfz15_3 := blk_frozen BK237.out 3) | (go_at_call 134; (with_reducible refine (impl_fullClasses.calls k _ _ l0_2 0 4 true _ ?side1 ?side2 A6.out).mono ?_); (case side1 => exact cQ HR0_2.out); (case side2 => exact HC0_2.out); rintro e w16 ⟨rfl, hb⟩; have n0_ := aM (blk_below (g := gb237) (o := .cells #[.slice A0_0 l0_0.length c0_0, .slice A0_1 l0_1.length c0_1, .slice A0_2 l0_2.length c0_2, .slice A0_3 l0_3.length c0_3] 38 (0, 0)) (by (with_reducible repeat (first | refine blk_drewN ?_ _ | refine blk_drew ?_ | refine blk_alloc ?_ _)); exact BK237.out) hb); have n1_ := aM (below_step (by repeat (first | (with_reducible first | exact HB.out | apply bA | apply bN | apply bD | refine below_set ?_ GE237.out) | exact HB.out)) hb); clear BK237; clear HB; have BK237 := n0_; have HB := n1_; clear n0_ n1_; (try clear hb); (try clear hb2); (try clear hk); (try clear hi); have hcz17_0 : w16.cell? ⟨gb237, 0, none⟩ = some (.slice A0_0 l0_0.length c0_0) := (blk_cell BK237.out 0).trans rfl; have hcz17_1 : w16.cell? ⟨gb237, 1, none⟩ = some (.slice A0_1 l0_1.length c0_1) := (blk_cell BK237.out 1).trans rfl; have hcz17_2 : w16.cell? ⟨gb237, 2, none⟩ = some (.slice A0_2 l0_2.length c0_2) := (blk_cell BK237.out 2).trans rfl; have hcz17_3 : w16.cell? ⟨gb237, 3, none⟩ = some (.slice A0_3 l0_3.length c0_3) := (blk_cell BK237.out 3).trans rfl; have hfz17_0 := blk_frozen BK237.out 0; have hfz17_1 := blk_frozen BK237.out 1; have hfz17_2 := blk_frozen BK237.out 2; have hfz17_3 := blk_frozen BK237.out 3) | (go_at_call 135; (with_reducible refine (slices_ContainsFunc_int64_int64_by_impl_ValidRule_1.calls k _ _ l0_3  t241 _ ?side1 ?side2 A9.out).mono ?_); (case side1 => exact cQ HR0_3.out); (case side2 => exact HC0_3.out); rintro e w18 ⟨rfl, hb⟩; have n0_ := aM (blk_below (g := gb237) (o := .cells #[.slice A0_0 l0_0.length c0_0, .slice A0_1 l0_1.length c0_1, .slice A0_2 l0_2.length c0_2, .slice A0_3 l0_3.length c0_3] 38 (0, 0)) (by (with_reducible repeat (first | refine blk_drewN ?_ _ | refine blk_drew ?_ | refine blk_alloc ?_ _)); exact BK237.out) hb); have n1_ := aM (below_step (by repeat (first | (with_reducible first | exact HB.out | apply bA | apply bN | apply bD | refine below_set ?_ GE237.out) | exact HB.out)) hb); clear BK237; clear HB; have BK237 := n0_; have HB := n1_; clear n0_ n1_; (try clear hb); (try clear hb2); (try clear hk); (try clear hi)))
     go_ret
     exact ⟨eQ, by repeat (first | (with_reducible first | exact HB.out | apply bA | apply bN | apply bD | refine below_set ?_ GE237.out) | exact HB.out)⟩
    ·rw [if_neg c8] at H
     have c8b0 : decide ((l0_3.length : Int) ≤ 4) = false := decide_eq_false c8
     have c8b1 : decide (l0_3.length ≤ 4) = false := decide_eq_false (by omega)
     clear c8
     obtain rfl := Option.some.inj H
     go_enter Try.func69, Try.ntmps69
     go_wp2_with (first | ((with_reducible refine gate_dst (N := 1) rfl ?_); (try (refine gate_guard (by rfl) ?_; dsimp only)); refine box_event ?hg (N := 1) ?hd (cs := #[.slice A0_0 l0_0.length c0_0, .slice A0_1 l0_1.length c0_1, .slice A0_2 l0_2.length c0_2, .slice A0_3 l0_3.length c0_3]) (t := 38) ?hr ?_; (case hd => rfl); (case hg => rfl); (case hr => first | (go_simp; done) | (go_simp; rfl)); intro gb237 hg w19 hbox hb; have n0_ := aM (below_step bQ hb); have n1_ := aM (hbox); have n2_ := aM ((by rw [hg]; exact (below_size bQ) : w.heap.size ≤ gb237)); have n3_ := aM ((by rw [hg]; exact (below_size bQ) : w.heap.size ≤ gb237)); clear HB; have HB := n0_; have BK237 := n1_; have GW237 := n2_; have GE237 := n3_; clear n0_ n1_ n2_ n3_; clear hb hbox hg; have hcz20_0 : w19.cell? ⟨gb237, 0, none⟩ = some (.slice A0_0 l0_0.length c0_0) := (blk_cell BK237.out 0).trans rfl; have hcz20_1 : w19.cell? ⟨gb237, 1, none⟩ = some (.slice A0_1 l0_1.length c0_1) := (blk_cell BK237.out 1).trans rfl; have hcz20_2 : w19.cell? ⟨gb237, 2, none⟩ = some (.slice A0_2 l0_2.length c0_2) := (blk_cell BK237.out 2).trans rfl; have hcz20_3 : w19.cell? ⟨gb237, 3, none⟩ = some (.slice A0_3 l0_3.length c0_3) := (blk_cell BK237.out 3).trans rfl; have hfz20_0 := blk_frozen BK237.out 0; have hfz20_1 := blk_frozen BK237.out 1; have hfz20_2 := blk_frozen BK237.out 2; have hfz20_3 := blk_frozen BK237.out 3) | ((with_reducible refine gate_callee (f := 134) rfl ?_); refine goesL_ (some 5) rfl rfl Try.func134 (by kernel_rfl) rfl #[.slice A0_0 l0_0.length c0_0, .int .i64 0, .int .i64 4] rfl gQ ?_; (with_reducible refine (impl_fullClasses.calls k _ _ l0_0 0 4 true _ ?side1 ?side2 A2.out).mono ?_); (case side1 => exact cQ HR0_0.out); (case side2 => exact HC0_0.out); rintro e w21 ⟨rfl, hb⟩; refine ⟨_, rfl, ?_⟩; have n0_ := aM (blk_below (g := gb237) (o := .cells #[.slice A0_0 l0_0.length c0_0, .slice A0_1 l0_1.length c0_1, .slice A0_2 l0_2.length c0_2, .slice A0_3 l0_3.length c0_3] 38 (0, 0)) (by (with_reducible repeat (first | refine blk_drewN ?_ _ | refine blk_drew ?_ | refine blk_alloc ?_ _)); exact BK237.out) hb); have n1_ := aM (below_step (by repeat (first | (with_reducible first | exact HB.out | apply bA | apply bN | apply bD | refine below_set ?_ GE237.out) | exact HB.out)) hb); clear BK237; clear HB; have BK237 := n0_; have HB := n1_; clear n0_ n1_; (try clear hb); (try clear hb2); (try clear hk); (try clear hi); have hcz22_0 : w21.cell? ⟨gb237, 0, none⟩ = some (.slice A0_0 l0_0.length c0_0) := (blk_cell BK237.out 0).trans rfl; have hcz22_1 : w21.cell? ⟨gb237, 1, none⟩ = some (.slice A0_1 l0_1.length c0_1) := (blk_cell BK237.out 1).trans rfl; have hcz22_2 : w21.cell? ⟨gb237, 2, none⟩ = some (.slice A0_2 l0_2.length c0_2) := (blk_cell BK237.out 2).trans rfl; have hcz22_3 : w21.cell? ⟨gb237, 3, none⟩ = some (.slice A0_3 l0_3.length c0_3) := (blk_cell BK237.out 3).trans rfl; have hfz22_0 := blk_frozen BK237.out 0; have hfz22_1 := blk_frozen BK237.out 1; have hfz22_2 := blk_frozen BK237.out 2; have hfz22_3 := blk_frozen BK237.out 3) | (go_at_call 134; (with_reducible refine (impl_fullClasses.calls k _ _ l0_1 1 4 true _ ?side1 ?side2 A4.out).mono ?_); (case side1 => exact cQ HR0_1.out); (case side2 => exact HC0_1.out); rintro e w23 ⟨rfl, hb⟩; have n0_ := aM (blk_below (g := gb237) (o := .cells #[.slice A0_0 l0_0.length c0_0, .slice A0_1 l0_1.length c0_1, .slice A0_2 l0_2.length c0_2, .slice A0_3 l0_3.length c0_3] 38 (0, 0)) (by (with_reducible repeat (first | refine blk_drewN ?_ _ | refine blk_drew ?_ | refine blk_alloc ?_ _)); exact BK237.out) hb); have n1_ := aM (below_step (by repeat (first | (with_reducible first | exact HB.out | apply bA | apply bN | apply bD | refine below_set ?_ GE237.out) | exact HB.out)) hb); clear BK237; clear HB; have BK237 := n0_; have HB := n1_; clear n0_ n1_; (try clear hb); (try clear hb2); (try clear hk); (try clear hi); have hcz24_0 : w23.cell? ⟨gb237, 0, none⟩ = some (.slice A0_0 l0_0.length c0_0) := (blk_cell BK237.out 0).trans rfl; have hcz24_1 : w23.cell? ⟨gb237, 1, none⟩ = some (.slice A0_1 l0_1.length c0_1) := (blk_cell BK237.out 1).trans rfl; have hcz24_2 : w23.cell? ⟨gb237, 2, none⟩ = some (.slice A0_2 l0_2.length c0_2) := (blk_cell BK237.out 2).trans rfl; have hcz24_3 : w23.cell? ⟨gb237, 3, none⟩ = some (.slice A0_3 l0_3.length c0_3) := (blk_cell BK237.out 3).trans rfl; have hfz24_0 := blk_frozen BK237.out 0; have hfz24_1 := blk_frozen BK237.out 1; have hfz24_2 := blk_frozen BK237.out 2; have hfz24_3 := blk_frozen BK237.out 3) | (go_at_call 134; (with_reducible refine (impl_fullClasses.calls k _ _ l0_2 0 4 true _ ?side1 ?side2 A6.out).mono ?_); (case side1 => exact cQ HR0_2.out); (case side2 => exact HC0_2.out); rintro e w25 ⟨rfl, hb⟩; have n0_ := aM (blk_below (g := gb237) (o := .cells #[.slice A0_0 l0_0.length c0_0, .slice A0_1 l0_1.length c0_1, .slice A0_2 l0_2.length c0_2, .slice A0_3 l0_3.length c0_3] 38 (0, 0)) (by (with_reducible repeat (first | refine blk_drewN ?_ _ | refine blk_drew ?_ | refine blk_alloc ?_ _)); exact BK237.out) hb); have n1_ := aM (below_step (by repeat (first | (with_reducible first | exact HB.out | apply bA | apply bN | apply bD | refine below_set ?_ GE237.out) | exact HB.out)) hb); clear BK237; clear HB; have BK237 := n0_; have HB := n1_; clear n0_ n1_; (try clear hb); (try clear hb2); (try clear hk); (try clear hi); have hcz26_0 : w25.cell? ⟨gb237, 0, none⟩ = some (.slice A0_0 l0_0.length c0_0) := (blk_cell BK237.out 0).trans rfl; have hcz26_1 : w25.cell? ⟨gb237, 1, none⟩ = some (.slice A0_1 l0_1.length c0_1) := (blk_cell BK237.out 1).trans rfl; have hcz26_2 : w25.cell? ⟨gb237, 2, none⟩ = some (.slice A0_2 l0_2.length c0_2) := (blk_cell BK237.out 2).trans rfl; have hcz26_3 : w25.cell? ⟨gb237, 3, none⟩ = some (.slice A0_3 l0_3.length c0_3) := (blk_cell BK237.out 3).trans rfl; have hfz26_0 := blk_frozen BK237.out 0; have hfz26_1 := blk_frozen BK237.out 1; have hfz26_2 := blk_frozen BK237.out 2; have hfz26_3 := blk_frozen BK237.out 3))
     go_ret
     exact ⟨eQ, by repeat (first | (with_reducible first | exact HB.out | apply bA | apply bN | apply bD | refine below_set ?_ GE237.out) | exact HB.out)⟩
   ·replace c7 := Bool.eq_false_iff.mpr c7
    subst c7
    have H1 : (some false) = some r := by rw [if_neg (show ¬ (false = true) by decide)] at H; exact H
    clear H
    have H := H1
    clear H1
    obtain rfl := Option.some.inj H
    go_enter Try.func69, Try.ntmps69
    go_wp2_with (first | ((with_reducible refine gate_dst (N := 1) rfl ?_); (try (refine gate_guard (by rfl) ?_; dsimp only)); refine box_event ?hg (N := 1) ?hd (cs := #[.slice A0_0 l0_0.length c0_0, .slice A0_1 l0_1.length c0_1, .slice A0_2 l0_2.length c0_2, .slice A0_3 l0_3.length c0_3]) (t := 38) ?hr ?_; (case hd => rfl); (case hg => rfl); (case hr => first | (go_simp; done) | (go_simp; rfl)); intro gb237 hg w27 hbox hb; have n0_ := aM (below_step bQ hb); have n1_ := aM (hbox); have n2_ := aM ((by rw [hg]; exact (below_size bQ) : w.heap.size ≤ gb237)); have n3_ := aM ((by rw [hg]; exact (below_size bQ) : w.heap.size ≤ gb237)); clear HB; have HB := n0_; have BK237 := n1_; have GW237 := n2_; have GE237 := n3_; clear n0_ n1_ n2_ n3_; clear hb hbox hg; have hcz28_0 : w27.cell? ⟨gb237, 0, none⟩ = some (.slice A0_0 l0_0.length c0_0) := (blk_cell BK237.out 0).trans rfl; have hcz28_1 : w27.cell? ⟨gb237, 1, none⟩ = some (.slice A0_1 l0_1.length c0_1) := (blk_cell BK237.out 1).trans rfl; have hcz28_2 : w27.cell? ⟨gb237, 2, none⟩ = some (.slice A0_2 l0_2.length c0_2) := (blk_cell BK237.out 2).trans rfl; have hcz28_3 : w27.cell? ⟨gb237, 3, none⟩ = some (.slice A0_3 l0_3.length c0_3) := (blk_cell BK237.out 3).trans rfl; have hfz28_0 := blk_frozen BK237.out 0; have hfz28_1 := blk_frozen BK237.out 1; have hfz28_2 := blk_frozen BK237.out 2; have hfz28_3 := blk_frozen BK237.out 3) | ((with_reducible refine gate_callee (f := 134) rfl ?_); refine goesL_ (some 5) rfl rfl Try.func134 (by kernel_rfl) rfl #[.slice A0_0 l0_0.length c0_0, .int .i64 0, .int .i64 4] rfl gQ ?_; (with_reducible refine (impl_fullClasses.calls k _ _ l0_0 0 4 true _ ?side1 ?side2 A2.out).mono ?_); (case side1 => exact cQ HR0_0.out); (case side2 => exact HC0_0.out); rintro e w29 ⟨rfl, hb⟩; refine ⟨_, rfl, ?_⟩; have n0_ := aM (blk_below (g := gb237) (o := .cells #[.slice A0_0 l0_0.length c0_0, .slice A0_1 l0_1.length c0_1, .slice A0_2 l0_2.length c0_2, .slice A0_3 l0_3.length c0_3] 38 (0, 0)) (by (with_reducible repeat (first | refine blk_drewN ?_ _ | refine blk_drew ?_ | refine blk_alloc ?_ _)); exact BK237.out) hb); have n1_ := aM (below_step (by repeat (first | (with_reducible first | exact HB.out | apply bA | apply bN | apply bD | refine below_set ?_ GE237.out) | exact HB.out)) hb); clear BK237; clear HB; have BK237 := n0_; have HB := n1_; clear n0_ n1_; (try clear hb); (try clear hb2); (try clear hk); (try clear hi); have hcz30_0 : w29.cell? ⟨gb237, 0, none⟩ = some (.slice A0_0 l0_0.length c0_0) := (blk_cell BK237.out 0).trans rfl; have hcz30_1 : w29.cell? ⟨gb237, 1, none⟩ = some (.slice A0_1 l0_1.length c0_1) := (blk_cell BK237.out 1).trans rfl; have hcz30_2 : w29.cell? ⟨gb237, 2, none⟩ = some (.slice A0_2 l0_2.length c0_2) := (blk_cell BK237.out 2).trans rfl; have hcz30_3 : w29.cell? ⟨gb237, 3, none⟩ = some (.slice A0_3 l0_3.length c0_3) := (blk_cell BK237.out 3).trans rfl; have hfz30_0 := blk_frozen BK237.out 0; have hfz30_1 := blk_frozen BK237.out 1; have hfz30_2 := blk_frozen BK237.out 2; have hfz30_3 := blk_frozen BK237.out 3) | (go_at_call 134; (with_reducible refine (impl_fullClasses.calls k _ _ l0_1 1 4 true _ ?side1 ?side2 A4.out).mono ?_); (case side1 => exact cQ HR0_1.out); (case side2 => exact HC0_1.out); rintro e w31 ⟨rfl, hb⟩; have n0_ := aM (blk_below (g := gb237) (o := .cells #[.slice A0_0 l0_0.length c0_0, .slice A0_1 l0_1.length c0_1, .slice A0_2 l0_2.length c0_2, .slice A0_3 l0_3.length c0_3] 38 (0, 0)) (by (with_reducible repeat (first | refine blk_drewN ?_ _ | refine blk_drew ?_ | refine blk_alloc ?_ _)); exact BK237.out) hb); have n1_ := aM (below_step (by repeat (first | (with_reducible first | exact HB.out | apply bA | apply bN | apply bD | refine below_set ?_ GE237.out) | exact HB.out)) hb); clear BK237; clear HB; have BK237 := n0_; have HB := n1_; clear n0_ n1_; (try clear hb); (try clear hb2); (try clear hk); (try clear hi); have hcz32_0 : w31.cell? ⟨gb237, 0, none⟩ = some (.slice A0_0 l0_0.length c0_0) := (blk_cell BK237.out 0).trans rfl; have hcz32_1 : w31.cell? ⟨gb237, 1, none⟩ = some (.slice A0_1 l0_1.length c0_1) := (blk_cell BK237.out 1).trans rfl; have hcz32_2 : w31.cell? ⟨gb237, 2, none⟩ = some (.slice A0_2 l0_2.length c0_2) := (blk_cell BK237.out 2).trans rfl; have hcz32_3 : w31.cell? ⟨gb237, 3, none⟩ = some (.slice A0_3 l0_3.length c0_3) := (blk_cell BK237.out 3).trans rfl; have hfz32_0 := blk_frozen BK237.out 0; have hfz32_1 := blk_frozen BK237.out 1; have hfz32_2 := blk_frozen BK237.out 2; have hfz32_3 := blk_frozen BK237.out 3) | (go_at_call 134; (with_reducible refine (impl_fullClasses.calls k _ _ l0_2 0 4 false _ ?side1 ?side2 A6.out).mono ?_); (case side1 => exact cQ HR0_2.out); (case side2 => exact HC0_2.out); rintro e w33 ⟨rfl, hb⟩; have n0_ := aM (blk_below (g := gb237) (o := .cells #[.slice A0_0 l0_0.length c0_0, .slice A0_1 l0_1.length c0_1, .slice A0_2 l0_2.length c0_2, .slice A0_3 l0_3.length c0_3] 38 (0, 0)) (by (with_reducible repeat (first | refine blk_drewN ?_ _ | refine blk_drew ?_ | refine blk_alloc ?_ _)); exact BK237.out) hb); have n1_ := aM (below_step (by repeat (first | (with_reducible first | exact HB.out | apply bA | apply bN | apply bD | refine below_set ?_ GE237.out) | exact HB.out)) hb); clear BK237; clear HB; have BK237 := n0_; have HB := n1_; clear n0_ n1_; (try clear hb); (try clear hb2); (try clear hk); (try clear hi)))
    go_ret
    exact ⟨eQ, by repeat (first | (with_reducible first | exact HB.out | apply bA | apply bN | apply bD | refine below_set ?_ GE237.out) | exact HB.out)⟩
  ·replace c5 := Bool.eq_false_iff.mpr c5
   subst c5
   have H1 : (some false) = some r := by rw [if_neg (show ¬ (false = true) by decide)] at H; exact H
   clear H
   have H := H1
   clear H1
   obtain rfl := Option.some.inj H
   go_enter Try.func69, Try.ntmps69
   go_wp2_with (first | ((with_reducible refine gate_dst (N := 1) rfl ?_); (try (refine gate_guard (by rfl) ?_; dsimp only)); refine box_event ?hg (N := 1) ?hd (cs := #[.slice A0_0 l0_0.length c0_0, .slice A0_1 l0_1.length c0_1, .slice A0_2 l0_2.length c0_2, .slice A0_3 l0_3.length c0_3]) (t := 38) ?hr ?_; (case hd => rfl); (case hg => rfl); (case hr => first | (go_simp; done) | (go_simp; rfl)); intro gb237 hg w34 hbox hb; have n0_ := aM (below_step bQ hb); have n1_ := aM (hbox); have n2_ := aM ((by rw [hg]; exact (below_size bQ) : w.heap.size ≤ gb237)); have n3_ := aM ((by rw [hg]; exact (below_size bQ) : w.heap.size ≤ gb237)); clear HB; have HB := n0_; have BK237 := n1_; have GW237 := n2_; have GE237 := n3_; clear n0_ n1_ n2_ n3_; clear hb hbox hg; have hcz35_0 : w34.cell? ⟨gb237, 0, none⟩ = some (.slice A0_0 l0_0.length c0_0) := (blk_cell BK237.out 0).trans rfl; have hcz35_1 : w34.cell? ⟨gb237, 1, none⟩ = some (.slice A0_1 l0_1.length c0_1) := (blk_cell BK237.out 1).trans rfl; have hcz35_2 : w34.cell? ⟨gb237, 2, none⟩ = some (.slice A0_2 l0_2.length c0_2) := (blk_cell BK237.out 2).trans rfl; have hcz35_3 : w34.cell? ⟨gb237, 3, none⟩ = some (.slice A0_3 l0_3.length c0_3) := (blk_cell BK237.out 3).trans rfl; have hfz35_0 := blk_frozen BK237.out 0; have hfz35_1 := blk_frozen BK237.out 1; have hfz35_2 := blk_frozen BK237.out 2; have hfz35_3 := blk_frozen BK237.out 3) | ((with_reducible refine gate_callee (f := 134) rfl ?_); refine goesL_ (some 5) rfl rfl Try.func134 (by kernel_rfl) rfl #[.slice A0_0 l0_0.length c0_0, .int .i64 0, .int .i64 4] rfl gQ ?_; (with_reducible refine (impl_fullClasses.calls k _ _ l0_0 0 4 true _ ?side1 ?side2 A2.out).mono ?_); (case side1 => exact cQ HR0_0.out); (case side2 => exact HC0_0.out); rintro e w36 ⟨rfl, hb⟩; refine ⟨_, rfl, ?_⟩; have n0_ := aM (blk_below (g := gb237) (o := .cells #[.slice A0_0 l0_0.length c0_0, .slice A0_1 l0_1.length c0_1, .slice A0_2 l0_2.length c0_2, .slice A0_3 l0_3.length c0_3] 38 (0, 0)) (by (with_reducible repeat (first | refine blk_drewN ?_ _ | refine blk_drew ?_ | refine blk_alloc ?_ _)); exact BK237.out) hb); have n1_ := aM (below_step (by repeat (first | (with_reducible first | exact HB.out | apply bA | apply bN | apply bD | refine below_set ?_ GE237.out) | exact HB.out)) hb); clear BK237; clear HB; have BK237 := n0_; have HB := n1_; clear n0_ n1_; (try clear hb); (try clear hb2); (try clear hk); (try clear hi); have hcz37_0 : w36.cell? ⟨gb237, 0, none⟩ = some (.slice A0_0 l0_0.length c0_0) := (blk_cell BK237.out 0).trans rfl; have hcz37_1 : w36.cell? ⟨gb237, 1, none⟩ = some (.slice A0_1 l0_1.length c0_1) := (blk_cell BK237.out 1).trans rfl; have hcz37_2 : w36.cell? ⟨gb237, 2, none⟩ = some (.slice A0_2 l0_2.length c0_2) := (blk_cell BK237.out 2).trans rfl; have hcz37_3 : w36.cell? ⟨gb237, 3, none⟩ = some (.slice A0_3 l0_3.length c0_3) := (blk_cell BK237.out 3).trans rfl; have hfz37_0 := blk_frozen BK237.out 0; have hfz37_1 := blk_frozen BK237.out 1; have hfz37_2 := blk_frozen BK237.out 2; have hfz37_3 := blk_frozen BK237.out 3) | (go_at_call 134; (with_reducible refine (impl_fullClasses.calls k _ _ l0_1 1 4 false _ ?side1 ?side2 A4.out).mono ?_); (case side1 => exact cQ HR0_1.out); (case side2 => exact HC0_1.out); rintro e w38 ⟨rfl, hb⟩; have n0_ := aM (blk_below (g := gb237) (o := .cells #[.slice A0_0 l0_0.length c0_0, .slice A0_1 l0_1.length c0_1, .slice A0_2 l0_2.length c0_2, .slice A0_3 l0_3.length c0_3] 38 (0, 0)) (by (with_reducible repeat (first | refine blk_drewN ?_ _ | refine blk_drew ?_ | refine blk_alloc ?_ _)); exact BK237.out) hb); have n1_ := aM (below_step (by repeat (first | (with_reducible first | exact HB.out | apply bA | apply bN | apply bD | refine below_set ?_ GE237.out) | exact HB.out)) hb); clear BK237; clear HB; have BK237 := n0_; have HB := n1_; clear n0_ n1_; (try clear hb); (try clear hb2); (try clear hk); (try clear hi)))
   go_ret
   exact ⟨eQ, by repeat (first | (with_reducible first | exact HB.out | apply bA | apply bN | apply bD | refine below_set ?_ GE237.out) | exact HB.out)⟩
 ·replace c3 := Bool.eq_false_iff.mpr c3
  subst c3
  have H1 : (some false) = some r := by rw [if_neg (show ¬ (false = true) by decide)] at H; exact H
  clear H
  have H := H1
  clear H1
  obtain rfl := Option.some.inj H
  go_enter Try.func69, Try.ntmps69
  go_wp2_with (first | ((with_reducible refine gate_dst (N := 1) rfl ?_); (try (refine gate_guard (by rfl) ?_; dsimp only)); refine box_event ?hg (N := 1) ?hd (cs := #[.slice A0_0 l0_0.length c0_0, .slice A0_1 l0_1.length c0_1, .slice A0_2 l0_2.length c0_2, .slice A0_3 l0_3.length c0_3]) (t := 38) ?hr ?_; (case hd => rfl); (case hg => rfl); (case hr => first | (go_simp; done) | (go_simp; rfl)); intro gb237 hg w39 hbox hb; have n0_ := aM (below_step bQ hb); have n1_ := aM (hbox); have n2_ := aM ((by rw [hg]; exact (below_size bQ) : w.heap.size ≤ gb237)); have n3_ := aM ((by rw [hg]; exact (below_size bQ) : w.heap.size ≤ gb237)); clear HB; have HB := n0_; have BK237 := n1_; have GW237 := n2_; have GE237 := n3_; clear n0_ n1_ n2_ n3_; clear hb hbox hg; have hcz40_0 : w39.cell? ⟨gb237, 0, none⟩ = some (.slice A0_0 l0_0.length c0_0) := (blk_cell BK237.out 0).trans rfl; have hcz40_1 : w39.cell? ⟨gb237, 1, none⟩ = some (.slice A0_1 l0_1.length c0_1) := (blk_cell BK237.out 1).trans rfl; have hcz40_2 : w39.cell? ⟨gb237, 2, none⟩ = some (.slice A0_2 l0_2.length c0_2) := (blk_cell BK237.out 2).trans rfl; have hcz40_3 : w39.cell? ⟨gb237, 3, none⟩ = some (.slice A0_3 l0_3.length c0_3) := (blk_cell BK237.out 3).trans rfl; have hfz40_0 := blk_frozen BK237.out 0; have hfz40_1 := blk_frozen BK237.out 1; have hfz40_2 := blk_frozen BK237.out 2; have hfz40_3 := blk_frozen BK237.out 3) | ((with_reducible refine gate_callee (f := 134) rfl ?_); refine goesL_ (some 5) rfl rfl Try.func134 (by kernel_rfl) rfl #[.slice A0_0 l0_0.length c0_0, .int .i64 0, .int .i64 4] rfl gQ ?_; (with_reducible refine (impl_fullClasses.calls k _ _ l0_0 0 4 false _ ?side1 ?side2 A2.out).mono ?_); (case side1 => exact cQ HR0_0.out); (case side2 => exact HC0_0.out); rintro e w41 ⟨rfl, hb⟩; refine ⟨_, rfl, ?_⟩; have n0_ := aM (blk_below (g := gb237) (o := .cells #[.slice A0_0 l0_0.length c0_0, .slice A0_1 l0_1.length c0_1, .slice A0_2 l0_2.length c0_2, .slice A0_3 l0_3.length c0_3] 38 (0, 0)) (by (with_reducible repeat (first | refine blk_drewN ?_ _ | refine blk_drew ?_ | refine blk_alloc ?_ _)); exact BK237.out) hb); have n1_ := aM (below_step (by repeat (first | (with_reducible first | exact HB.out | apply bA | apply bN | apply bD | refine below_set ?_ GE237.out) | exact HB.out)) hb); clear BK237; clear HB; have BK237 := n0_; have HB := n1_; clear n0_ n1_; (try clear hb); (try clear hb2); (try clear hk); (try clear hi)))
  go_ret
  exact ⟨eQ, by repeat (first | (with_reducible first | exact HB.out | apply bA | apply bN | apply bD | refine below_set ?_ GE237.out) | exact HB.out)⟩

/-! ### impl_rangesOf: function 120 -/
def impl_rangesOf.l0 : Nat → List (S92) → List Int → Int → Int → Option ((List (S92)))
 | 0, _, _, _, _ => none
 | k + 1, x3, x7, x8, x9 => if x9 < x8 then (if 0 ≤ x9 then (if x9 < (x7.length : Int) then (if (x3.length : Int) > 0 then (if 0 ≤ (wrap64 ((x3.length : Int) - 1)) then (if (wrap64 ((x3.length : Int) - 1)) < (x3.length : Int) then (if ((rd_T92 x3 (wrap64 ((x3.length : Int) - 1))).f1) = (wrap64 ((rd x7 x9) - 1)) then (impl_rangesOf.l0 k (x3.set ((wrap64 ((x3.length : Int) - 1)) : Int).toNat (⟨(rd_T92 x3 (wrap64 ((x3.length : Int) - 1))).f0, rd x7 x9⟩ : S92)) x7 x8 (wrap64 (x9 + 1))) else (if x3.length < 8796093022208 then (impl_rangesOf.l0 k (x3 ++ [(⟨rd x7 x9, rd x7 x9⟩ : S92)]) x7 x8 (wrap64 (x9 + 1))) else (none))) else (none)) else (none)) else (if x3.length < 8796093022208 then (impl_rangesOf.l0 k (x3 ++ [(⟨rd x7 x9, rd x7 x9⟩ : S92)]) x7 x8 (wrap64 (x9 + 1))) else (none))) else (none)) else (none)) else (some x3)
def impl_rangesOf.f (k : Nat) (l0 : List Int) : Option ((List (S92))) := impl_rangesOf.l0 k ([] : List (S92)) l0 (l0.length : Int) 0
theorem impl_rangesOf.mono_l : ∀ k, (∀ y0 y1 y2 y3, LeO (impl_rangesOf.l0 k y0 y1 y2 y3) (impl_rangesOf.l0 (k + 1) y0 y1 y2 y3))
 | 0 => fun _ _ _ _ r h => by simp [impl_rangesOf.l0] at h
 | k + 1 => by
  have ih0 := impl_rangesOf.mono_l k
  ·intro y0 y1 y2 y3
   unfold impl_rangesOf.l0
   repeat' first
   | (with_reducible exact ih0 _ _ _ _)
   | (with_reducible exact LeO.refl _)
   | (with_reducible exact LeO.none _)
   | (with_reducible refine LeO.ite ?_ ?_)
   | (with_reducible refine LeO.bind ?_ (fun _ => ?_))
   | exact ih0 _ _ _ _
   | exact LeO.none _
   | refine LeO.ite ?_ ?_
   | refine LeO.bind ?_ (fun _ => ?_)
theorem impl_rangesOf.mono : ∀ a0 k, LeO (impl_rangesOf.f k a0) (impl_rangesOf.f (k + 1) a0) := by
 intro a0 k
 have ih0 := impl_rangesOf.mono_l k
 unfold impl_rangesOf.f
 repeat' first
   | (with_reducible exact ih0 _ _ _ _)
   | (with_reducible exact LeO.refl _)
   | (with_reducible exact LeO.none _)
   | (with_reducible refine LeO.ite ?_ ?_)
   | (with_reducible refine LeO.bind ?_ (fun _ => ?_))
   | exact ih0 _ _ _ _
   | exact LeO.none _
   | refine LeO.ite ?_ ?_
   | refine LeO.bind ?_ (fun _ => ?_)
set_option maxHeartbeats 8000000 in
set_option maxRecDepth 100000 in
theorem impl_rangesOf.calls (k : Nat) (A0 : Option Addr) (c0 : Nat) (l0 : List Int) (r : List (S92)) (w : World) (hr0 : Kd.C (Kd.int .i64) w A0 l0.length l0) (hc0 : l0.length ≤ c0) (h : impl_rangesOf.f k l0 = some r) :
  Calls Try.prog 120 #[.slice A0 l0.length c0] w fun e w' => ∃ v0_ : Value, e = .returned (v0_) ∧ Kd.R k92 92 w' w.heap.size (fun _ => True) v0_ r ∧ Below w.heap.size w w' := by
 have hu92 := Try.underlying92
 have HR0 := aM hr0
 have HC0 := aM hc0
 clear hr0 hc0
 have HB := aM (Below.refl w.heap.size w)
 have H : (impl_rangesOf.l0 k ([] : List (S92)) l0 (l0.length : Int) 0) = some r := h
 clear h
 have H' := aM H
 clear H
 go_enter Try.func120, Try.ntmps120
 go_wp2
 go_loopg [3, 9] k (fun kq v3 v9 w' => ∃ (x3_1 : List (S92)) (x9_1 : Int), v9 = .int .i64 x9_1 ∧ Aside0 (impl_rangesOf.l0 kq x3_1 l0 (l0.length : Int) x9_1 = some r) ∧ Aside0 (kq ≤ k) ∧ Aside0 (Kd.R k92 92 w' w.heap.size (fun _ => True) v3 x3_1) ∧ Aside0 (Below w.heap.size w w'))
 case atStart => exact ⟨(([] : List (S92))), (0), rQ, H', ⟨Nat.le_refl _⟩, ⟨by first | exact Kd.R_nil _ _ _ _ _ | exact Kd.N_nil _ _ _ _ _ | exact Kd.V_nil _ _ _ _ _ | exact Kd.Q_nil _ _ _ _ _ | exact Kd.S_nil _ _ _ _ _⟩, ⟨bQ⟩⟩
 case round =>
  clear H'
  try clear c1
  obtain ⟨x3_1, x9_1, rfl, HA, HK1, HO_3, HB⟩ := hrel
  cases gk with
  | zero => exact absurd HA.out (by simp [impl_rangesOf.l0])
  | succ k1 =>
   have H := HA.out
   clear HA
   simp only [impl_rangesOf.l0] at H
   by_cases c2 : x9_1 < (l0.length : Int)
   ·rw [if_pos c2] at H
    have c2b0 : decide (x9_1 < (l0.length : Int)) = true := decide_eq_true c2
    clear c2
    by_cases c3 : 0 ≤ x9_1
    ·rw [if_pos c3] at H
     have c3b0 : decide (0 ≤ x9_1) = true := decide_eq_true c3
     clear c3
     by_cases c4 : x9_1 < (l0.length : Int)
     ·rw [if_pos c4] at H
      have c4b0 : decide (x9_1 < (l0.length : Int)) = true := decide_eq_true c4
      clear c4
      by_cases c5 : (x3_1.length : Int) > 0
      ·rw [if_pos c5] at H
       have c5b0 : decide (0 < (x3_1.length : Int)) = true := decide_eq_true c5
       have c5b1 : decide (0 < x3_1.length) = true := decide_eq_true (by omega)
       clear c5
       obtain ⟨ji6, hji6⟩ : ∃ j_ : Int, (wrap64 ((x3_1.length : Int) - 1)) = j_ := ⟨_, rfl⟩
       replace H : (if 0 ≤ (ji6) then (if (ji6) < (x3_1.length : Int) then (if ((rd_T92 x3_1 (ji6)).f1) = (wrap64 ((rd l0 x9_1) - 1)) then (impl_rangesOf.l0 k1 (x3_1.set ((ji6) : Int).toNat (⟨(rd_T92 x3_1 (ji6)).f0, rd l0 x9_1⟩ : S92)) l0 (l0.length : Int) (wrap64 (x9_1 + 1))) else (if x3_1.length < 8796093022208 then (impl_rangesOf.l0 k1 (x3_1 ++ [(⟨rd l0 x9_1, rd l0 x9_1⟩ : S92)]) l0 (l0.length : Int) (wrap64 (x9_1 + 1))) else (none))) else (none)) else (none)) = some r := by first | (rw [hji6] at H; exact H) | (simp only [hji6] at H ⊢; exact H)
       have hji6w : (IntKind.i64.wrap ((x3_1.length : Int) - 1)) = ji6 := (i64_w _).trans hji6
       by_cases c7 : 0 ≤ (ji6)
       ·rw [if_pos c7] at H
        have c7b0 : decide (0 ≤ (ji6)) = true := decide_eq_true c7
        clear c7
        by_cases c8 : (ji6) < (x3_1.length : Int)
        ·rw [if_pos c8] at H
         have c8b0 : decide ((ji6) < (x3_1.length : Int)) = true := decide_eq_true c8
         clear c8
         by_cases c9 : ((rd_T92 x3_1 (ji6)).f1) = (wrap64 ((rd l0 x9_1) - 1))
         ·rw [if_pos c9] at H
          have c9b0 : (((rd_T92 x3_1 (ji6)).f1) == (wrap64 ((rd l0 x9_1) - 1))) = true := beq_iff_eq.mpr c9
          have c9b1 : (((rd_T92 x3_1 (ji6)).f1) != (wrap64 ((rd l0 x9_1) - 1))) = false := bne_eq_false_iff_eq.mpr c9
          clear c9
          obtain ⟨y244, hy244⟩ : ∃ y_ : List (S92), y_ = (x3_1.set ((ji6) : Int).toNat (⟨(rd_T92 x3_1 (ji6)).f0, rd l0 x9_1⟩ : S92)) := ⟨_, rfl⟩
          replace H : (impl_rangesOf.l0 k1 y244 l0 (l0.length : Int) (wrap64 (x9_1 + 1))) = some r := by first | (rw [hy244]; with_reducible exact H) | (have H2_ := bS H; rw [hy244]; with_reducible exact H2_) | (have H2_ := bS H; with_reducible exact H2_) | with_reducible exact H | (rw [hy244]; exact H) | exact H
          have Ny244 := aM hy244
          clear hy244
          have H' := aM H
          clear H
          have p242 : 0 ≤ (x9_1 : Int) := dA
          have q242 : x9_1 < (l0.length : Int) := dA
          obtain ⟨ad242, e242, hx242_0⟩ := Kd.at_int HR0.out x9_1 p242 q242
          cases e242
          replace hx242_0 := cB HB.out hx242_0
          replace p242 := eq_true p242
          replace q242 := eq_true q242
          obtain ⟨Ao11, co11, eo11⟩ := Kd.R_slice HO_3.out
          subst eo11
          have p243 : 0 ≤ ((ji6) : Int) := dA
          have q243 : (ji6) < (x3_1.length : Int) := dA
          obtain ⟨ad243, e243, hx243_0, hx243_1⟩ := at_T92 (Kd.R_reads' HO_3.out).2.2 (ji6) p243 q243
          cases e243
          replace p243 := eq_true p243
          replace q243 := eq_true q243
          have p10 : 0 ≤ ((ji6) : Int) := dA
          have q10 : ((ji6) : Int) < ((x3_1.length : Int) : Int) := dA
          obtain ⟨go10, co10, eo10, gb10, gl10, cl10, HG10⟩ := Kd.R_form HO_3.out (by omega)
          (first | cases eo10 | (injection eo10 with ea_ en_ ec_; (first | subst ea_ | (injection ea_ with ea_; subst ea_)); subst ec_; clear en_))
          have GB10 := aM gb10
          have GG10 := aM HG10
          clear gb10 gl10 HG10
          (first | simp only [add_plain] at hx243_0 | skip)
          (first | simp only [add_plain] at hx243_1 | skip)
          obtain ⟨ce10, hcl10, hM10, hcc10, hfr10⟩ := Kd.R_elem HO_3.out z92 ((ji6) : Int) p10 q10
          obtain rfl := k92_openM hM10
          have hx10_0 : wr.cell? ⟨go10, ((ji6) : Int).toNat * 2, none⟩ = some (.int .i64 ((rd_T92 x3_1 (ji6)).f0)) := hcc10 0 _ rfl
          have hx10_1 : wr.cell? ⟨go10, ((ji6) : Int).toNat * 2 + 1, none⟩ = some (.int .i64 ((rd_T92 x3_1 (ji6)).f1)) := hcc10 1 _ rfl
          have hf10_0 : wr.frozen? ⟨go10, ((ji6) : Int).toNat * 2, none⟩ = false := hfr10 0
          have hf10_1 : wr.frozen? ⟨go10, ((ji6) : Int).toNat * 2 + 1, none⟩ = false := hfr10 1
          clear hcl10 hcc10 hfr10; (try clear hM10)
          replace p10 := eq_true p10
          replace q10 := eq_true q10
          have HX12 := aM (show Kd.R k92 92 wr w.heap.size (fun _ => True) (.slice (some ⟨go10, 0, none⟩) x3_1.length co11) x3_1 from (by (with_reducible repeat (first | apply rA | apply rN | apply rD)); exact HO_3.out))
          obtain ⟨ce12, hcl12, hM12, hcc12, hfr12⟩ := Kd.R_elem HX12.out z92 ((ji6) : Int) (dA) (by have h_ : ((ji6) : Int) < ((x3_1.length : Int) : Int) := dA; first | exact h_ | (have e_ := (Kd.R_reads' HO_3.out).1; omega) | simpa using h_)
          obtain rfl := k92_openM hM12
          have HP12 := Kd.R_seg HX12.out ((ji6) : Int) (dA) (by have h_ : ((ji6) : Int) < ((x3_1.length : Int) : Int) := dA; first | exact h_ | (have e_ := (Kd.R_reads' HO_3.out).1; omega) | simpa using h_) (seg := [.int .i64 (rd l0 x9_1)]) (j := 1) hcl12 hcc12 (show 2 ≤ 2 from by decide) (x' := (⟨(rd_T92 x3_1 (ji6)).f0, rd l0 x9_1⟩ : S92)) (k92_mkM _ _ _ (⟨(rd_T92 x3_1 (ji6)).f0, rd l0 x9_1⟩ : S92) ) (fun _ hk => hk)
          have hx12_1 := hcc12 1 _ rfl
          (try simp only [show (k92).sz = 2 from rfl, Nat.mul_one, Nat.add_zero] at hx12_1)
          have hf12_1 := hfr12 1
          (try simp only [show (k92).sz = 2 from rfl, Nat.mul_one, Nat.add_zero] at hf12_1)
          clear hcl12 hcc12 hfr12; (try clear hM12)
          go_wp2_with (first | ((with_reducible refine gate_store (t := 2) (p := 33) rfl ?_); refine store_event (t := 2) (p := 33) (v := ?vo_w13) (w1 := (wr.setCell ⟨go10, ((ji6) : Int).toNat * 2 + 1, none⟩ (.int .i64 (rd l0 x9_1)))) ?hg ?ho ?hn ?hr ?_; (case ho => rfl); (case hg => rfl); (case hn => rfl); (case hr => first | (go_simp; done) | (go_simp; rfl)); intro w13 hw; have hg : wr.grownBy w13 (some go10) := (by rw [hw]; exact HP12.2); have hp_ : Kd.R k92 92 w13 w.heap.size (fun _ => True) (.slice (some ⟨go10, 0, none⟩) x3_1.length co11) y244 := (by rw [hw, Ny244.out]; exact HP12.1); clear HP12; have n0_ := aM (hp_); have n1_ := aM ((by rw [hw]; exact below_set (HB.out) GB10.out : Below w.heap.size w w13)); clear HO_3; clear HB; have HO_3 := n0_; have HB := n1_; clear n0_ n1_; clear hg hw hp_))
          go_roundg k1
          case measure => have := HK1.out; omega
          case rel => exact ⟨(y244), (wrap64 (x9_1 + 1)), rQ, H', ⟨by have := HK1.out; omega⟩, ⟨by (with_reducible repeat (first | apply rA | apply rN | apply rD)); exact HO_3.out⟩, ⟨bQ⟩⟩
         ·rw [if_neg c9] at H
          have c9b0 : (((rd_T92 x3_1 (ji6)).f1) == (wrap64 ((rd l0 x9_1) - 1))) = false := beq_eq_false_iff_ne.mpr c9
          have c9b1 : (((rd_T92 x3_1 (ji6)).f1) != (wrap64 ((rd l0 x9_1) - 1))) = true := bne_iff_ne.mpr c9
          by_cases c14 : x3_1.length < 8796093022208
          ·rw [if_pos c14] at H
           have LMc14 := aM c14
           clear c14
           obtain ⟨y245, hy245⟩ : ∃ y_ : List (S92), y_ = (x3_1 ++ [(⟨rd l0 x9_1, rd l0 x9_1⟩ : S92)]) := ⟨_, rfl⟩
           replace H : (impl_rangesOf.l0 k1 y245 l0 (l0.length : Int) (wrap64 (x9_1 + 1))) = some r := by first | (rw [hy245]; with_reducible exact H) | (have H2_ := bS H; rw [hy245]; with_reducible exact H2_) | (have H2_ := bS H; with_reducible exact H2_) | with_reducible exact H | (rw [hy245]; exact H) | exact H
           have Ny245 := aM hy245
           clear hy245
           have H' := aM H
           clear H
           have p242 : 0 ≤ (x9_1 : Int) := dA
           have q242 : x9_1 < (l0.length : Int) := dA
           obtain ⟨ad242, e242, hx242_0⟩ := Kd.at_int HR0.out x9_1 p242 q242
           cases e242
           replace hx242_0 := cB HB.out hx242_0
           replace p242 := eq_true p242
           replace q242 := eq_true q242
           obtain ⟨Ao15, co15, eo15⟩ := Kd.R_slice HO_3.out
           subst eo15
           have p243 : 0 ≤ ((ji6) : Int) := dA
           have q243 : (ji6) < (x3_1.length : Int) := dA
           obtain ⟨ad243, e243, hx243_0, hx243_1⟩ := at_T92 (Kd.R_reads' HO_3.out).2.2 (ji6) p243 q243
           cases e243
           replace p243 := eq_true p243
           replace q243 := eq_true q243
           go_wp2_with (first | ((with_reducible refine gate_builtin (b := .append) (xs := #[.tmp 34, .tmp 38]) rfl ?_); at_builtin; refine Kd.R_append k92 (w0 := w) w.heap.size rfl (.tmp 34) (.tmp 38) 90 92 (.agg #[(.int .i64 0), (.int .i64 0)]) 16 rfl Try.underlying90 info92 rfl (by decide) (by omega) (.slice (some ad243) x3_1.length co15) x3_1 (⟨rd l0 x9_1, rd l0 x9_1⟩ : S92) [.int .i64 (rd l0 x9_1), .int .i64 (rd l0 x9_1)] (fun _ => True) (fun _ => False) rfl rfl ?aP (fun _ hk => hk.elim) ?aF ?aO ?aB ?aS ?aL ?_; (case aP => exact k92_mkM _ _ _ (⟨rd l0 x9_1, rd l0 x9_1⟩ : S92)); (case aB => exact bQ); (case aF => exact (fun _ _ => trivial)); (case aO => exact (by (with_reducible repeat (first | apply rA | apply rN | apply rD)); exact HO_3.out)); (case aS => exact (below_size bQ)); (case aL => have := LMc14.out; omega); intro v246 w16 ho hb hg hat; rw [← Ny245.out] at ho; have n0_ := aM (hb); have n1_ := aM (ho); clear HB; clear HO_3; have HB := n0_; have HO247 := n1_; clear n0_ n1_; clear ho hb hg hat))
           go_roundg k1
           case measure => have := HK1.out; omega
           case rel => exact ⟨(y245), (wrap64 (x9_1 + 1)), rQ, H', ⟨by have := HK1.out; omega⟩, ⟨by (with_reducible repeat (first | apply rA | apply rN | apply rD)); exact HO247.out⟩, ⟨bQ⟩⟩
          ·rw [if_neg c14] at H
           exact absurd H (by simp)
        ·rw [if_neg c8] at H
         exact absurd H (by simp)
       ·rw [if_neg c7] at H
        exact absurd H (by simp)
      ·rw [if_neg c5] at H
       have c5b0 : decide (0 < (x3_1.length : Int)) = false := decide_eq_false c5
       have c5b1 : decide (0 < x3_1.length) = false := decide_eq_false (by omega)
       clear c5
       by_cases c17 : x3_1.length < 8796093022208
       ·rw [if_pos c17] at H
        have LMc17 := aM c17
        clear c17
        obtain ⟨y248, hy248⟩ : ∃ y_ : List (S92), y_ = (x3_1 ++ [(⟨rd l0 x9_1, rd l0 x9_1⟩ : S92)]) := ⟨_, rfl⟩
        replace H : (impl_rangesOf.l0 k1 y248 l0 (l0.length : Int) (wrap64 (x9_1 + 1))) = some r := by first | (rw [hy248]; with_reducible exact H) | (have H2_ := bS H; rw [hy248]; with_reducible exact H2_) | (have H2_ := bS H; with_reducible exact H2_) | with_reducible exact H | (rw [hy248]; exact H) | exact H
        have Ny248 := aM hy248
        clear hy248
        have H' := aM H
        clear H
        have p242 : 0 ≤ (x9_1 : Int) := dA
        have q242 : x9_1 < (l0.length : Int) := dA
        obtain ⟨ad242, e242, hx242_0⟩ := Kd.at_int HR0.out x9_1 p242 q242
        cases e242
        replace hx242_0 := cB HB.out hx242_0
        replace p242 := eq_true p242
        replace q242 := eq_true q242
        obtain ⟨Ao18, co18, eo18⟩ := Kd.R_slice HO_3.out
        subst eo18
        go_wp2_with (first | ((with_reducible refine gate_builtin (b := .append) (xs := #[.tmp 34, .tmp 38]) rfl ?_); at_builtin; refine Kd.R_append k92 (w0 := w) w.heap.size rfl (.tmp 34) (.tmp 38) 90 92 (.agg #[(.int .i64 0), (.int .i64 0)]) 16 rfl Try.underlying90 info92 rfl (by decide) (by omega) (.slice Ao18 x3_1.length co18) x3_1 (⟨rd l0 x9_1, rd l0 x9_1⟩ : S92) [.int .i64 (rd l0 x9_1), .int .i64 (rd l0 x9_1)] (fun _ => True) (fun _ => False) rfl rfl ?aP (fun _ hk => hk.elim) ?aF ?aO ?aB ?aS ?aL ?_; (case aP => exact k92_mkM _ _ _ (⟨rd l0 x9_1, rd l0 x9_1⟩ : S92)); (case aB => exact bQ); (case aF => exact (fun _ _ => trivial)); (case aO => exact (by (with_reducible repeat (first | apply rA | apply rN | apply rD)); exact HO_3.out)); (case aS => exact (below_size bQ)); (case aL => have := LMc17.out; omega); intro v249 w19 ho hb hg hat; rw [← Ny248.out] at ho; have n0_ := aM (hb); have n1_ := aM (ho); clear HB; clear HO_3; have HB := n0_; have HO250 := n1_; clear n0_ n1_; clear ho hb hg hat))
        go_roundg k1
        case measure => have := HK1.out; omega
        case rel => exact ⟨(y248), (wrap64 (x9_1 + 1)), rQ, H', ⟨by have := HK1.out; omega⟩, ⟨by (with_reducible repeat (first | apply rA | apply rN | apply rD)); exact HO250.out⟩, ⟨bQ⟩⟩
       ·rw [if_neg c17] at H
        exact absurd H (by simp)
     ·rw [if_neg c4] at H
      exact absurd H (by simp)
    ·rw [if_neg c3] at H
     exact absurd H (by simp)
   ·rw [if_neg c2] at H
    have c2b0 : decide (x9_1 < (l0.length : Int)) = false := decide_eq_false c2
    clear c2
    obtain rfl := Option.some.inj H
    go_wp2
    go_ret
    exact ⟨_, eQ, by (with_reducible repeat (first | apply rA | apply rN | apply rD)); exact HO_3.out, bQ⟩

/-! ### impl_Decimal: function 121, given -/
def impl_Decimal.f (a0 : Int) : Option (ByteArray) := Go.Proofs.Ytdahcapolipnbaa.Gv.decF a0
theorem impl_Decimal.calls (a0 : Int) (r : ByteArray) (w : World) (h : impl_Decimal.f a0 = some r) :
  Calls Try.prog 121 #[.int .i64 a0] w fun e w' => e = .returned (.string r) ∧ Below w.heap.size w w' := Go.Proofs.Ytdahcapolipnbaa.Gv.decF_calls a0 r w h

/-! ### strings_Join: function 122, given -/
def strings_Join.f (l0 : List ByteArray) (a1 : ByteArray) : Option (ByteArray) := Go.Proofs.Ytdahcapolipnbaa.Gv.joinF l0 a1
theorem strings_Join.calls (A0 : Option Addr) (c0 : Nat) (l0 : List ByteArray) (a1 : ByteArray) (r : ByteArray) (w : World) (hr0 : Kd.C Kd.string w A0 l0.length l0) (hc0 : l0.length ≤ c0) (h : strings_Join.f l0 a1 = some r) :
  Calls Try.prog 122 #[.slice A0 l0.length c0, .string a1] w fun e w' => e = .returned (.string r) ∧ Below w.heap.size w w' := Go.Proofs.Ytdahcapolipnbaa.Gv.joinF_calls A0 c0 l0 a1 r w hr0 hc0 h

/-! ### impl_classText: function 53 -/
def impl_classText.l0 : Nat → ByteArray → List ByteArray → List (S92) → Int → Int → Option (ByteArray)
 | 0, _, _, _, _, _ => none
 | k + 1, x1, x5, x10, x11, x12 => if x12 < x11 then (if 0 ≤ x12 then (if x12 < (x10.length : Int) then ((impl_Decimal.f ((rd_T92 x10 x12).f0)).bind fun t257 => (if ((rd_T92 x10 x12).f1) > ((rd_T92 x10 x12).f0) then ((impl_Decimal.f ((rd_T92 x10 x12).f1)).bind fun t258 => (if 1 + t258.size ≤ 9223372036854775807 then (if t257.size + ((⟨#[45]⟩ : ByteArray) ++ t258).size ≤ 9223372036854775807 then (if x5.length < 8796093022208 then (impl_classText.l0 k x1 (x5 ++ [t257 ++ ((⟨#[45]⟩ : ByteArray) ++ t258)]) x10 x11 (wrap64 (x12 + 1))) else (none)) else (none)) else (none))) else (if x5.length < 8796093022208 then (impl_classText.l0 k x1 (x5 ++ [t257]) x10 x11 (wrap64 (x12 + 1))) else (none)))) else (none)) else (none)) else ((strings_Join.f x5 x1).bind fun t254 => (some t254))
def impl_classText.f (k : Nat) (l0 : List Int) (a1 : ByteArray) : Option (ByteArray) := (impl_rangesOf.f k l0).bind fun t251 => (impl_classText.l0 k a1 ([] : List ByteArray) t251 (t251.length : Int) 0)
theorem impl_classText.mono_l : ∀ k, (∀ y0 y1 y2 y3 y4, LeO (impl_classText.l0 k y0 y1 y2 y3 y4) (impl_classText.l0 (k + 1) y0 y1 y2 y3 y4))
 | 0 => fun _ _ _ _ _ r h => by simp [impl_classText.l0] at h
 | k + 1 => by
  have ih0 := impl_classText.mono_l k
  ·intro y0 y1 y2 y3 y4
   unfold impl_classText.l0
   repeat' first
   | (with_reducible exact ih0 _ _ _ _ _)
   | (with_reducible exact impl_rangesOf.mono _ _)
   | (with_reducible exact LeO.refl _)
   | (with_reducible exact LeO.none _)
   | (with_reducible refine LeO.ite ?_ ?_)
   | (with_reducible refine LeO.bind ?_ (fun _ => ?_))
   | exact ih0 _ _ _ _ _
   | exact impl_rangesOf.mono _ _
   | exact LeO.none _
   | refine LeO.ite ?_ ?_
   | refine LeO.bind ?_ (fun _ => ?_)
theorem impl_classText.mono : ∀ a0 a1 k, LeO (impl_classText.f k a0 a1) (impl_classText.f (k + 1) a0 a1) := by
 intro a0 a1 k
 have ih0 := impl_classText.mono_l k
 unfold impl_classText.f
 repeat' first
   | (with_reducible exact ih0 _ _ _ _ _)
   | (with_reducible exact impl_rangesOf.mono _ _)
   | (with_reducible exact LeO.refl _)
   | (with_reducible exact LeO.none _)
   | (with_reducible refine LeO.ite ?_ ?_)
   | (with_reducible refine LeO.bind ?_ (fun _ => ?_))
   | exact ih0 _ _ _ _ _
   | exact impl_rangesOf.mono _ _
   | exact LeO.none _
   | refine LeO.ite ?_ ?_
   | refine LeO.bind ?_ (fun _ => ?_)
set_option maxHeartbeats 8000000 in
set_option maxRecDepth 100000 in
theorem impl_classText.calls (k : Nat) (A0 : Option Addr) (c0 : Nat) (l0 : List Int) (a1 : ByteArray) (r : ByteArray) (w : World) (hr0 : Kd.C (Kd.int .i64) w A0 l0.length l0) (hc0 : l0.length ≤ c0) (h : impl_classText.f k l0 a1 = some r) :
  Calls Try.prog 53 #[.slice A0 l0.length c0, .string a1] w fun e w' => e = .returned (.string r) ∧ Below w.heap.size w w' := by
 have hu92 := Try.underlying92
 have HR0 := aM hr0
 have HC0 := aM hc0
 clear hr0 hc0
 have HB := aM (Below.refl w.heap.size w)
 have H : ((impl_rangesOf.f k l0).bind fun t251 => (impl_classText.l0 k a1 ([] : List ByteArray) t251 (t251.length : Int) 0)) = some r := h
 clear h
 replace H := Option.bind_eq_some_iff.mp H
 obtain ⟨t251, A30, H⟩ := H
 replace H : (impl_classText.l0 k a1 ([] : List ByteArray) t251 (t251.length : Int) 0) = some r := H
 have A3 := aM A30
 clear A30
 have H' := aM H
 clear H
 go_enter Try.func53, Try.ntmps53
 go_wp2_with (first | ((with_reducible refine gate_callee (f := 120) rfl ?_); refine goesL_ (some 10) rfl rfl Try.func120 (by kernel_rfl) rfl #[.slice A0 l0.length c0] rfl gQ ?_; (with_reducible refine (impl_rangesOf.calls k _ _ l0 t251 _ ?side1 ?side2 A3.out).mono ?_); (case side1 => repeat (first | exact HR0.out | (with_reducible first | refine cA ?_ _ | refine cN ?_ _ | refine cD ?_))); (case side2 => exact HC0.out); rintro e w4 ⟨v252, rfl, ho0, hb⟩; refine ⟨_, rfl, ?_⟩; have n0_ := aM (Kd.R_lower ho0 (below_size bQ)); have n1_ := aM (below_step bQ hb); clear HB; have HO253 := n0_; have HB := n1_; clear n0_ n1_; (try clear hb); (try clear hb2); (try clear hk); (try clear hi); (try clear ho0); obtain ⟨Ao5, co5, eo5⟩ := Kd.R_slice HO253.out; subst eo5))
 go_loopg [5, 12] k (fun kq v5 v12 w' => ∃ (x5_1 : List ByteArray) (x12_1 : Int), v12 = .int .i64 x12_1 ∧ Aside0 (impl_classText.l0 kq a1 x5_1 t251 (t251.length : Int) x12_1 = some r) ∧ Aside0 (kq ≤ k) ∧ Aside0 (Kd.R Kd.string 9 w' w.heap.size (fun _ => True) v5 x5_1) ∧ Aside0 (Kd.R k92 92 w' w.heap.size (fun _ => True) (.slice Ao5 t251.length co5) t251) ∧ Aside0 (Below w.heap.size w w'))
 case atStart => exact ⟨(([] : List ByteArray)), (0), rQ, H', ⟨Nat.le_refl _⟩, ⟨by first | exact Kd.R_nil _ _ _ _ _ | exact Kd.N_nil _ _ _ _ _ | exact Kd.V_nil _ _ _ _ _ | exact Kd.Q_nil _ _ _ _ _ | exact Kd.S_nil _ _ _ _ _⟩, ⟨by (with_reducible repeat (first | apply rA | apply rN | apply rD)); exact HO253.out⟩, ⟨bQ⟩⟩
 case round =>
  clear H'
  try clear c1
  try clear p2
  try clear c5
  obtain ⟨x5_1, x12_1, rfl, HA, HK1, HO_5, HO_10, HB⟩ := hrel
  cases gk with
  | zero => exact absurd HA.out (by simp [impl_classText.l0])
  | succ k1 =>
   have H := HA.out
   clear HA
   simp only [impl_classText.l0] at H
   by_cases c6 : x12_1 < (t251.length : Int)
   ·rw [if_pos c6] at H
    have c6b0 : decide (x12_1 < (t251.length : Int)) = true := decide_eq_true c6
    clear c6
    by_cases c7 : 0 ≤ x12_1
    ·rw [if_pos c7] at H
     have c7b0 : decide (0 ≤ x12_1) = true := decide_eq_true c7
     clear c7
     by_cases c8 : x12_1 < (t251.length : Int)
     ·rw [if_pos c8] at H
      have c8b0 : decide (x12_1 < (t251.length : Int)) = true := decide_eq_true c8
      clear c8
      replace H := Option.bind_eq_some_iff.mp H
      obtain ⟨t257, A90, H⟩ := H
      replace H : (if ((rd_T92 t251 x12_1).f1) > ((rd_T92 t251 x12_1).f0) then ((impl_Decimal.f ((rd_T92 t251 x12_1).f1)).bind fun t258 => (if 1 + t258.size ≤ 9223372036854775807 then (if t257.size + ((⟨#[45]⟩ : ByteArray) ++ t258).size ≤ 9223372036854775807 then (if x5_1.length < 8796093022208 then (impl_classText.l0 k1 a1 (x5_1 ++ [t257 ++ ((⟨#[45]⟩ : ByteArray) ++ t258)]) t251 (t251.length : Int) (wrap64 (x12_1 + 1))) else (none)) else (none)) else (none))) else (if x5_1.length < 8796093022208 then (impl_classText.l0 k1 a1 (x5_1 ++ [t257]) t251 (t251.length : Int) (wrap64 (x12_1 + 1))) else (none))) = some r := H
      have A9 := aM A90
      clear A90
      by_cases c10 : ((rd_T92 t251 x12_1).f1) > ((rd_T92 t251 x12_1).f0)
      ·rw [if_pos c10] at H
       have c10b0 : decide (((rd_T92 t251 x12_1).f0) < ((rd_T92 t251 x12_1).f1)) = true := decide_eq_true c10
       clear c10
       replace H := Option.bind_eq_some_iff.mp H
       obtain ⟨t258, A110, H⟩ := H
       replace H : (if 1 + t258.size ≤ 9223372036854775807 then (if t257.size + ((⟨#[45]⟩ : ByteArray) ++ t258).size ≤ 9223372036854775807 then (if x5_1.length < 8796093022208 then (impl_classText.l0 k1 a1 (x5_1 ++ [t257 ++ ((⟨#[45]⟩ : ByteArray) ++ t258)]) t251 (t251.length : Int) (wrap64 (x12_1 + 1))) else (none)) else (none)) else (none)) = some r := H
       have A11 := aM A110
       clear A110
       by_cases c12 : 1 + t258.size ≤ 9223372036854775807
       ·rw [if_pos c12] at H
        have c12b0 := eq_true c12
        have c12b1 : decide (1 + t258.size ≤ 9223372036854775807) = true := decide_eq_true c12
        try have c12b2 : (9223372036854775807 < 1 + t258.size) = False := eq_false (Nat.not_lt.2 c12)
        by_cases c13 : t257.size + ((⟨#[45]⟩ : ByteArray) ++ t258).size ≤ 9223372036854775807
        ·rw [if_pos c13] at H
         have c13b0 := eq_true c13
         have c13b1 : decide (t257.size + ((⟨#[45]⟩ : ByteArray) ++ t258).size ≤ 9223372036854775807) = true := decide_eq_true c13
         try have c13b2 : (9223372036854775807 < t257.size + ((⟨#[45]⟩ : ByteArray) ++ t258).size) = False := eq_false (Nat.not_lt.2 c13)
         try have c13b3 : (9223372036854775807 < t257.size + (1 + t258.size)) = False := eq_false (Nat.not_lt.2 (by have h_ := c13; simp only [ByteArray.size_append] at h_; exact h_))
         try (have c13b6 := c13b0; simp only [ByteArray.size_append, ByteArray.size_extract, Nat.min_self, Int.natCast_add] at c13b6)
         try (have c13b7 := c13b1; simp only [ByteArray.size_append, ByteArray.size_extract, Nat.min_self, Int.natCast_add] at c13b7)
         by_cases c14 : x5_1.length < 8796093022208
         ·rw [if_pos c14] at H
          have LMc14 := aM c14
          clear c14
          obtain ⟨y259, hy259⟩ : ∃ y_ : List ByteArray, y_ = (x5_1 ++ [t257 ++ ((⟨#[45]⟩ : ByteArray) ++ t258)]) := ⟨_, rfl⟩
          replace H : (impl_classText.l0 k1 a1 y259 t251 (t251.length : Int) (wrap64 (x12_1 + 1))) = some r := by first | (rw [hy259]; with_reducible exact H) | (have H2_ := bS H; rw [hy259]; with_reducible exact H2_) | (have H2_ := bS H; with_reducible exact H2_) | with_reducible exact H | (rw [hy259]; exact H) | exact H
          have Ny259 := aM hy259
          clear hy259
          have H' := aM H
          clear H
          have p255 : 0 ≤ (x12_1 : Int) := dA
          have q255 : x12_1 < (t251.length : Int) := dA
          obtain ⟨ad255, e255, hx255_0, hx255_1⟩ := at_T92 (Kd.R_reads' HO_10.out).2.2 x12_1 p255 q255
          cases e255
          replace p255 := eq_true p255
          replace q255 := eq_true q255
          go_wp2_with (first | ((with_reducible refine gate_dst (N := 7) rfl ?_); refine box_event ?hg (N := 7) ?hd (cs := #[.int .i64 0, .int .i64 0]) (t := 92) ?hr ?_; (case hd => rfl); (case hg => rfl); (case hr => first | (go_simp; done) | (go_simp; rfl)); intro gb256 hg w15 hbox hb; have n0_ := aM (Kd.R_below (by (with_reducible repeat (first | apply rA | apply rN | apply rD)); exact HO_5.out) hb); have n1_ := aM (Kd.R_below (Kd.R_elderB (by (with_reducible repeat (first | apply rA | apply rN | apply rD)); exact HO_10.out) gb256 (Nat.le_of_eq hg.symm)) hb); have n2_ := aM (below_step bQ hb); have n3_ := aM (hbox); have n4_ := aM ((by rw [hg]; exact (below_size bQ) : w.heap.size ≤ gb256)); have n5_ := aM ((by rw [hg]; exact (below_size bQ) : w.heap.size ≤ gb256)); clear HO_5; clear HO_10; clear HB; have HO_5 := n0_; have HO_10 := n1_; have HB := n2_; have BK256 := n3_; have GW256 := n4_; have GE256 := n5_; clear n0_ n1_ n2_ n3_ n4_ n5_; clear hb hbox hg; have hcz16_0 : w15.cell? ⟨gb256, 0, none⟩ = some (.int .i64 0) := (blk_cell BK256.out 0).trans rfl; have hcz16_1 : w15.cell? ⟨gb256, 1, none⟩ = some (.int .i64 0) := (blk_cell BK256.out 1).trans rfl; have hfz16_0 := blk_frozen BK256.out 0; have hfz16_1 := blk_frozen BK256.out 1) | ((with_reducible refine gate_callee (f := 121) rfl ?_); refine goesL_ (some 18) rfl rfl Try.func121 (by kernel_rfl) rfl #[.int .i64 ((rd_T92 t251 x12_1).f0)] rfl gQ ?_; (with_reducible refine (impl_Decimal.calls ((rd_T92 t251 x12_1).f0) t257 _ A9.out).mono ?_); rintro e w17 ⟨rfl, hb⟩; refine ⟨_, rfl, ?_⟩; have n0_ := aM (Kd.R_below (by (with_reducible repeat (first | apply rA | apply rN | apply rD)); exact (Kd.R_mono (Kd.R_far (p := ⟨gb256, 1, none⟩) (Kd.R_far (p := ⟨gb256, 0, none⟩) (Kd.R_types HO_5.out BK256.out (by decide)) h2_ (.int .i64 ((rd_T92 t251 x12_1).f0))) h2_ (.int .i64 ((rd_T92 t251 x12_1).f1))) h1_)) hb); have n1_ := aM (Kd.R_below (by (with_reducible repeat (first | apply rA | apply rN | apply rD)); exact (Kd.R_mono (Kd.R_far (p := ⟨gb256, 1, none⟩) (Kd.R_far (p := ⟨gb256, 0, none⟩) (Kd.R_mono HO_10.out (fun k_ hk => (⟨hk, hk.2⟩ : _ ∧ k_ ≠ gb256))) h2_ (.int .i64 ((rd_T92 t251 x12_1).f0))) h2_ (.int .i64 ((rd_T92 t251 x12_1).f1))) h1_)) hb); have n2_ := aM (blk_below (g := gb256) (o := .cells #[.int .i64 ((rd_T92 t251 x12_1).f0), .int .i64 ((rd_T92 t251 x12_1).f1)] 92 (0, 0)) (by (with_reducible repeat (first | refine blk_drewN ?_ _ | refine blk_drew ?_ | refine blk_alloc ?_ _)); refine blk_put (cs := #[.int .i64 ((rd_T92 t251 x12_1).f0), .int .i64 0]) ?_ 1 _ rfl; (with_reducible repeat (first | refine blk_drewN ?_ _ | refine blk_drew ?_ | refine blk_alloc ?_ _)); refine blk_put (cs := #[.int .i64 0, .int .i64 0]) ?_ 0 _ rfl; (with_reducible repeat (first | refine blk_drewN ?_ _ | refine blk_drew ?_ | refine blk_alloc ?_ _)); exact BK256.out) hb); have n3_ := aM (below_step (by repeat (first | (with_reducible first | exact HB.out | apply bA | apply bN | apply bD | refine below_set ?_ GE256.out) | exact HB.out)) hb); clear HO_5; clear HO_10; clear BK256; clear HB; have HO_5 := n0_; have HO_10 := n1_; have BK256 := n2_; have HB := n3_; clear n0_ n1_ n2_ n3_; (try clear hb); (try clear hb2); (try clear hk); (try clear hi); have hcz18_0 : w17.cell? ⟨gb256, 0, none⟩ = some (.int .i64 ((rd_T92 t251 x12_1).f0)) := (blk_cell BK256.out 0).trans rfl; have hcz18_1 : w17.cell? ⟨gb256, 1, none⟩ = some (.int .i64 ((rd_T92 t251 x12_1).f1)) := (blk_cell BK256.out 1).trans rfl; have hfz18_0 := blk_frozen BK256.out 0; have hfz18_1 := blk_frozen BK256.out 1) | ((with_reducible refine gate_callee (f := 121) rfl ?_); refine goesL_ (some 27) rfl rfl Try.func121 (by kernel_rfl) rfl #[.int .i64 ((rd_T92 t251 x12_1).f1)] rfl gQ ?_; (with_reducible refine (impl_Decimal.calls ((rd_T92 t251 x12_1).f1) t258 _ A11.out).mono ?_); rintro e w19 ⟨rfl, hb⟩; refine ⟨_, rfl, ?_⟩; have n0_ := aM (Kd.R_below (by (with_reducible repeat (first | apply rA | apply rN | apply rD)); exact HO_5.out) hb); have n1_ := aM (Kd.R_below (by (with_reducible repeat (first | apply rA | apply rN | apply rD)); exact HO_10.out) hb); have n2_ := aM (blk_below (g := gb256) (o := .cells #[.int .i64 ((rd_T92 t251 x12_1).f0), .int .i64 ((rd_T92 t251 x12_1).f1)] 92 (0, 0)) (by (with_reducible repeat (first | refine blk_drewN ?_ _ | refine blk_drew ?_ | refine blk_alloc ?_ _)); exact BK256.out) hb); have n3_ := aM (below_step (by repeat (first | (with_reducible first | exact HB.out | apply bA | apply bN | apply bD | refine below_set ?_ GE256.out) | exact HB.out)) hb); clear HO_5; clear HO_10; clear BK256; clear HB; have HO_5 := n0_; have HO_10 := n1_; have BK256 := n2_; have HB := n3_; clear n0_ n1_ n2_ n3_; (try clear hb); (try clear hb2); (try clear hk); (try clear hi)) | ((with_reducible refine gate_builtin (b := .append) (xs := #[.tmp 30, .tmp 32]) rfl ?_); at_builtin; refine Kd.R_append Kd.string (w0 := w) w.heap.size rfl (.tmp 30) (.tmp 32) 156 9 (.string ⟨#[]⟩) 16 rfl Try.underlying156 info9 rfl (by decide) (by omega) u5 x5_1 (t257 ++ ((⟨#[45]⟩ : ByteArray) ++ t258)) [.string (t257 ++ ((⟨#[45]⟩ : ByteArray) ++ t258))] (fun _ => True) (fun _ => False) rfl rfl ?aP (fun _ hk => hk.elim) ?aF ?aO ?aB ?aS ?aL ?_; (case aP => exact rfl); (case aB => exact (by repeat (first | (with_reducible first | exact HB.out | apply bA | apply bN | apply bD | refine below_set ?_ GE256.out) | exact HB.out))); (case aF => exact (fun _ _ => trivial)); (case aO => exact (by (with_reducible repeat (first | apply rA | apply rN | apply rD)); exact HO_5.out)); (case aS => exact (below_size (by repeat (first | (with_reducible first | exact HB.out | apply bA | apply bN | apply bD | refine below_set ?_ GE256.out) | exact HB.out)))); (case aL => have := LMc14.out; omega); intro v260 w20 ho hb hg hat; rw [← Ny259.out] at ho; have n0_ := aM (Kd.R_over' (by (with_reducible repeat (first | apply rA | apply rN | apply rD)); exact HO_10.out) (Kd.R_typed (by (with_reducible repeat (first | apply rA | apply rN | apply rD)); exact HO_5.out)) (by decide) hg); have n1_ := aM (blk_grown (g := gb256) (o := .cells #[.int .i64 ((rd_T92 t251 x12_1).f0), .int .i64 ((rd_T92 t251 x12_1).f1)] 92 (0, 0)) (by (with_reducible repeat (first | refine blk_drewN ?_ _ | refine blk_drew ?_ | refine blk_alloc ?_ _)); exact BK256.out) hg (Kd.R_ne HO_5.out BK256.out (by decide))); have n2_ := aM (hb); have n3_ := aM (ho); clear HO_10; clear BK256; clear HB; clear HO_5; have HO_10 := n0_; have BK256 := n1_; have HB := n2_; have HO261 := n3_; clear n0_ n1_ n2_ n3_; clear ho hb hg hat))
          go_roundg k1
          case measure => have := HK1.out; omega
          case rel => exact ⟨(y259), (wrap64 (x12_1 + 1)), rQ, H', ⟨by have := HK1.out; omega⟩, ⟨by (with_reducible repeat (first | apply rA | apply rN | apply rD)); exact HO261.out⟩, ⟨by (with_reducible repeat (first | apply rA | apply rN | apply rD)); exact Kd.R_mono HO_10.out (fun _ hk => trivial)⟩, ⟨by repeat (first | (with_reducible first | exact HB.out | apply bA | apply bN | apply bD | refine below_set ?_ GE256.out) | exact HB.out)⟩⟩
         ·rw [if_neg c14] at H
          exact absurd H (by simp)
        ·rw [if_neg c13] at H
         exact absurd H (by simp)
       ·rw [if_neg c12] at H
        exact absurd H (by simp)
      ·rw [if_neg c10] at H
       have c10b0 : decide (((rd_T92 t251 x12_1).f0) < ((rd_T92 t251 x12_1).f1)) = false := decide_eq_false c10
       clear c10
       by_cases c21 : x5_1.length < 8796093022208
       ·rw [if_pos c21] at H
        have LMc21 := aM c21
        clear c21
        obtain ⟨y262, hy262⟩ : ∃ y_ : List ByteArray, y_ = (x5_1 ++ [t257]) := ⟨_, rfl⟩
        replace H : (impl_classText.l0 k1 a1 y262 t251 (t251.length : Int) (wrap64 (x12_1 + 1))) = some r := by first | (rw [hy262]; with_reducible exact H) | (have H2_ := bS H; rw [hy262]; with_reducible exact H2_) | (have H2_ := bS H; with_reducible exact H2_) | with_reducible exact H | (rw [hy262]; exact H) | exact H
        have Ny262 := aM hy262
        clear hy262
        have H' := aM H
        clear H
        have p255 : 0 ≤ (x12_1 : Int) := dA
        have q255 : x12_1 < (t251.length : Int) := dA
        obtain ⟨ad255, e255, hx255_0, hx255_1⟩ := at_T92 (Kd.R_reads' HO_10.out).2.2 x12_1 p255 q255
        cases e255
        replace p255 := eq_true p255
        replace q255 := eq_true q255
        go_wp2_with (first | ((with_reducible refine gate_dst (N := 7) rfl ?_); refine box_event ?hg (N := 7) ?hd (cs := #[.int .i64 0, .int .i64 0]) (t := 92) ?hr ?_; (case hd => rfl); (case hg => rfl); (case hr => first | (go_simp; done) | (go_simp; rfl)); intro gb256 hg w22 hbox hb; have n0_ := aM (Kd.R_below (by (with_reducible repeat (first | apply rA | apply rN | apply rD)); exact HO_5.out) hb); have n1_ := aM (Kd.R_below (Kd.R_elderB (by (with_reducible repeat (first | apply rA | apply rN | apply rD)); exact HO_10.out) gb256 (Nat.le_of_eq hg.symm)) hb); have n2_ := aM (below_step bQ hb); have n3_ := aM (hbox); have n4_ := aM ((by rw [hg]; exact (below_size bQ) : w.heap.size ≤ gb256)); have n5_ := aM ((by rw [hg]; exact (below_size bQ) : w.heap.size ≤ gb256)); clear HO_5; clear HO_10; clear HB; have HO_5 := n0_; have HO_10 := n1_; have HB := n2_; have BK256 := n3_; have GW256 := n4_; have GE256 := n5_; clear n0_ n1_ n2_ n3_ n4_ n5_; clear hb hbox hg; have hcz23_0 : w22.cell? ⟨gb256, 0, none⟩ = some (.int .i64 0) := (blk_cell BK256.out 0).trans rfl; have hcz23_1 : w22.cell? ⟨gb256, 1, none⟩ = some (.int .i64 0) := (blk_cell BK256.out 1).trans rfl; have hfz23_0 := blk_frozen BK256.out 0; have hfz23_1 := blk_frozen BK256.out 1) | ((with_reducible refine gate_callee (f := 121) rfl ?_); refine goesL_ (some 18) rfl rfl Try.func121 (by kernel_rfl) rfl #[.int .i64 ((rd_T92 t251 x12_1).f0)] rfl gQ ?_; (with_reducible refine (impl_Decimal.calls ((rd_T92 t251 x12_1).f0) t257 _ A9.out).mono ?_); rintro e w24 ⟨rfl, hb⟩; refine ⟨_, rfl, ?_⟩; have n0_ := aM (Kd.R_below (by (with_reducible repeat (first | apply rA | apply rN | apply rD)); exact (Kd.R_mono (Kd.R_far (p := ⟨gb256, 1, none⟩) (Kd.R_far (p := ⟨gb256, 0, none⟩) (Kd.R_types HO_5.out BK256.out (by decide)) h2_ (.int .i64 ((rd_T92 t251 x12_1).f0))) h2_ (.int .i64 ((rd_T92 t251 x12_1).f1))) h1_)) hb); have n1_ := aM (Kd.R_below (by (with_reducible repeat (first | apply rA | apply rN | apply rD)); exact (Kd.R_mono (Kd.R_far (p := ⟨gb256, 1, none⟩) (Kd.R_far (p := ⟨gb256, 0, none⟩) (Kd.R_mono HO_10.out (fun k_ hk => (⟨hk, hk.2⟩ : _ ∧ k_ ≠ gb256))) h2_ (.int .i64 ((rd_T92 t251 x12_1).f0))) h2_ (.int .i64 ((rd_T92 t251 x12_1).f1))) h1_)) hb); have n2_ := aM (blk_below (g := gb256) (o := .cells #[.int .i64 ((rd_T92 t251 x12_1).f0), .int .i64 ((rd_T92 t251 x12_1).f1)] 92 (0, 0)) (by (with_reducible repeat (first | refine blk_drewN ?_ _ | refine blk_drew ?_ | refine blk_alloc ?_ _)); refine blk_put (cs := #[.int .i64 ((rd_T92 t251 x12_1).f0), .int .i64 0]) ?_ 1 _ rfl; (with_reducible repeat (first | refine blk_drewN ?_ _ | refine blk_drew ?_ | refine blk_alloc ?_ _)); refine blk_put (cs := #[.int .i64 0, .int .i64 0]) ?_ 0 _ rfl; (with_reducible repeat (first | refine blk_drewN ?_ _ | refine blk_drew ?_ | refine blk_alloc ?_ _)); exact BK256.out) hb); have n3_ := aM (below_step (by repeat (first | (with_reducible first | exact HB.out | apply bA | apply bN | apply bD | refine below_set ?_ GE256.out) | exact HB.out)) hb); clear HO_5; clear HO_10; clear BK256; clear HB; have HO_5 := n0_; have HO_10 := n1_; have BK256 := n2_; have HB := n3_; clear n0_ n1_ n2_ n3_; (try clear hb); (try clear hb2); (try clear hk); (try clear hi); have hcz25_0 : w24.cell? ⟨gb256, 0, none⟩ = some (.int .i64 ((rd_T92 t251 x12_1).f0)) := (blk_cell BK256.out 0).trans rfl; have hcz25_1 : w24.cell? ⟨gb256, 1, none⟩ = some (.int .i64 ((rd_T92 t251 x12_1).f1)) := (blk_cell BK256.out 1).trans rfl; have hfz25_0 := blk_frozen BK256.out 0; have hfz25_1 := blk_frozen BK256.out 1) | ((with_reducible refine gate_builtin (b := .append) (xs := #[.tmp 30, .tmp 32]) rfl ?_); at_builtin; refine Kd.R_append Kd.string (w0 := w) w.heap.size rfl (.tmp 30) (.tmp 32) 156 9 (.string ⟨#[]⟩) 16 rfl Try.underlying156 info9 rfl (by decide) (by omega) u5 x5_1 t257 [.string t257] (fun _ => True) (fun _ => False) rfl rfl ?aP (fun _ hk => hk.elim) ?aF ?aO ?aB ?aS ?aL ?_; (case aP => exact rfl); (case aB => exact (by repeat (first | (with_reducible first | exact HB.out | apply bA | apply bN | apply bD | refine below_set ?_ GE256.out) | exact HB.out))); (case aF => exact (fun _ _ => trivial)); (case aO => exact (by (with_reducible repeat (first | apply rA | apply rN | apply rD)); exact HO_5.out)); (case aS => exact (below_size (by repeat (first | (with_reducible first | exact HB.out | apply bA | apply bN | apply bD | refine below_set ?_ GE256.out) | exact HB.out)))); (case aL => have := LMc21.out; omega); intro v263 w26 ho hb hg hat; rw [← Ny262.out] at ho; have n0_ := aM (Kd.R_over' (by (with_reducible repeat (first | apply rA | apply rN | apply rD)); exact HO_10.out) (Kd.R_typed (by (with_reducible repeat (first | apply rA | apply rN | apply rD)); exact HO_5.out)) (by decide) hg); have n1_ := aM (blk_grown (g := gb256) (o := .cells #[.int .i64 ((rd_T92 t251 x12_1).f0), .int .i64 ((rd_T92 t251 x12_1).f1)] 92 (0, 0)) (by (with_reducible repeat (first | refine blk_drewN ?_ _ | refine blk_drew ?_ | refine blk_alloc ?_ _)); exact BK256.out) hg (Kd.R_ne HO_5.out BK256.out (by decide))); have n2_ := aM (hb); have n3_ := aM (ho); clear HO_10; clear BK256; clear HB; clear HO_5; have HO_10 := n0_; have BK256 := n1_; have HB := n2_; have HO264 := n3_; clear n0_ n1_ n2_ n3_; clear ho hb hg hat))
        go_roundg k1
        case measure => have := HK1.out; omega
        case rel => exact ⟨(y262), (wrap64 (x12_1 + 1)), rQ, H', ⟨by have := HK1.out; omega⟩, ⟨by (with_reducible repeat (first | apply rA | apply rN | apply rD)); exact HO264.out⟩, ⟨by (with_reducible repeat (first | apply rA | apply rN | apply rD)); exact Kd.R_mono HO_10.out (fun _ hk => trivial)⟩, ⟨by repeat (first | (with_reducible first | exact HB.out | apply bA | apply bN | apply bD | refine below_set ?_ GE256.out) | exact HB.out)⟩⟩
       ·rw [if_neg c21] at H
        exact absurd H (by simp)
     ·rw [if_neg c8] at H
      exact absurd H (by simp)
    ·rw [if_neg c7] at H
     exact absurd H (by simp)
   ·rw [if_neg c6] at H
    have c6b0 : decide (x12_1 < (t251.length : Int)) = false := decide_eq_false c6
    clear c6
    replace H := Option.bind_eq_some_iff.mp H
    obtain ⟨t254, A270, H⟩ := H
    replace H : (some t254) = some r := H
    have A27 := aM A270
    clear A270
    obtain rfl := Option.some.inj H
    obtain ⟨Ao28, co28, eo28⟩ := Kd.R_slice HO_5.out
    subst eo28
    go_wp2_with (first | ((with_reducible refine gate_callee (f := 122) rfl ?_); refine goesL_ (some 37) rfl rfl Try.func122 (by kernel_rfl) rfl #[.slice Ao28 x5_1.length co28, .string a1] rfl gQ ?_; (with_reducible refine (strings_Join.calls _ _ x5_1 a1 t254 _ ?side1 ?side2 A27.out).mono ?_); (case side1 => repeat (first | exact (Kd.R_reads' HO_5.out).2.2 | (with_reducible first | refine cA ?_ _ | refine cN ?_ _ | refine cD ?_))); (case side2 => exact (Kd.R_reads' HO_5.out).2.1); rintro e w29 ⟨rfl, hb⟩; refine ⟨_, rfl, ?_⟩; have n0_ := aM (Kd.R_below (by (with_reducible repeat (first | apply rA | apply rN | apply rD)); exact HO_5.out) hb); have n1_ := aM (Kd.R_below (by (with_reducible repeat (first | apply rA | apply rN | apply rD)); exact HO_10.out) hb); have n2_ := aM (below_step bQ hb); clear HO_5; clear HO_10; clear HB; have HO_5 := n0_; have HO_10 := n1_; have HB := n2_; clear n0_ n1_ n2_; (try clear hb); (try clear hb2); (try clear hk); (try clear hi)))
    go_ret
    exact ⟨eQ, bQ⟩

/-! ### impl_classesText: function 70 -/
def impl_classesText.l0 : Nat → List ByteArray → List (List Int) → Int → Int → Option (ByteArray)
 | 0, _, _, _, _ => none
 | k + 1, x3, x9, x10, x11 => if x11 < x10 then (if 0 ≤ x11 then (if x11 < (x9.length : Int) then ((impl_classText.f k (rd_L1 x9 x11) (⟨#[44]⟩ : ByteArray)).bind fun t266 => (if x3.length < 8796093022208 then (impl_classesText.l0 k (x3 ++ [t266]) x9 x10 (wrap64 (x11 + 1))) else (none))) else (none)) else (none)) else ((strings_Join.f x3 (⟨#[59]⟩ : ByteArray)).bind fun t270 => (some t270))
def impl_classesText.f (k : Nat) (l0 : List (List Int)) : Option (ByteArray) := if (l0.length : Int) = 0 then (some (⟨#[46]⟩ : ByteArray)) else (impl_classesText.l0 k ([] : List ByteArray) l0 (l0.length : Int) 0)
theorem impl_classesText.mono_l : ∀ k, (∀ y0 y1 y2 y3, LeO (impl_classesText.l0 k y0 y1 y2 y3) (impl_classesText.l0 (k + 1) y0 y1 y2 y3))
 | 0 => fun _ _ _ _ r h => by simp [impl_classesText.l0] at h
 | k + 1 => by
  have ih0 := impl_classesText.mono_l k
  ·intro y0 y1 y2 y3
   unfold impl_classesText.l0
   repeat' first
   | (with_reducible exact ih0 _ _ _ _)
   | (with_reducible exact impl_classText.mono _ _ _)
   | (with_reducible exact LeO.refl _)
   | (with_reducible exact LeO.none _)
   | (with_reducible refine LeO.ite ?_ ?_)
   | (with_reducible refine LeO.bind ?_ (fun _ => ?_))
   | exact ih0 _ _ _ _
   | exact impl_classText.mono _ _ _
   | exact LeO.none _
   | refine LeO.ite ?_ ?_
   | refine LeO.bind ?_ (fun _ => ?_)
theorem impl_classesText.mono : ∀ a0 k, LeO (impl_classesText.f k a0) (impl_classesText.f (k + 1) a0) := by
 intro a0 k
 have ih0 := impl_classesText.mono_l k
 unfold impl_classesText.f
 repeat' first
   | (with_reducible exact ih0 _ _ _ _)
   | (with_reducible exact impl_classText.mono _ _ _)
   | (with_reducible exact LeO.refl _)
   | (with_reducible exact LeO.none _)
   | (with_reducible refine LeO.ite ?_ ?_)
   | (with_reducible refine LeO.bind ?_ (fun _ => ?_))
   | exact ih0 _ _ _ _
   | exact impl_classText.mono _ _ _
   | exact LeO.none _
   | refine LeO.ite ?_ ?_
   | refine LeO.bind ?_ (fun _ => ?_)
set_option maxHeartbeats 8000000 in
set_option maxRecDepth 100000 in
theorem impl_classesText.calls (k : Nat) (A0 : Option Addr) (c0 : Nat) (l0 : List (List Int)) (r : ByteArray) (w : World) (hr0 : Kd.C (Kd.slice 2 (Kd.int .i64)) w A0 l0.length l0) (hc0 : l0.length ≤ c0) (h : impl_classesText.f k l0 = some r) :
  Calls Try.prog 70 #[.slice A0 l0.length c0] w fun e w' => e = .returned (.string r) ∧ Below w.heap.size w w' := by
 have HR0 := aM hr0
 have HC0 := aM hc0
 clear hr0 hc0
 have HB := aM (Below.refl w.heap.size w)
 have H : (if (l0.length : Int) = 0 then (some (⟨#[46]⟩ : ByteArray)) else (impl_classesText.l0 k ([] : List ByteArray) l0 (l0.length : Int) 0)) = some r := h
 clear h
 by_cases c2 : (l0.length : Int) = 0
 ·rw [if_pos c2] at H
  have c2b0 : ((l0.length : Int) == 0) = true := beq_iff_eq.mpr c2
  have c2b1 : ((l0.length : Int) != 0) = false := bne_eq_false_iff_eq.mpr c2
  clear c2
  obtain rfl := Option.some.inj H
  go_enter Try.func70, Try.ntmps70
  go_wp2
  go_ret
  exact ⟨eQ, bQ⟩
 ·rw [if_neg c2] at H
  have c2b0 : ((l0.length : Int) == 0) = false := beq_eq_false_iff_ne.mpr c2
  have c2b1 : ((l0.length : Int) != 0) = true := bne_iff_ne.mpr c2
  have c2b2 : ¬ (l0 = []) := fun h_ => c2 (by rw [h_]; rfl)
  have H' := aM H
  clear H
  go_enter Try.func70, Try.ntmps70
  go_wp2
  go_loopg [3, 11] k (fun kq v3 v11 w' => ∃ (x3_1 : List ByteArray) (x11_1 : Int), v11 = .int .i64 x11_1 ∧ Aside0 (impl_classesText.l0 kq x3_1 l0 (l0.length : Int) x11_1 = some r) ∧ Aside0 (kq ≤ k) ∧ Aside0 (Kd.R Kd.string 9 w' w.heap.size (fun _ => True) v3 x3_1) ∧ Aside0 (Below w.heap.size w w'))
  case atStart => exact ⟨(([] : List ByteArray)), (0), rQ, H', ⟨Nat.le_refl _⟩, ⟨by first | exact Kd.R_nil _ _ _ _ _ | exact Kd.N_nil _ _ _ _ _ | exact Kd.V_nil _ _ _ _ _ | exact Kd.Q_nil _ _ _ _ _ | exact Kd.S_nil _ _ _ _ _⟩, ⟨bQ⟩⟩
  case round =>
   clear H'
   try clear c2
   try clear c2b0
   try clear c2b1
   try clear c2b2
   try clear p2
   obtain ⟨x3_1, x11_1, rfl, HA, HK1, HO_3, HB⟩ := hrel
   cases gk with
   | zero => exact absurd HA.out (by simp [impl_classesText.l0])
   | succ k1 =>
    have H := HA.out
    clear HA
    simp only [impl_classesText.l0] at H
    by_cases c3 : x11_1 < (l0.length : Int)
    ·rw [if_pos c3] at H
     have c3b0 : decide (x11_1 < (l0.length : Int)) = true := decide_eq_true c3
     clear c3
     by_cases c4 : 0 ≤ x11_1
     ·rw [if_pos c4] at H
      have c4b0 : decide (0 ≤ x11_1) = true := decide_eq_true c4
      clear c4
      by_cases c5 : x11_1 < (l0.length : Int)
      ·rw [if_pos c5] at H
       have c5b0 : decide (x11_1 < (l0.length : Int)) = true := decide_eq_true c5
       clear c5
       replace H := Option.bind_eq_some_iff.mp H
       obtain ⟨t266, A60, H⟩ := H
       replace H : (if x3_1.length < 8796093022208 then (impl_classesText.l0 k1 (x3_1 ++ [t266]) l0 (l0.length : Int) (wrap64 (x11_1 + 1))) else (none)) = some r := H
       have A6 := aM A60
       clear A60
       by_cases c7 : x3_1.length < 8796093022208
       ·rw [if_pos c7] at H
        have LMc7 := aM c7
        clear c7
        obtain ⟨y267, hy267⟩ : ∃ y_ : List ByteArray, y_ = (x3_1 ++ [t266]) := ⟨_, rfl⟩
        replace H : (impl_classesText.l0 k1 y267 l0 (l0.length : Int) (wrap64 (x11_1 + 1))) = some r := by first | (rw [hy267]; with_reducible exact H) | (have H2_ := bS H; rw [hy267]; with_reducible exact H2_) | (have H2_ := bS H; with_reducible exact H2_) | with_reducible exact H | (rw [hy267]; exact H) | exact H
        have Ny267 := aM hy267
        clear hy267
        have H' := aM H
        clear H
        have p265 : 0 ≤ (x11_1 : Int) := dA
        have q265 : x11_1 < (l0.length : Int) := dA
        obtain ⟨ad265, A265_0, c265_0, e265, hx265_0, hl265_0, hi265_0⟩ := at_L1 HR0.out x11_1 p265 q265
        cases e265
        replace hx265_0 := cB HB.out hx265_0
        have HR265_0 := aM hi265_0
        have HC265_0 := aM hl265_0
        clear hi265_0 hl265_0
        replace p265 := eq_true p265
        replace q265 := eq_true q265
        go_wp2_with (first | ((with_reducible refine gate_callee (f := 53) rfl ?_); refine goesL_ (some 17) rfl rfl Try.func53 (by kernel_rfl) rfl #[.slice A265_0 (rd_L1 l0 x11_1).length c265_0, .string (⟨#[44]⟩ : ByteArray)] rfl gQ ?_; (with_reducible refine (impl_classText.calls k1 _ _ (rd_L1 l0 x11_1) (⟨#[44]⟩ : ByteArray) t266 _ ?side1 ?side2 A6.out).mono ?_); (case side1 => exact cQ HR265_0.out); (case side2 => exact HC265_0.out); rintro e w8 ⟨rfl, hb⟩; refine ⟨_, rfl, ?_⟩; have n0_ := aM (Kd.R_below (by (with_reducible repeat (first | apply rA | apply rN | apply rD)); exact HO_3.out) hb); have n1_ := aM (below_step bQ hb); clear HO_3; clear HB; have HO_3 := n0_; have HB := n1_; clear n0_ n1_; (try clear hb); (try clear hb2); (try clear hk); (try clear hi)) | ((with_reducible refine gate_builtin (b := .append) (xs := #[.tmp 15, .tmp 18]) rfl ?_); at_builtin; refine Kd.R_append Kd.string (w0 := w) w.heap.size rfl (.tmp 15) (.tmp 18) 156 9 (.string ⟨#[]⟩) 16 rfl Try.underlying156 info9 rfl (by decide) (by omega) u3 x3_1 t266 [.string t266] (fun _ => True) (fun _ => False) rfl rfl ?aP (fun _ hk => hk.elim) ?aF ?aO ?aB ?aS ?aL ?_; (case aP => exact rfl); (case aB => exact bQ); (case aF => exact (fun _ _ => trivial)); (case aO => exact (by (with_reducible repeat (first | apply rA | apply rN | apply rD)); exact HO_3.out)); (case aS => exact (below_size bQ)); (case aL => have := LMc7.out; omega); intro v268 w9 ho hb hg hat; rw [← Ny267.out] at ho; have n0_ := aM (hb); have n1_ := aM (ho); clear HB; clear HO_3; have HB := n0_; have HO269 := n1_; clear n0_ n1_; clear ho hb hg hat))
        go_roundg k1
        case measure => have := HK1.out; omega
        case rel => exact ⟨(y267), (wrap64 (x11_1 + 1)), rQ, H', ⟨by have := HK1.out; omega⟩, ⟨by (with_reducible repeat (first | apply rA | apply rN | apply rD)); exact HO269.out⟩, ⟨bQ⟩⟩
       ·rw [if_neg c7] at H
        exact absurd H (by simp)
      ·rw [if_neg c5] at H
       exact absurd H (by simp)
     ·rw [if_neg c4] at H
      exact absurd H (by simp)
    ·rw [if_neg c3] at H
     have c3b0 : decide (x11_1 < (l0.length : Int)) = false := decide_eq_false c3
     clear c3
     replace H := Option.bind_eq_some_iff.mp H
     obtain ⟨t270, A100, H⟩ := H
     replace H : (some t270) = some r := H
     have A10 := aM A100
     clear A100
     obtain rfl := Option.some.inj H
     obtain ⟨Ao11, co11, eo11⟩ := Kd.R_slice HO_3.out
     subst eo11
     go_wp2_with (first | ((with_reducible refine gate_callee (f := 122) rfl ?_); refine goesL_ (some 22) rfl rfl Try.func122 (by kernel_rfl) rfl #[.slice Ao11 x3_1.length co11, .string (⟨#[59]⟩ : ByteArray)] rfl gQ ?_; (with_reducible refine (strings_Join.calls _ _ x3_1 (⟨#[59]⟩ : ByteArray) t270 _ ?side1 ?side2 A10.out).mono ?_); (case side1 => repeat (first | exact (Kd.R_reads' HO_3.out).2.2 | (with_reducible first | refine cA ?_ _ | refine cN ?_ _ | refine cD ?_))); (case side2 => exact (Kd.R_reads' HO_3.out).2.1); rintro e w12 ⟨rfl, hb⟩; refine ⟨_, rfl, ?_⟩; have n0_ := aM (Kd.R_below (by (with_reducible repeat (first | apply rA | apply rN | apply rD)); exact HO_3.out) hb); have n1_ := aM (below_step bQ hb); clear HO_3; clear HB; have HO_3 := n0_; have HB := n1_; clear n0_ n1_; (try clear hb); (try clear hb2); (try clear hk); (try clear hi)))
     go_ret
     exact ⟨eQ, bQ⟩

end Go.Proofs.Ytdahcapolipnbaa.QFnExactRuleText
