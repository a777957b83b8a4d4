/- What some Go functions answer, each as a Lean function, and that the machine answers so: written by a program of this session out of the translation. -/
import Derived.Test.YtdahcapolipnbaaQFnExactRuleTextx0
import Derived.Test.YtdahcapolipnbaaQFnExactRuleTextx1
import Derived.Test.YtdahcapolipnbaaQFnExactRuleTextx3
namespace Go.Proofs.Ytdahcapolipnbaa.QFnExactRuleText
open Go.RowKit Go.Proofs.YtdahcapolipnbaaW.PrintWords Go.Proofs.YtdahcapolipnbaaW.PrintLast Go.Proofs.YtdahcapolipnbaaW.PrintMore Go.Proofs.Ytdahcapolipnbaa.Rp
attribute [local go_sem] max2_int min2_int max_two min_two max_three min_three max_four min_four   -- for this text's walks alone
set_option linter.unusedVariables false
set_option linter.unusedSimpArgs false

/-! ### spec_l25Rule_at: function 66 -/
def spec_l25Rule_at.l0 : Nat → Int → List (S38) → Int → Option (Bool)
 | 0, _, _, _ => none
 | k + 1, x3, x1000, x1001 => if x3 < (((rd_T38 x1000 x1001).f3).length : Int) then (if 0 ≤ x3 then ((spec_l00In.f (rd ((rd_T38 x1000 x1001).f3) x3) 0 39).bind fun t177 => (if t177 = true then (spec_l25Rule_at.l0 k (wrap64 (x3 + 1)) x1000 x1001) else (some false))) else (none)) else ((spec_l25Classes.f k ((rd_T38 x1000 x1001).f0) 0).bind fun t179 => (if t179 = true then ((spec_l25Classes.f k ((rd_T38 x1000 x1001).f1) 1).bind fun t181 => (if t181 = true then ((spec_l25Classes.f k ((rd_T38 x1000 x1001).f2) 0).bind fun t183 => (if t183 = true then (some (decide ((((rd_T38 x1000 x1001).f3).length : Int) ≤ 4))) else (some false))) else (some false))) else (some false)))
def spec_l25Rule_at.f (k : Nat) (l0_0 : List (S38)) (a0_1 : Int) : Option (Bool) := spec_l25Rule_at.l0 k 0 l0_0 a0_1
theorem spec_l25Rule_at.mono_l : ∀ k, (∀ y0 y1 y2, LeO (spec_l25Rule_at.l0 k y0 y1 y2) (spec_l25Rule_at.l0 (k + 1) y0 y1 y2))
 | 0 => fun _ _ _ r h => by simp [spec_l25Rule_at.l0] at h
 | k + 1 => by
  have ih0 := spec_l25Rule_at.mono_l k
  ·intro y0 y1 y2
   unfold spec_l25Rule_at.l0
   repeat' first
   | (with_reducible exact ih0 _ _ _)
   | (with_reducible exact spec_l25Classes.mono _ _ _)
   | (with_reducible exact LeO.refl _)
   | (with_reducible exact LeO.none _)
   | (with_reducible refine LeO.ite ?_ ?_)
   | (with_reducible refine LeO.bind ?_ (fun _ => ?_))
   | exact ih0 _ _ _
   | exact spec_l25Classes.mono _ _ _
   | exact LeO.none _
   | refine LeO.ite ?_ ?_
   | refine LeO.bind ?_ (fun _ => ?_)
theorem spec_l25Rule_at.mono : ∀ a0 a1 k, LeO (spec_l25Rule_at.f k a0 a1) (spec_l25Rule_at.f (k + 1) a0 a1) := by
 intro a0 a1 k
 have ih0 := spec_l25Rule_at.mono_l k
 unfold spec_l25Rule_at.f
 repeat' first
   | (with_reducible exact ih0 _ _ _)
   | (with_reducible exact spec_l25Classes.mono _ _ _)
   | (with_reducible exact LeO.refl _)
   | (with_reducible exact LeO.none _)
   | (with_reducible refine LeO.ite ?_ ?_)
   | (with_reducible refine LeO.bind ?_ (fun _ => ?_))
   | exact ih0 _ _ _
   | exact spec_l25Classes.mono _ _ _
   | exact LeO.none _
   | refine LeO.ite ?_ ?_
   | refine LeO.bind ?_ (fun _ => ?_)
set_option maxHeartbeats 8000000 in
set_option maxRecDepth 100000 in
theorem spec_l25Rule_at.calls (k : Nat) (p0_ : Addr) (l0_0 : List (S38)) (a0_1 : Int) (r : Bool) (w : World) (hP0_ : RPtr k38 ((a0_1 : Int).toNat * 4) w p0_ l0_0 a0_1) (h : spec_l25Rule_at.f k l0_0 a0_1 = some r) :
  Calls Try.prog 66 #[.pointer (some p0_)] w fun e w' => e = .returned (.bool r) ∧ Below w.heap.size w w' := by
 obtain ⟨ad0_, rfl, hr0_0, hi0_, hj0_⟩ := hP0_
 have hc0_0 : l0_0.length ≤ l0_0.length := Nat.le_refl _
 replace hi0_ := decide_eq_true hi0_
 replace hj0_ := decide_eq_true hj0_
 obtain ⟨ad9000, A9000_0, c9000_0, A9000_1, c9000_1, A9000_2, c9000_2, A9000_3, c9000_3, e9000, HX9000_0, HX9000_1, HX9000_2, HX9000_3, HC9000_0, HR9000_0, HC9000_1, HR9000_1, HC9000_2, HR9000_2, HC9000_3, HR9000_3⟩ := at_T38 hr0_0 a0_1 (of_decide_eq_true hi0_) (of_decide_eq_true hj0_)
 obtain rfl : ad0_ = ad9000 := (by injection e9000)
 replace HX9000_0 := aM HX9000_0
 replace HX9000_1 := aM HX9000_1
 replace HX9000_2 := aM HX9000_2
 replace HX9000_3 := aM HX9000_3
 replace HC9000_0 := aM HC9000_0
 replace HR9000_0 := aM HR9000_0
 replace HC9000_1 := aM HC9000_1
 replace HR9000_1 := aM HR9000_1
 replace HC9000_2 := aM HC9000_2
 replace HR9000_2 := aM HR9000_2
 replace HC9000_3 := aM HC9000_3
 replace HR9000_3 := aM HR9000_3
 have HR0_0 := aM hr0_0
 have HC0_0 := aM hc0_0
 clear hr0_0 hc0_0
 have HB := aM (Below.refl w.heap.size w)
 have H : (spec_l25Rule_at.l0 k 0 l0_0 a0_1) = some r := h
 clear h
 have H' := aM H
 clear H
 go_enter Try.func66, Try.ntmps66
 go_wp2
 go_loopg [3] k (fun kq v3 w' => ∃ (x3_1 : Int), v3 = .int .i64 x3_1 ∧ Aside0 (spec_l25Rule_at.l0 kq x3_1 l0_0 a0_1 = some r) ∧ Aside0 (kq ≤ k) ∧ Aside0 (Below w.heap.size w w'))
 case atStart => exact ⟨(0), rQ, H', ⟨Nat.le_refl _⟩, ⟨bQ⟩⟩
 case round =>
  clear H'
  obtain ⟨x3_1, rfl, HA, HK1, HB⟩ := hrel
  cases gk with
  | zero => exact absurd HA.out (by simp [spec_l25Rule_at.l0])
  | succ k1 =>
   have H := HA.out
   clear HA
   simp only [spec_l25Rule_at.l0] at H
   by_cases c2 : x3_1 < (((rd_T38 l0_0 a0_1).f3).length : Int)
   ·rw [if_pos c2] at H
    have c2b0 : decide (x3_1 < (((rd_T38 l0_0 a0_1).f3).length : Int)) = true := decide_eq_true c2
    clear c2
    by_cases c3 : 0 ≤ x3_1
    ·rw [if_pos c3] at H
     have c3b0 : decide (0 ≤ x3_1) = true := decide_eq_true c3
     clear c3
     replace H := Option.bind_eq_some_iff.mp H
     obtain ⟨t177, A40, H⟩ := H
     replace H : (if t177 = true then (spec_l25Rule_at.l0 k1 (wrap64 (x3_1 + 1)) l0_0 a0_1) else (some false)) = some r := H
     have A4 := aM A40
     clear A40
     by_cases c5 : t177 = true
     ·subst c5
      have H1 : (spec_l25Rule_at.l0 k1 (wrap64 (x3_1 + 1)) l0_0 a0_1) = some r := by rw [if_pos rfl] at H; exact H
      clear H
      have H := H1
      clear H1
      have H' := aM H
      clear H
      have hx174_0 := HX9000_0.out
      have hx174_1 := HX9000_1.out
      have hx174_2 := HX9000_2.out
      have hx174_3 := HX9000_3.out
      replace hx174_0 := cB HB.out hx174_0
      replace hx174_1 := cB HB.out hx174_1
      replace hx174_2 := cB HB.out hx174_2
      replace hx174_3 := cB HB.out hx174_3
      have HR174_0 := HR9000_0
      have HC174_0 := HC9000_0
      have HR174_1 := HR9000_1
      have HC174_1 := HC9000_1
      have HR174_2 := HR9000_2
      have HC174_2 := HC9000_2
      have HR174_3 := HR9000_3
      have HC174_3 := HC9000_3
      have hx175_0 := HX9000_0.out
      have hx175_1 := HX9000_1.out
      have hx175_2 := HX9000_2.out
      have hx175_3 := HX9000_3.out
      replace hx175_0 := cB HB.out hx175_0
      replace hx175_1 := cB HB.out hx175_1
      replace hx175_2 := cB HB.out hx175_2
      replace hx175_3 := cB HB.out hx175_3
      have HR175_0 := HR9000_0
      have HC175_0 := HC9000_0
      have HR175_1 := HR9000_1
      have HC175_1 := HC9000_1
      have HR175_2 := HR9000_2
      have HC175_2 := HC9000_2
      have HR175_3 := HR9000_3
      have HC175_3 := HC9000_3
      have p176 : 0 ≤ (x3_1 : Int) := dA
      have q176 : x3_1 < (((rd_T38 l0_0 a0_1).f3).length : Int) := dA
      obtain ⟨ad176, e176, hx176_0⟩ := Kd.at_int HR175_3.out x3_1 p176 q176
      cases e176
      replace hx176_0 := cB HB.out hx176_0
      replace p176 := eq_true p176
      replace q176 := eq_true q176
      go_wp2_with (first | ((with_reducible refine gate_callee (f := 54) rfl ?_); refine goesL_ (some 20) rfl rfl Try.func54 (by kernel_rfl) rfl #[.int .i64 (rd ((rd_T38 l0_0 a0_1).f3) x3_1), .int .i64 0, .int .i64 39] rfl gQ ?_; (with_reducible refine (spec_l00In.calls (rd ((rd_T38 l0_0 a0_1).f3) x3_1) 0 39 true _ A4.out).mono ?_); rintro e w' ⟨rfl, ⟨nd, rfl⟩⟩; refine ⟨_, rfl, ?_⟩))
      go_roundg k1
      case measure => have := HK1.out; omega
      case rel => exact ⟨(wrap64 (x3_1 + 1)), rQ, H', ⟨by have := HK1.out; omega⟩, ⟨bQ⟩⟩
     ·replace c5 := Bool.eq_false_iff.mpr c5
      subst c5
      have H1 : (some false) = some r := by rw [if_neg (show ¬ (false = true) by decide)] at H; exact H
      clear H
      have H := H1
      clear H1
      obtain rfl := Option.some.inj H
      have hx174_0 := HX9000_0.out
      have hx174_1 := HX9000_1.out
      have hx174_2 := HX9000_2.out
      have hx174_3 := HX9000_3.out
      replace hx174_0 := cB HB.out hx174_0
      replace hx174_1 := cB HB.out hx174_1
      replace hx174_2 := cB HB.out hx174_2
      replace hx174_3 := cB HB.out hx174_3
      have HR174_0 := HR9000_0
      have HC174_0 := HC9000_0
      have HR174_1 := HR9000_1
      have HC174_1 := HC9000_1
      have HR174_2 := HR9000_2
      have HC174_2 := HC9000_2
      have HR174_3 := HR9000_3
      have HC174_3 := HC9000_3
      have hx175_0 := HX9000_0.out
      have hx175_1 := HX9000_1.out
      have hx175_2 := HX9000_2.out
      have hx175_3 := HX9000_3.out
      replace hx175_0 := cB HB.out hx175_0
      replace hx175_1 := cB HB.out hx175_1
      replace hx175_2 := cB HB.out hx175_2
      replace hx175_3 := cB HB.out hx175_3
      have HR175_0 := HR9000_0
      have HC175_0 := HC9000_0
      have HR175_1 := HR9000_1
      have HC175_1 := HC9000_1
      have HR175_2 := HR9000_2
      have HC175_2 := HC9000_2
      have HR175_3 := HR9000_3
      have HC175_3 := HC9000_3
      have p176 : 0 ≤ (x3_1 : Int) := dA
      have q176 : x3_1 < (((rd_T38 l0_0 a0_1).f3).length : Int) := dA
      obtain ⟨ad176, e176, hx176_0⟩ := Kd.at_int HR175_3.out x3_1 p176 q176
      cases e176
      replace hx176_0 := cB HB.out hx176_0
      replace p176 := eq_true p176
      replace q176 := eq_true q176
      go_wp2_with (first | ((with_reducible refine gate_callee (f := 54) rfl ?_); refine goesL_ (some 20) rfl rfl Try.func54 (by kernel_rfl) rfl #[.int .i64 (rd ((rd_T38 l0_0 a0_1).f3) x3_1), .int .i64 0, .int .i64 39] rfl gQ ?_; (with_reducible refine (spec_l00In.calls (rd ((rd_T38 l0_0 a0_1).f3) x3_1) 0 39 false _ A4.out).mono ?_); rintro e w' ⟨rfl, ⟨nd, rfl⟩⟩; refine ⟨_, rfl, ?_⟩))
      go_ret
      exact ⟨eQ, bQ⟩
    ·rw [if_neg c3] at H
     exact absurd H (by simp)
   ·rw [if_neg c2] at H
    have c2b0 : decide (x3_1 < (((rd_T38 l0_0 a0_1).f3).length : Int)) = false := decide_eq_false c2
    clear c2
    replace H := Option.bind_eq_some_iff.mp H
    obtain ⟨t179, A60, H⟩ := H
    replace H : (if t179 = true then ((spec_l25Classes.f k1 ((rd_T38 l0_0 a0_1).f1) 1).bind fun t181 => (if t181 = true then ((spec_l25Classes.f k1 ((rd_T38 l0_0 a0_1).f2) 0).bind fun t183 => (if t183 = true then (some (decide ((((rd_T38 l0_0 a0_1).f3).length : Int) ≤ 4))) else (some false))) else (some false))) else (some false)) = some r := H
    have A6 := aM A60
    clear A60
    by_cases c7 : t179 = true
    ·subst c7
     have H1 : ((spec_l25Classes.f k1 ((rd_T38 l0_0 a0_1).f1) 1).bind fun t181 => (if t181 = true then ((spec_l25Classes.f k1 ((rd_T38 l0_0 a0_1).f2) 0).bind fun t183 => (if t183 = true then (some (decide ((((rd_T38 l0_0 a0_1).f3).length : Int) ≤ 4))) else (some false))) else (some false))) = some r := by rw [if_pos rfl] at H; exact H
     clear H
     have H := H1
     clear H1
     replace H := Option.bind_eq_some_iff.mp H
     obtain ⟨t181, A80, H⟩ := H
     replace H : (if t181 = true then ((spec_l25Classes.f k1 ((rd_T38 l0_0 a0_1).f2) 0).bind fun t183 => (if t183 = true then (some (decide ((((rd_T38 l0_0 a0_1).f3).length : Int) ≤ 4))) else (some false))) else (some false)) = some r := H
     have A8 := aM A80
     clear A80
     by_cases c9 : t181 = true
     ·subst c9
      have H1 : ((spec_l25Classes.f k1 ((rd_T38 l0_0 a0_1).f2) 0).bind fun t183 => (if t183 = true then (some (decide ((((rd_T38 l0_0 a0_1).f3).length : Int) ≤ 4))) else (some false))) = some r := by rw [if_pos rfl] at H; exact H
      clear H
      have H := H1
      clear H1
      replace H := Option.bind_eq_some_iff.mp H
      obtain ⟨t183, A100, H⟩ := H
      replace H : (if t183 = true then (some (decide ((((rd_T38 l0_0 a0_1).f3).length : Int) ≤ 4))) else (some false)) = some r := H
      have A10 := aM A100
      clear A100
      by_cases c11 : t183 = true
      ·subst c11
       have H1 : (some (decide ((((rd_T38 l0_0 a0_1).f3).length : Int) ≤ 4))) = some r := by rw [if_pos rfl] at H; exact H
       clear H
       have H := H1
       clear H1
       obtain rfl := Option.some.inj H
       have hx174_0 := HX9000_0.out
       have hx174_1 := HX9000_1.out
       have hx174_2 := HX9000_2.out
       have hx174_3 := HX9000_3.out
       replace hx174_0 := cB HB.out hx174_0
       replace hx174_1 := cB HB.out hx174_1
       replace hx174_2 := cB HB.out hx174_2
       replace hx174_3 := cB HB.out hx174_3
       have HR174_0 := HR9000_0
       have HC174_0 := HC9000_0
       have HR174_1 := HR9000_1
       have HC174_1 := HC9000_1
       have HR174_2 := HR9000_2
       have HC174_2 := HC9000_2
       have HR174_3 := HR9000_3
       have HC174_3 := HC9000_3
       have hx178_0 := HX9000_0.out
       have hx178_1 := HX9000_1.out
       have hx178_2 := HX9000_2.out
       have hx178_3 := HX9000_3.out
       replace hx178_0 := cB HB.out hx178_0
       replace hx178_1 := cB HB.out hx178_1
       replace hx178_2 := cB HB.out hx178_2
       replace hx178_3 := cB HB.out hx178_3
       have HR178_0 := HR9000_0
       have HC178_0 := HC9000_0
       have HR178_1 := HR9000_1
       have HC178_1 := HC9000_1
       have HR178_2 := HR9000_2
       have HC178_2 := HC9000_2
       have HR178_3 := HR9000_3
       have HC178_3 := HC9000_3
       go_wp2_with (first | ((with_reducible refine gate_callee (f := 131) rfl ?_); refine goesL_ (some 26) rfl rfl Try.func131 (by kernel_rfl) rfl #[.slice A9000_0 ((rd_T38 l0_0 a0_1).f0).length c9000_0, .int .i64 0] rfl gQ ?_; (with_reducible refine (spec_l25Classes.calls k1 _ _ ((rd_T38 l0_0 a0_1).f0) 0 true _ ?side1 ?side2 A6.out).mono ?_); (case side1 => exact cQ HR178_0.out); (case side2 => exact HC178_0.out); rintro e w' ⟨rfl, ⟨nd, rfl⟩⟩; refine ⟨_, rfl, ?_⟩; have hx180_0 := HX9000_0.out; have hx180_1 := HX9000_1.out; have hx180_2 := HX9000_2.out; have hx180_3 := HX9000_3.out; replace hx180_0 := cB HB.out hx180_0; replace hx180_1 := cB HB.out hx180_1; replace hx180_2 := cB HB.out hx180_2; replace hx180_3 := cB HB.out hx180_3; have HR180_0 := HR9000_0; have HC180_0 := HC9000_0; have HR180_1 := HR9000_1; have HC180_1 := HC9000_1; have HR180_2 := HR9000_2; have HC180_2 := HC9000_2; have HR180_3 := HR9000_3; have HC180_3 := HC9000_3) | (go_at_call 131; (with_reducible refine (spec_l25Classes.calls k1 _ _ ((rd_T38 l0_0 a0_1).f1) 1 true _ ?side1 ?side2 A8.out).mono ?_); (case side1 => exact cQ HR180_1.out); (case side2 => exact HC180_1.out); rintro e w' ⟨rfl, ⟨nd, rfl⟩⟩; have hx182_0 := HX9000_0.out; have hx182_1 := HX9000_1.out; have hx182_2 := HX9000_2.out; have hx182_3 := HX9000_3.out; replace hx182_0 := cB HB.out hx182_0; replace hx182_1 := cB HB.out hx182_1; replace hx182_2 := cB HB.out hx182_2; replace hx182_3 := cB HB.out hx182_3; have HR182_0 := HR9000_0; have HC182_0 := HC9000_0; have HR182_1 := HR9000_1; have HC182_1 := HC9000_1; have HR182_2 := HR9000_2; have HC182_2 := HC9000_2; have HR182_3 := HR9000_3; have HC182_3 := HC9000_3) | (go_at_call 131; (with_reducible refine (spec_l25Classes.calls k1 _ _ ((rd_T38 l0_0 a0_1).f2) 0 true _ ?side1 ?side2 A10.out).mono ?_); (case side1 => exact cQ HR182_2.out); (case side2 => exact HC182_2.out); rintro e w' ⟨rfl, ⟨nd, rfl⟩⟩; have hx184_0 := HX9000_0.out; have hx184_1 := HX9000_1.out; have hx184_2 := HX9000_2.out; have hx184_3 := HX9000_3.out; replace hx184_0 := cB HB.out hx184_0; replace hx184_1 := cB HB.out hx184_1; replace hx184_2 := cB HB.out hx184_2; replace hx184_3 := cB HB.out hx184_3; have HR184_0 := HR9000_0; have HC184_0 := HC9000_0; have HR184_1 := HR9000_1; have HC184_1 := HC9000_1; have HR184_2 := HR9000_2; have HC184_2 := HC9000_2; have HR184_3 := HR9000_3; have HC184_3 := HC9000_3))
       go_ret
       exact ⟨eQ, bQ⟩
      ·replace c11 := Bool.eq_false_iff.mpr c11
       subst c11
       have H1 : (some false) = some r := by rw [if_neg (show ¬ (false = true) by decide)] at H; exact H
       clear H
       have H := H1
       clear H1
       obtain rfl := Option.some.inj H
       have hx174_0 := HX9000_0.out
       have hx174_1 := HX9000_1.out
       have hx174_2 := HX9000_2.out
       have hx174_3 := HX9000_3.out
       replace hx174_0 := cB HB.out hx174_0
       replace hx174_1 := cB HB.out hx174_1
       replace hx174_2 := cB HB.out hx174_2
       replace hx174_3 := cB HB.out hx174_3
       have HR174_0 := HR9000_0
       have HC174_0 := HC9000_0
       have HR174_1 := HR9000_1
       have HC174_1 := HC9000_1
       have HR174_2 := HR9000_2
       have HC174_2 := HC9000_2
       have HR174_3 := HR9000_3
       have HC174_3 := HC9000_3
       have hx178_0 := HX9000_0.out
       have hx178_1 := HX9000_1.out
       have hx178_2 := HX9000_2.out
       have hx178_3 := HX9000_3.out
       replace hx178_0 := cB HB.out hx178_0
       replace hx178_1 := cB HB.out hx178_1
       replace hx178_2 := cB HB.out hx178_2
       replace hx178_3 := cB HB.out hx178_3
       have HR178_0 := HR9000_0
       have HC178_0 := HC9000_0
       have HR178_1 := HR9000_1
       have HC178_1 := HC9000_1
       have HR178_2 := HR9000_2
       have HC178_2 := HC9000_2
       have HR178_3 := HR9000_3
       have HC178_3 := HC9000_3
       go_wp2_with (first | ((with_reducible refine gate_callee (f := 131) rfl ?_); refine goesL_ (some 26) rfl rfl Try.func131 (by kernel_rfl) rfl #[.slice A9000_0 ((rd_T38 l0_0 a0_1).f0).length c9000_0, .int .i64 0] rfl gQ ?_; (with_reducible refine (spec_l25Classes.calls k1 _ _ ((rd_T38 l0_0 a0_1).f0) 0 true _ ?side1 ?side2 A6.out).mono ?_); (case side1 => exact cQ HR178_0.out); (case side2 => exact HC178_0.out); rintro e w' ⟨rfl, ⟨nd, rfl⟩⟩; refine ⟨_, rfl, ?_⟩; have hx180_0 := HX9000_0.out; have hx180_1 := HX9000_1.out; have hx180_2 := HX9000_2.out; have hx180_3 := HX9000_3.out; replace hx180_0 := cB HB.out hx180_0; replace hx180_1 := cB HB.out hx180_1; replace hx180_2 := cB HB.out hx180_2; replace hx180_3 := cB HB.out hx180_3; have HR180_0 := HR9000_0; have HC180_0 := HC9000_0; have HR180_1 := HR9000_1; have HC180_1 := HC9000_1; have HR180_2 := HR9000_2; have HC180_2 := HC9000_2; have HR180_3 := HR9000_3; have HC180_3 := HC9000_3) | (go_at_call 131; (with_reducible refine (spec_l25Classes.calls k1 _ _ ((rd_T38 l0_0 a0_1).f1) 1 true _ ?side1 ?side2 A8.out).mono ?_); (case side1 => exact cQ HR180_1.out); (case side2 => exact HC180_1.out); rintro e w' ⟨rfl, ⟨nd, rfl⟩⟩; have hx182_0 := HX9000_0.out; have hx182_1 := HX9000_1.out; have hx182_2 := HX9000_2.out; have hx182_3 := HX9000_3.out; replace hx182_0 := cB HB.out hx182_0; replace hx182_1 := cB HB.out hx182_1; replace hx182_2 := cB HB.out hx182_2; replace hx182_3 := cB HB.out hx182_3; have HR182_0 := HR9000_0; have HC182_0 := HC9000_0; have HR182_1 := HR9000_1; have HC182_1 := HC9000_1; have HR182_2 := HR9000_2; have HC182_2 := HC9000_2; have HR182_3 := HR9000_3; have HC182_3 := HC9000_3) | (go_at_call 131; (with_reducible refine (spec_l25Classes.calls k1 _ _ ((rd_T38 l0_0 a0_1).f2) 0 false _ ?side1 ?side2 A10.out).mono ?_); (case side1 => exact cQ HR182_2.out); (case side2 => exact HC182_2.out); rintro e w' ⟨rfl, ⟨nd, rfl⟩⟩))
       go_ret
       exact ⟨eQ, bQ⟩
     ·replace c9 := Bool.eq_false_iff.mpr c9
      subst c9
      have H1 : (some false) = some r := by rw [if_neg (show ¬ (false = true) by decide)] at H; exact H
      clear H
      have H := H1
      clear H1
      obtain rfl := Option.some.inj H
      have hx174_0 := HX9000_0.out
      have hx174_1 := HX9000_1.out
      have hx174_2 := HX9000_2.out
      have hx174_3 := HX9000_3.out
      replace hx174_0 := cB HB.out hx174_0
      replace hx174_1 := cB HB.out hx174_1
      replace hx174_2 := cB HB.out hx174_2
      replace hx174_3 := cB HB.out hx174_3
      have HR174_0 := HR9000_0
      have HC174_0 := HC9000_0
      have HR174_1 := HR9000_1
      have HC174_1 := HC9000_1
      have HR174_2 := HR9000_2
      have HC174_2 := HC9000_2
      have HR174_3 := HR9000_3
      have HC174_3 := HC9000_3
      have hx178_0 := HX9000_0.out
      have hx178_1 := HX9000_1.out
      have hx178_2 := HX9000_2.out
      have hx178_3 := HX9000_3.out
      replace hx178_0 := cB HB.out hx178_0
      replace hx178_1 := cB HB.out hx178_1
      replace hx178_2 := cB HB.out hx178_2
      replace hx178_3 := cB HB.out hx178_3
      have HR178_0 := HR9000_0
      have HC178_0 := HC9000_0
      have HR178_1 := HR9000_1
      have HC178_1 := HC9000_1
      have HR178_2 := HR9000_2
      have HC178_2 := HC9000_2
      have HR178_3 := HR9000_3
      have HC178_3 := HC9000_3
      go_wp2_with (first | ((with_reducible refine gate_callee (f := 131) rfl ?_); refine goesL_ (some 26) rfl rfl Try.func131 (by kernel_rfl) rfl #[.slice A9000_0 ((rd_T38 l0_0 a0_1).f0).length c9000_0, .int .i64 0] rfl gQ ?_; (with_reducible refine (spec_l25Classes.calls k1 _ _ ((rd_T38 l0_0 a0_1).f0) 0 true _ ?side1 ?side2 A6.out).mono ?_); (case side1 => exact cQ HR178_0.out); (case side2 => exact HC178_0.out); rintro e w' ⟨rfl, ⟨nd, rfl⟩⟩; refine ⟨_, rfl, ?_⟩; have hx180_0 := HX9000_0.out; have hx180_1 := HX9000_1.out; have hx180_2 := HX9000_2.out; have hx180_3 := HX9000_3.out; replace hx180_0 := cB HB.out hx180_0; replace hx180_1 := cB HB.out hx180_1; replace hx180_2 := cB HB.out hx180_2; replace hx180_3 := cB HB.out hx180_3; have HR180_0 := HR9000_0; have HC180_0 := HC9000_0; have HR180_1 := HR9000_1; have HC180_1 := HC9000_1; have HR180_2 := HR9000_2; have HC180_2 := HC9000_2; have HR180_3 := HR9000_3; have HC180_3 := HC9000_3) | (go_at_call 131; (with_reducible refine (spec_l25Classes.calls k1 _ _ ((rd_T38 l0_0 a0_1).f1) 1 false _ ?side1 ?side2 A8.out).mono ?_); (case side1 => exact cQ HR180_1.out); (case side2 => exact HC180_1.out); rintro e w' ⟨rfl, ⟨nd, rfl⟩⟩))
      go_ret
      exact ⟨eQ, bQ⟩
    ·replace c7 := Bool.eq_false_iff.mpr c7
     subst c7
     have H1 : (some false) = some r := by rw [if_neg (show ¬ (false = true) by decide)] at H; exact H
     clear H
     have H := H1
     clear H1
     obtain rfl := Option.some.inj H
     have hx174_0 := HX9000_0.out
     have hx174_1 := HX9000_1.out
     have hx174_2 := HX9000_2.out
     have hx174_3 := HX9000_3.out
     replace hx174_0 := cB HB.out hx174_0
     replace hx174_1 := cB HB.out hx174_1
     replace hx174_2 := cB HB.out hx174_2
     replace hx174_3 := cB HB.out hx174_3
     have HR174_0 := HR9000_0
     have HC174_0 := HC9000_0
     have HR174_1 := HR9000_1
     have HC174_1 := HC9000_1
     have HR174_2 := HR9000_2
     have HC174_2 := HC9000_2
     have HR174_3 := HR9000_3
     have HC174_3 := HC9000_3
     have hx178_0 := HX9000_0.out
     have hx178_1 := HX9000_1.out
     have hx178_2 := HX9000_2.out
     have hx178_3 := HX9000_3.out
     replace hx178_0 := cB HB.out hx178_0
     replace hx178_1 := cB HB.out hx178_1
     replace hx178_2 := cB HB.out hx178_2
     replace hx178_3 := cB HB.out hx178_3
     have HR178_0 := HR9000_0
     have HC178_0 := HC9000_0
     have HR178_1 := HR9000_1
     have HC178_1 := HC9000_1
     have HR178_2 := HR9000_2
     have HC178_2 := HC9000_2
     have HR178_3 := HR9000_3
     have HC178_3 := HC9000_3
     go_wp2_with (first | ((with_reducible refine gate_callee (f := 131) rfl ?_); refine goesL_ (some 26) rfl rfl Try.func131 (by kernel_rfl) rfl #[.slice A9000_0 ((rd_T38 l0_0 a0_1).f0).length c9000_0, .int .i64 0] rfl gQ ?_; (with_reducible refine (spec_l25Classes.calls k1 _ _ ((rd_T38 l0_0 a0_1).f0) 0 false _ ?side1 ?side2 A6.out).mono ?_); (case side1 => exact cQ HR178_0.out); (case side2 => exact HC178_0.out); rintro e w' ⟨rfl, ⟨nd, rfl⟩⟩; refine ⟨_, rfl, ?_⟩))
     go_ret
     exact ⟨eQ, bQ⟩

/-! ### spec_l25RuleText_at: function 67 -/
abbrev mkspec_l873_0 : Array Bool := #[ff,ff,ff,ff,ff,ff,ff,ff,ff,ff,ff,ff,ff,ff,ff,ff,ff,ff,ff,ff,ff,ff,ff,ff,ff,ff,ff,ff]
abbrev mkspec_l873_1 : Array Bool := #[tt,ff,ff,ff,ff,ff,ff,ff,ff,ff,ff,ff,ff,ff,ff,ff,ff,ff,ff,ff,ff,ff,ff,ff,ff,ff,ff,ff]
abbrev mkspec_l873_2 : Array Bool := #[tt,tt,ff,ff,ff,ff,ff,ff,ff,ff,ff,ff,ff,ff,ff,ff,ff,ff,ff,ff,ff,ff,ff,ff,ff,ff,ff,ff]
abbrev mkspec_l873_3 : Array Bool := #[tt,tt,tt,ff,ff,ff,ff,ff,ff,ff,ff,ff,ff,ff,ff,ff,ff,ff,ff,ff,ff,ff,ff,ff,ff,ff,ff,ff]
abbrev mkspec_l873_4 : Array Bool := #[tt,tt,tt,ff,ff,ff,ff,tt,ff,ff,ff,ff,ff,ff,ff,ff,ff,ff,ff,ff,ff,ff,ff,ff,ff,ff,ff,ff]
abbrev mkspec_l873_5 : Array Bool := #[tt,tt,tt,ff,ff,ff,ff,tt,tt,ff,ff,ff,ff,ff,ff,ff,ff,ff,ff,ff,ff,ff,ff,ff,ff,ff,ff,ff]
abbrev mkspec_l873_6 : Array Bool := #[tt,tt,tt,ff,ff,ff,ff,tt,tt,tt,ff,ff,ff,ff,ff,ff,ff,ff,ff,ff,ff,ff,ff,ff,ff,ff,ff,ff]
abbrev mkspec_l873_7 : Array Bool := #[tt,tt,tt,ff,ff,ff,ff,tt,tt,tt,ff,ff,ff,ff,tt,ff,ff,ff,ff,ff,ff,ff,ff,ff,ff,ff,ff,ff]
abbrev mkspec_l873_8 : Array Bool := #[tt,tt,tt,ff,ff,ff,ff,tt,tt,tt,ff,ff,ff,ff,tt,tt,ff,ff,ff,ff,ff,ff,ff,ff,ff,ff,ff,ff]
abbrev mkspec_l873_9 : Array Bool := #[tt,tt,tt,ff,ff,ff,ff,tt,tt,tt,ff,ff,ff,ff,tt,tt,tt,ff,ff,ff,ff,ff,ff,ff,ff,ff,ff,ff]
abbrev mkspec_l873_10 : Array Bool := #[tt,tt,tt,ff,ff,ff,ff,tt,tt,tt,ff,ff,ff,ff,tt,tt,tt,ff,ff,ff,ff,tt,ff,ff,ff,ff,ff,ff]
abbrev mkspec_l873_11 : Array Bool := #[tt,tt,tt,ff,ff,ff,ff,tt,tt,tt,ff,ff,ff,ff,tt,tt,tt,ff,ff,ff,ff,tt,tt,ff,ff,ff,ff,ff]
abbrev mkspec_l873_12 : Array Bool := #[tt,tt,tt,ff,ff,ff,ff,tt,tt,tt,ff,ff,ff,ff,tt,tt,tt,ff,ff,ff,ff,tt,tt,tt,ff,ff,ff,ff]
abbrev mkspec_l873_13 : Array Bool := #[tt,tt,tt,tt,ff,ff,ff,tt,tt,tt,ff,ff,ff,ff,tt,tt,tt,ff,ff,ff,ff,tt,tt,tt,ff,ff,ff,ff]
abbrev mkspec_l873_14 : Array Bool := #[tt,tt,tt,tt,ff,ff,ff,tt,tt,tt,tt,ff,ff,ff,tt,tt,tt,ff,ff,ff,ff,tt,tt,tt,ff,ff,ff,ff]
abbrev mkspec_l873_15 : Array Bool := #[tt,tt,tt,tt,ff,ff,ff,tt,tt,tt,tt,ff,ff,ff,tt,tt,tt,tt,ff,ff,ff,tt,tt,tt,ff,ff,ff,ff]
abbrev mkspec_l873_16 : Array Bool := #[tt,tt,tt,tt,ff,ff,ff,tt,tt,tt,tt,ff,ff,ff,tt,tt,tt,tt,ff,ff,ff,tt,tt,tt,tt,ff,ff,ff]
abbrev mkspec_l873_17 : Array Bool := #[tt,tt,tt,tt,tt,ff,ff,tt,tt,tt,tt,ff,ff,ff,tt,tt,tt,tt,ff,ff,ff,tt,tt,tt,tt,ff,ff,ff]
abbrev mkspec_l873_18 : Array Bool := #[tt,tt,tt,tt,tt,tt,ff,tt,tt,tt,tt,ff,ff,ff,tt,tt,tt,tt,ff,ff,ff,tt,tt,tt,tt,ff,ff,ff]
abbrev mkspec_l873_19 : Array Bool := #[tt,tt,tt,tt,tt,tt,tt,tt,tt,tt,tt,ff,ff,ff,tt,tt,tt,tt,ff,ff,ff,tt,tt,tt,tt,ff,ff,ff]
abbrev mkspec_l873_20 : Array Bool := #[tt,tt,tt,tt,tt,tt,tt,tt,tt,tt,tt,tt,ff,ff,tt,tt,tt,tt,ff,ff,ff,tt,tt,tt,tt,ff,ff,ff]
abbrev mkspec_l873_21 : Array Bool := #[tt,tt,tt,tt,tt,tt,tt,tt,tt,tt,tt,tt,tt,ff,tt,tt,tt,tt,ff,ff,ff,tt,tt,tt,tt,ff,ff,ff]
abbrev mkspec_l873_22 : Array Bool := #[tt,tt,tt,tt,tt,tt,tt,tt,tt,tt,tt,tt,tt,tt,tt,tt,tt,tt,ff,ff,ff,tt,tt,tt,tt,ff,ff,ff]
abbrev mkspec_l873_23 : Array Bool := #[tt,tt,tt,tt,tt,tt,tt,tt,tt,tt,tt,tt,tt,tt,tt,tt,tt,tt,tt,ff,ff,tt,tt,tt,tt,ff,ff,ff]
abbrev mkspec_l873_24 : Array Bool := #[tt,tt,tt,tt,tt,tt,tt,tt,tt,tt,tt,tt,tt,tt,tt,tt,tt,tt,tt,tt,ff,tt,tt,tt,tt,ff,ff,ff]
abbrev mkspec_l873_25 : Array Bool := #[tt,tt,tt,tt,tt,tt,tt,tt,tt,tt,tt,tt,tt,tt,tt,tt,tt,tt,tt,tt,tt,tt,tt,tt,tt,ff,ff,ff]
abbrev mkspec_l873_26 : Array Bool := #[tt,tt,tt,tt,tt,tt,tt,tt,tt,tt,tt,tt,tt,tt,tt,tt,tt,tt,tt,tt,tt,tt,tt,tt,tt,tt,ff,ff]
abbrev mkspec_l873_27 : Array Bool := #[tt,tt,tt,tt,tt,tt,tt,tt,tt,tt,tt,tt,tt,tt,tt,tt,tt,tt,tt,tt,tt,tt,tt,tt,tt,tt,tt,ff]
abbrev mkspec_l873_28 : Array Bool := #[tt,tt,tt,tt,tt,tt,tt,tt,tt,tt,tt,tt,tt,tt,tt,tt,tt,tt,tt,tt,tt,tt,tt,tt,tt,tt,tt,tt]
def spec_l25RuleText_at.f (k : Nat) (l0_0 : List (S38)) (a0_1 : Int) : Option (ByteArray) := (spec_l25Lists.f k ((rd_T38 l0_0 a0_1).f0)).bind fun t186 => (if 5 + t186.size ≤ 9223372036854775807 then (if ((⟨#[114, 117, 108, 101, 32]⟩ : ByteArray) ++ t186).size + 1 ≤ 9223372036854775807 then ((spec_l25Lists.f k ((rd_T38 l0_0 a0_1).f1)).bind fun t188 => (if (((⟨#[114, 117, 108, 101, 32]⟩ : ByteArray) ++ t186) ++ (⟨#[32]⟩ : ByteArray)).size + t188.size ≤ 9223372036854775807 then (if ((((⟨#[114, 117, 108, 101, 32]⟩ : ByteArray) ++ t186) ++ (⟨#[32]⟩ : ByteArray)) ++ t188).size + 1 ≤ 9223372036854775807 then ((spec_l25Lists.f k ((rd_T38 l0_0 a0_1).f2)).bind fun t190 => (if (((((⟨#[114, 117, 108, 101, 32]⟩ : ByteArray) ++ t186) ++ (⟨#[32]⟩ : ByteArray)) ++ t188) ++ (⟨#[32]⟩ : ByteArray)).size + t190.size ≤ 9223372036854775807 then (if ((((((⟨#[114, 117, 108, 101, 32]⟩ : ByteArray) ++ t186) ++ (⟨#[32]⟩ : ByteArray)) ++ t188) ++ (⟨#[32]⟩ : ByteArray)) ++ t190).size + 1 ≤ 9223372036854775807 then ((spec_l25Numbers.f k ((rd_T38 l0_0 a0_1).f3)).bind fun t192 => (if (((((((⟨#[114, 117, 108, 101, 32]⟩ : ByteArray) ++ t186) ++ (⟨#[32]⟩ : ByteArray)) ++ t188) ++ (⟨#[32]⟩ : ByteArray)) ++ t190) ++ (⟨#[32]⟩ : ByteArray)).size + t192.size ≤ 9223372036854775807 then (some ((((((((⟨#[114, 117, 108, 101, 32]⟩ : ByteArray) ++ t186) ++ (⟨#[32]⟩ : ByteArray)) ++ t188) ++ (⟨#[32]⟩ : ByteArray)) ++ t190) ++ (⟨#[32]⟩ : ByteArray)) ++ t192)) else (none))) else (none)) else (none))) else (none)) else (none))) else (none)) else (none))
theorem spec_l25RuleText_at.mono : ∀ a0 a1 k, LeO (spec_l25RuleText_at.f k a0 a1) (spec_l25RuleText_at.f (k + 1) a0 a1) := by
 intro a0 a1 k
 unfold spec_l25RuleText_at.f
 repeat' first
   | (with_reducible exact spec_l25Lists.mono _ _)
   | (with_reducible exact spec_l25Numbers.mono _ _)
   | (with_reducible exact LeO.refl _)
   | (with_reducible exact LeO.none _)
   | (with_reducible refine LeO.ite ?_ ?_)
   | (with_reducible refine LeO.bind ?_ (fun _ => ?_))
   | exact spec_l25Lists.mono _ _
   | exact spec_l25Numbers.mono _ _
   | exact LeO.none _
   | refine LeO.ite ?_ ?_
   | refine LeO.bind ?_ (fun _ => ?_)
def spec_l25RuleText_at.T1 : Bool × List (List Nat × List Nat) := (true, [([], []), ([0], [0]), ([1], [1]), ([2], [2]), ([3], [3]), ([4], [4]), ([5], [5]), ([], []), ([7], [7]), ([8], [8]), ([9], [9]), ([10, 4], [10]), ([6, 11], [6, 11]), ([12], [12]), ([], []), ([14], [14]), ([15], [15]), ([16], [16]), ([17, 11], [17]), ([13, 18], [13, 18]), ([19], [19]), ([], []), ([21], [21]), ([22], [22]), ([23], [23]), ([24, 18], [24]), ([20, 25], [20, 25]), ([26, 25, 0, 1, 2, 3, 4, 5, 6, 7, 8, 9, 10, 11, 12, 13, 14, 15, 16, 17, 18, 19, 20, 21, 22, 23, 24, 25, 26], [26])])
def spec_l25RuleText_at.B1 : List Nat := [0, 1, 3, 7, 15, 31, 63, 0, 128, 384, 896, 1951, 4095, 8191, 0, 16384, 49152, 114688, 249759, 524287, 1048575, 0, 2097152, 6291456, 14680064, 31969183, 67108863, 134217727]
theorem spec_l25RuleText_at.tab1 : rtab .any (opsOf Try.f67 1) = spec_l25RuleText_at.T1 := by kernel_rfl
theorem spec_l25RuleText_at.bits1 : waitsOk spec_l25RuleText_at.T1.2 spec_l25RuleText_at.B1 = true := by kernel_rfl
set_option maxHeartbeats 8000000 in
set_option maxRecDepth 100000 in
theorem spec_l25RuleText_at.calls (k : Nat) (p0_ : Addr) (l0_0 : List (S38)) (a0_1 : Int) (r : ByteArray) (w : World) (hP0_ : RPtr k38 ((a0_1 : Int).toNat * 4) w p0_ l0_0 a0_1) (h : spec_l25RuleText_at.f k l0_0 a0_1 = some r) :
  Calls Try.prog 67 #[.pointer (some p0_)] w fun e w' => e = .returned (.string r) ∧ Below w.heap.size w w' := by
 obtain ⟨ad0_, rfl, hr0_0, hi0_, hj0_⟩ := hP0_
 have hc0_0 : l0_0.length ≤ l0_0.length := Nat.le_refl _
 replace hi0_ := decide_eq_true hi0_
 replace hj0_ := decide_eq_true hj0_
 obtain ⟨ad9000, A9000_0, c9000_0, A9000_1, c9000_1, A9000_2, c9000_2, A9000_3, c9000_3, e9000, HX9000_0, HX9000_1, HX9000_2, HX9000_3, HC9000_0, HR9000_0, HC9000_1, HR9000_1, HC9000_2, HR9000_2, HC9000_3, HR9000_3⟩ := at_T38 hr0_0 a0_1 (of_decide_eq_true hi0_) (of_decide_eq_true hj0_)
 obtain rfl : ad0_ = ad9000 := (by injection e9000)
 replace HX9000_0 := aM HX9000_0
 replace HX9000_1 := aM HX9000_1
 replace HX9000_2 := aM HX9000_2
 replace HX9000_3 := aM HX9000_3
 replace HC9000_0 := aM HC9000_0
 replace HR9000_0 := aM HR9000_0
 replace HC9000_1 := aM HC9000_1
 replace HR9000_1 := aM HR9000_1
 replace HC9000_2 := aM HC9000_2
 replace HR9000_2 := aM HR9000_2
 replace HC9000_3 := aM HC9000_3
 replace HR9000_3 := aM HR9000_3
 have HR0_0 := aM hr0_0
 have HC0_0 := aM hc0_0
 clear hr0_0 hc0_0
 have HB := aM (Below.refl w.heap.size w)
 have H : ((spec_l25Lists.f k ((rd_T38 l0_0 a0_1).f0)).bind fun t186 => (if 5 + t186.size ≤ 9223372036854775807 then (if ((⟨#[114, 117, 108, 101, 32]⟩ : ByteArray) ++ t186).size + 1 ≤ 9223372036854775807 then ((spec_l25Lists.f k ((rd_T38 l0_0 a0_1).f1)).bind fun t188 => (if (((⟨#[114, 117, 108, 101, 32]⟩ : ByteArray) ++ t186) ++ (⟨#[32]⟩ : ByteArray)).size + t188.size ≤ 9223372036854775807 then (if ((((⟨#[114, 117, 108, 101, 32]⟩ : ByteArray) ++ t186) ++ (⟨#[32]⟩ : ByteArray)) ++ t188).size + 1 ≤ 9223372036854775807 then ((spec_l25Lists.f k ((rd_T38 l0_0 a0_1).f2)).bind fun t190 => (if (((((⟨#[114, 117, 108, 101, 32]⟩ : ByteArray) ++ t186) ++ (⟨#[32]⟩ : ByteArray)) ++ t188) ++ (⟨#[32]⟩ : ByteArray)).size + t190.size ≤ 9223372036854775807 then (if ((((((⟨#[114, 117, 108, 101, 32]⟩ : ByteArray) ++ t186) ++ (⟨#[32]⟩ : ByteArray)) ++ t188) ++ (⟨#[32]⟩ : ByteArray)) ++ t190).size + 1 ≤ 9223372036854775807 then ((spec_l25Numbers.f k ((rd_T38 l0_0 a0_1).f3)).bind fun t192 => (if (((((((⟨#[114, 117, 108, 101, 32]⟩ : ByteArray) ++ t186) ++ (⟨#[32]⟩ : ByteArray)) ++ t188) ++ (⟨#[32]⟩ : ByteArray)) ++ t190) ++ (⟨#[32]⟩ : ByteArray)).size + t192.size ≤ 9223372036854775807 then (some ((((((((⟨#[114, 117, 108, 101, 32]⟩ : ByteArray) ++ t186) ++ (⟨#[32]⟩ : ByteArray)) ++ t188) ++ (⟨#[32]⟩ : ByteArray)) ++ t190) ++ (⟨#[32]⟩ : ByteArray)) ++ t192)) else (none))) else (none)) else (none))) else (none)) else (none))) else (none)) else (none))) = some r := h
 clear h
 replace H := Option.bind_eq_some_iff.mp H
 obtain ⟨t186, A20, H⟩ := H
 replace H : (if 5 + t186.size ≤ 9223372036854775807 then (if ((⟨#[114, 117, 108, 101, 32]⟩ : ByteArray) ++ t186).size + 1 ≤ 9223372036854775807 then ((spec_l25Lists.f k ((rd_T38 l0_0 a0_1).f1)).bind fun t188 => (if (((⟨#[114, 117, 108, 101, 32]⟩ : ByteArray) ++ t186) ++ (⟨#[32]⟩ : ByteArray)).size + t188.size ≤ 9223372036854775807 then (if ((((⟨#[114, 117, 108, 101, 32]⟩ : ByteArray) ++ t186) ++ (⟨#[32]⟩ : ByteArray)) ++ t188).size + 1 ≤ 9223372036854775807 then ((spec_l25Lists.f k ((rd_T38 l0_0 a0_1).f2)).bind fun t190 => (if (((((⟨#[114, 117, 108, 101, 32]⟩ : ByteArray) ++ t186) ++ (⟨#[32]⟩ : ByteArray)) ++ t188) ++ (⟨#[32]⟩ : ByteArray)).size + t190.size ≤ 9223372036854775807 then (if ((((((⟨#[114, 117, 108, 101, 32]⟩ : ByteArray) ++ t186) ++ (⟨#[32]⟩ : ByteArray)) ++ t188) ++ (⟨#[32]⟩ : ByteArray)) ++ t190).size + 1 ≤ 9223372036854775807 then ((spec_l25Numbers.f k ((rd_T38 l0_0 a0_1).f3)).bind fun t192 => (if (((((((⟨#[114, 117, 108, 101, 32]⟩ : ByteArray) ++ t186) ++ (⟨#[32]⟩ : ByteArray)) ++ t188) ++ (⟨#[32]⟩ : ByteArray)) ++ t190) ++ (⟨#[32]⟩ : ByteArray)).size + t192.size ≤ 9223372036854775807 then (some ((((((((⟨#[114, 117, 108, 101, 32]⟩ : ByteArray) ++ t186) ++ (⟨#[32]⟩ : ByteArray)) ++ t188) ++ (⟨#[32]⟩ : ByteArray)) ++ t190) ++ (⟨#[32]⟩ : ByteArray)) ++ t192)) else (none))) else (none)) else (none))) else (none)) else (none))) else (none)) else (none)) = some r := H
 have A2 := aM A20
 clear A20
 by_cases c3 : 5 + t186.size ≤ 9223372036854775807
 ·rw [if_pos c3] at H
  have c3b0 := eq_true c3
  have c3b1 : decide (5 + t186.size ≤ 9223372036854775807) = true := decide_eq_true c3
  try have c3b2 : (9223372036854775807 < 5 + t186.size) = False := eq_false (Nat.not_lt.2 c3)
  by_cases c4 : ((⟨#[114, 117, 108, 101, 32]⟩ : ByteArray) ++ t186).size + 1 ≤ 9223372036854775807
  ·rw [if_pos c4] at H
   have c4b0 := eq_true c4
   have c4b1 : decide (((⟨#[114, 117, 108, 101, 32]⟩ : ByteArray) ++ t186).size + 1 ≤ 9223372036854775807) = true := decide_eq_true c4
   try have c4b2 : (9223372036854775807 < ((⟨#[114, 117, 108, 101, 32]⟩ : ByteArray) ++ t186).size + 1) = False := eq_false (Nat.not_lt.2 c4)
   try have c4b3 : (9223372036854775807 < 5 + t186.size + 1) = False := eq_false (Nat.not_lt.2 (by have h_ := c4; simp only [ByteArray.size_append] at h_; exact h_))
   try (have c4b6 := c4b0; simp only [ByteArray.size_append, ByteArray.size_extract, Nat.min_self, Int.natCast_add] at c4b6)
   try (have c4b7 := c4b1; simp only [ByteArray.size_append, ByteArray.size_extract, Nat.min_self, Int.natCast_add] at c4b7)
   replace H := Option.bind_eq_some_iff.mp H
   obtain ⟨t188, A50, H⟩ := H
   replace H : (if (((⟨#[114, 117, 108, 101, 32]⟩ : ByteArray) ++ t186) ++ (⟨#[32]⟩ : ByteArray)).size + t188.size ≤ 9223372036854775807 then (if ((((⟨#[114, 117, 108, 101, 32]⟩ : ByteArray) ++ t186) ++ (⟨#[32]⟩ : ByteArray)) ++ t188).size + 1 ≤ 9223372036854775807 then ((spec_l25Lists.f k ((rd_T38 l0_0 a0_1).f2)).bind fun t190 => (if (((((⟨#[114, 117, 108, 101, 32]⟩ : ByteArray) ++ t186) ++ (⟨#[32]⟩ : ByteArray)) ++ t188) ++ (⟨#[32]⟩ : ByteArray)).size + t190.size ≤ 9223372036854775807 then (if ((((((⟨#[114, 117, 108, 101, 32]⟩ : ByteArray) ++ t186) ++ (⟨#[32]⟩ : ByteArray)) ++ t188) ++ (⟨#[32]⟩ : ByteArray)) ++ t190).size + 1 ≤ 9223372036854775807 then ((spec_l25Numbers.f k ((rd_T38 l0_0 a0_1).f3)).bind fun t192 => (if (((((((⟨#[114, 117, 108, 101, 32]⟩ : ByteArray) ++ t186) ++ (⟨#[32]⟩ : ByteArray)) ++ t188) ++ (⟨#[32]⟩ : ByteArray)) ++ t190) ++ (⟨#[32]⟩ : ByteArray)).size + t192.size ≤ 9223372036854775807 then (some ((((((((⟨#[114, 117, 108, 101, 32]⟩ : ByteArray) ++ t186) ++ (⟨#[32]⟩ : ByteArray)) ++ t188) ++ (⟨#[32]⟩ : ByteArray)) ++ t190) ++ (⟨#[32]⟩ : ByteArray)) ++ t192)) else (none))) else (none)) else (none))) else (none)) else (none)) = some r := H
   have A5 := aM A50
   clear A50
   by_cases c6 : (((⟨#[114, 117, 108, 101, 32]⟩ : ByteArray) ++ t186) ++ (⟨#[32]⟩ : ByteArray)).size + t188.size ≤ 9223372036854775807
   ·rw [if_pos c6] at H
    have c6b0 := eq_true c6
    have c6b1 : decide ((((⟨#[114, 117, 108, 101, 32]⟩ : ByteArray) ++ t186) ++ (⟨#[32]⟩ : ByteArray)).size + t188.size ≤ 9223372036854775807) = true := decide_eq_true c6
    try have c6b2 : (9223372036854775807 < (((⟨#[114, 117, 108, 101, 32]⟩ : ByteArray) ++ t186) ++ (⟨#[32]⟩ : ByteArray)).size + t188.size) = False := eq_false (Nat.not_lt.2 c6)
    try have c6b3 : (9223372036854775807 < 5 + t186.size + 1 + t188.size) = False := eq_false (Nat.not_lt.2 (by have h_ := c6; simp only [ByteArray.size_append] at h_; exact h_))
    try (have c6b6 := c6b0; simp only [ByteArray.size_append, ByteArray.size_extract, Nat.min_self, Int.natCast_add] at c6b6)
    try (have c6b7 := c6b1; simp only [ByteArray.size_append, ByteArray.size_extract, Nat.min_self, Int.natCast_add] at c6b7)
    by_cases c7 : ((((⟨#[114, 117, 108, 101, 32]⟩ : ByteArray) ++ t186) ++ (⟨#[32]⟩ : ByteArray)) ++ t188).size + 1 ≤ 9223372036854775807
    ·rw [if_pos c7] at H
     have c7b0 := eq_true c7
     have c7b1 : decide (((((⟨#[114, 117, 108, 101, 32]⟩ : ByteArray) ++ t186) ++ (⟨#[32]⟩ : ByteArray)) ++ t188).size + 1 ≤ 9223372036854775807) = true := decide_eq_true c7
     try have c7b2 : (9223372036854775807 < ((((⟨#[114, 117, 108, 101, 32]⟩ : ByteArray) ++ t186) ++ (⟨#[32]⟩ : ByteArray)) ++ t188).size + 1) = False := eq_false (Nat.not_lt.2 c7)
     try have c7b3 : (9223372036854775807 < 5 + t186.size + 1 + t188.size + 1) = False := eq_false (Nat.not_lt.2 (by have h_ := c7; simp only [ByteArray.size_append] at h_; exact h_))
     try (have c7b6 := c7b0; simp only [ByteArray.size_append, ByteArray.size_extract, Nat.min_self, Int.natCast_add] at c7b6)
     try (have c7b7 := c7b1; simp only [ByteArray.size_append, ByteArray.size_extract, Nat.min_self, Int.natCast_add] at c7b7)
     replace H := Option.bind_eq_some_iff.mp H
     obtain ⟨t190, A80, H⟩ := H
     replace H : (if (((((⟨#[114, 117, 108, 101, 32]⟩ : ByteArray) ++ t186) ++ (⟨#[32]⟩ : ByteArray)) ++ t188) ++ (⟨#[32]⟩ : ByteArray)).size + t190.size ≤ 9223372036854775807 then (if ((((((⟨#[114, 117, 108, 101, 32]⟩ : ByteArray) ++ t186) ++ (⟨#[32]⟩ : ByteArray)) ++ t188) ++ (⟨#[32]⟩ : ByteArray)) ++ t190).size + 1 ≤ 9223372036854775807 then ((spec_l25Numbers.f k ((rd_T38 l0_0 a0_1).f3)).bind fun t192 => (if (((((((⟨#[114, 117, 108, 101, 32]⟩ : ByteArray) ++ t186) ++ (⟨#[32]⟩ : ByteArray)) ++ t188) ++ (⟨#[32]⟩ : ByteArray)) ++ t190) ++ (⟨#[32]⟩ : ByteArray)).size + t192.size ≤ 9223372036854775807 then (some ((((((((⟨#[114, 117, 108, 101, 32]⟩ : ByteArray) ++ t186) ++ (⟨#[32]⟩ : ByteArray)) ++ t188) ++ (⟨#[32]⟩ : ByteArray)) ++ t190) ++ (⟨#[32]⟩ : ByteArray)) ++ t192)) else (none))) else (none)) else (none)) = some r := H
     have A8 := aM A80
     clear A80
     by_cases c9 : (((((⟨#[114, 117, 108, 101, 32]⟩ : ByteArray) ++ t186) ++ (⟨#[32]⟩ : ByteArray)) ++ t188) ++ (⟨#[32]⟩ : ByteArray)).size + t190.size ≤ 9223372036854775807
     ·rw [if_pos c9] at H
      have c9b0 := eq_true c9
      have c9b1 : decide ((((((⟨#[114, 117, 108, 101, 32]⟩ : ByteArray) ++ t186) ++ (⟨#[32]⟩ : ByteArray)) ++ t188) ++ (⟨#[32]⟩ : ByteArray)).size + t190.size ≤ 9223372036854775807) = true := decide_eq_true c9
      try have c9b2 : (9223372036854775807 < (((((⟨#[114, 117, 108, 101, 32]⟩ : ByteArray) ++ t186) ++ (⟨#[32]⟩ : ByteArray)) ++ t188) ++ (⟨#[32]⟩ : ByteArray)).size + t190.size) = False := eq_false (Nat.not_lt.2 c9)
      try have c9b3 : (9223372036854775807 < 5 + t186.size + 1 + t188.size + 1 + t190.size) = False := eq_false (Nat.not_lt.2 (by have h_ := c9; simp only [ByteArray.size_append] at h_; exact h_))
      try (have c9b6 := c9b0; simp only [ByteArray.size_append, ByteArray.size_extract, Nat.min_self, Int.natCast_add] at c9b6)
      try (have c9b7 := c9b1; simp only [ByteArray.size_append, ByteArray.size_extract, Nat.min_self, Int.natCast_add] at c9b7)
      by_cases c10 : ((((((⟨#[114, 117, 108, 101, 32]⟩ : ByteArray) ++ t186) ++ (⟨#[32]⟩ : ByteArray)) ++ t188) ++ (⟨#[32]⟩ : ByteArray)) ++ t190).size + 1 ≤ 9223372036854775807
      ·rw [if_pos c10] at H
       have c10b0 := eq_true c10
       have c10b1 : decide (((((((⟨#[114, 117, 108, 101, 32]⟩ : ByteArray) ++ t186) ++ (⟨#[32]⟩ : ByteArray)) ++ t188) ++ (⟨#[32]⟩ : ByteArray)) ++ t190).size + 1 ≤ 9223372036854775807) = true := decide_eq_true c10
       try have c10b2 : (9223372036854775807 < ((((((⟨#[114, 117, 108, 101, 32]⟩ : ByteArray) ++ t186) ++ (⟨#[32]⟩ : ByteArray)) ++ t188) ++ (⟨#[32]⟩ : ByteArray)) ++ t190).size + 1) = False := eq_false (Nat.not_lt.2 c10)
       try have c10b3 : (9223372036854775807 < 5 + t186.size + 1 + t188.size + 1 + t190.size + 1) = False := eq_false (Nat.not_lt.2 (by have h_ := c10; simp only [ByteArray.size_append] at h_; exact h_))
       try (have c10b6 := c10b0; simp only [ByteArray.size_append, ByteArray.size_extract, Nat.min_self, Int.natCast_add] at c10b6)
       try (have c10b7 := c10b1; simp only [ByteArray.size_append, ByteArray.size_extract, Nat.min_self, Int.natCast_add] at c10b7)
       replace H := Option.bind_eq_some_iff.mp H
       obtain ⟨t192, A110, H⟩ := H
       replace H : (if (((((((⟨#[114, 117, 108, 101, 32]⟩ : ByteArray) ++ t186) ++ (⟨#[32]⟩ : ByteArray)) ++ t188) ++ (⟨#[32]⟩ : ByteArray)) ++ t190) ++ (⟨#[32]⟩ : ByteArray)).size + t192.size ≤ 9223372036854775807 then (some ((((((((⟨#[114, 117, 108, 101, 32]⟩ : ByteArray) ++ t186) ++ (⟨#[32]⟩ : ByteArray)) ++ t188) ++ (⟨#[32]⟩ : ByteArray)) ++ t190) ++ (⟨#[32]⟩ : ByteArray)) ++ t192)) else (none)) = some r := H
       have A11 := aM A110
       clear A110
       by_cases c12 : (((((((⟨#[114, 117, 108, 101, 32]⟩ : ByteArray) ++ t186) ++ (⟨#[32]⟩ : ByteArray)) ++ t188) ++ (⟨#[32]⟩ : ByteArray)) ++ t190) ++ (⟨#[32]⟩ : ByteArray)).size + t192.size ≤ 9223372036854775807
       ·rw [if_pos c12] at H
        have c12b0 := eq_true c12
        have c12b1 : decide ((((((((⟨#[114, 117, 108, 101, 32]⟩ : ByteArray) ++ t186) ++ (⟨#[32]⟩ : ByteArray)) ++ t188) ++ (⟨#[32]⟩ : ByteArray)) ++ t190) ++ (⟨#[32]⟩ : ByteArray)).size + t192.size ≤ 9223372036854775807) = true := decide_eq_true c12
        try have c12b2 : (9223372036854775807 < (((((((⟨#[114, 117, 108, 101, 32]⟩ : ByteArray) ++ t186) ++ (⟨#[32]⟩ : ByteArray)) ++ t188) ++ (⟨#[32]⟩ : ByteArray)) ++ t190) ++ (⟨#[32]⟩ : ByteArray)).size + t192.size) = False := eq_false (Nat.not_lt.2 c12)
        try have c12b3 : (9223372036854775807 < 5 + t186.size + 1 + t188.size + 1 + t190.size + 1 + t192.size) = False := eq_false (Nat.not_lt.2 (by have h_ := c12; simp only [ByteArray.size_append] at h_; exact h_))
        try (have c12b6 := c12b0; simp only [ByteArray.size_append, ByteArray.size_extract, Nat.min_self, Int.natCast_add] at c12b6)
        try (have c12b7 := c12b1; simp only [ByteArray.size_append, ByteArray.size_extract, Nat.min_self, Int.natCast_add] at c12b7)
        obtain rfl := Option.some.inj H
        go_enter Try.func67, Try.ntmps67
        try go_wp2
        have n0_ := aM (below_drew1 HB.out)
        clear HB
        have HB := n0_
        clear n0_
        have hx185_0 := HX9000_0.out
        have hx185_1 := HX9000_1.out
        have hx185_2 := HX9000_2.out
        have hx185_3 := HX9000_3.out
        have hw185_3 := hx185_3
        have hw185_2 := hx185_2
        have hw185_1 := hx185_1
        have hw185_0 := hx185_0
        replace hx185_0 := cB HB.out hx185_0
        replace hx185_1 := cB HB.out hx185_1
        replace hx185_2 := cB HB.out hx185_2
        replace hx185_3 := cB HB.out hx185_3
        have HR185_0 := HR9000_0
        have HC185_0 := HC9000_0
        have HR185_1 := HR9000_1
        have HC185_1 := HC9000_1
        have HR185_2 := HR9000_2
        have HC185_2 := HC9000_2
        have HR185_3 := HR9000_3
        have HC185_3 := HC9000_3
        have hx187_0 := HX9000_0.out
        have hx187_1 := HX9000_1.out
        have hx187_2 := HX9000_2.out
        have hx187_3 := HX9000_3.out
        have hw187_3 := hx187_3
        have hw187_2 := hx187_2
        have hw187_1 := hx187_1
        have hw187_0 := hx187_0
        replace hx187_0 := cB HB.out hx187_0
        replace hx187_1 := cB HB.out hx187_1
        replace hx187_2 := cB HB.out hx187_2
        replace hx187_3 := cB HB.out hx187_3
        have HR187_0 := HR9000_0
        have HC187_0 := HC9000_0
        have HR187_1 := HR9000_1
        have HC187_1 := HC9000_1
        have HR187_2 := HR9000_2
        have HC187_2 := HC9000_2
        have HR187_3 := HR9000_3
        have HC187_3 := HC9000_3
        have hx189_0 := HX9000_0.out
        have hx189_1 := HX9000_1.out
        have hx189_2 := HX9000_2.out
        have hx189_3 := HX9000_3.out
        have hw189_3 := hx189_3
        have hw189_2 := hx189_2
        have hw189_1 := hx189_1
        have hw189_0 := hx189_0
        replace hx189_0 := cB HB.out hx189_0
        replace hx189_1 := cB HB.out hx189_1
        replace hx189_2 := cB HB.out hx189_2
        replace hx189_3 := cB HB.out hx189_3
        have HR189_0 := HR9000_0
        have HC189_0 := HC9000_0
        have HR189_1 := HR9000_1
        have HC189_1 := HC9000_1
        have HR189_2 := HR9000_2
        have HC189_2 := HC9000_2
        have HR189_3 := HR9000_3
        have HC189_3 := HC9000_3
        have hx191_0 := HX9000_0.out
        have hx191_1 := HX9000_1.out
        have hx191_2 := HX9000_2.out
        have hx191_3 := HX9000_3.out
        have hw191_3 := hx191_3
        have hw191_2 := hx191_2
        have hw191_1 := hx191_1
        have hw191_0 := hx191_0
        replace hx191_0 := cB HB.out hx191_0
        replace hx191_1 := cB HB.out hx191_1
        replace hx191_2 := cB HB.out hx191_2
        replace hx191_3 := cB HB.out hx191_3
        have HR191_0 := HR9000_0
        have HC191_0 := HC9000_0
        have HR191_1 := HR9000_1
        have HC191_1 := HC9000_1
        have HR191_2 := HR9000_2
        have HC191_2 := HC9000_2
        have HR191_3 := HR9000_3
        have HC191_3 := HC9000_3
        refine start_ (n := 28) (S := fun w' => w'.cell? (ad0_.add ((a0_1).toNat * 4)) = some (.slice A9000_0 ((rd_T38 l0_0 a0_1).f0).length c9000_0) ∧ w'.cell? ⟨(ad0_.add ((a0_1).toNat * 4)).block, (ad0_.add ((a0_1).toNat * 4)).off + 1, none⟩ = some (.slice A9000_1 ((rd_T38 l0_0 a0_1).f1).length c9000_1) ∧ w'.cell? ⟨(ad0_.add ((a0_1).toNat * 4)).block, (ad0_.add ((a0_1).toNat * 4)).off + 2, none⟩ = some (.slice A9000_2 ((rd_T38 l0_0 a0_1).f2).length c9000_2) ∧ w'.cell? ⟨(ad0_.add ((a0_1).toNat * 4)).block, (ad0_.add ((a0_1).toNat * 4)).off + 3, none⟩ = some (.slice A9000_3 ((rd_T38 l0_0 a0_1).f3).length c9000_3) ∧ w'.cell? (ad0_.add ((a0_1).toNat * 4)) = some (.slice A9000_0 ((rd_T38 l0_0 a0_1).f0).length c9000_0) ∧ w'.cell? ⟨(ad0_.add ((a0_1).toNat * 4)).block, (ad0_.add ((a0_1).toNat * 4)).off + 1, none⟩ = some (.slice A9000_1 ((rd_T38 l0_0 a0_1).f1).length c9000_1) ∧ w'.cell? ⟨(ad0_.add ((a0_1).toNat * 4)).block, (ad0_.add ((a0_1).toNat * 4)).off + 2, none⟩ = some (.slice A9000_2 ((rd_T38 l0_0 a0_1).f2).length c9000_2) ∧ w'.cell? ⟨(ad0_.add ((a0_1).toNat * 4)).block, (ad0_.add ((a0_1).toNat * 4)).off + 3, none⟩ = some (.slice A9000_3 ((rd_T38 l0_0 a0_1).f3).length c9000_3) ∧ w'.cell? (ad0_.add ((a0_1).toNat * 4)) = some (.slice A9000_0 ((rd_T38 l0_0 a0_1).f0).length c9000_0) ∧ w'.cell? ⟨(ad0_.add ((a0_1).toNat * 4)).block, (ad0_.add ((a0_1).toNat * 4)).off + 1, none⟩ = some (.slice A9000_1 ((rd_T38 l0_0 a0_1).f1).length c9000_1) ∧ w'.cell? ⟨(ad0_.add ((a0_1).toNat * 4)).block, (ad0_.add ((a0_1).toNat * 4)).off + 2, none⟩ = some (.slice A9000_2 ((rd_T38 l0_0 a0_1).f2).length c9000_2) ∧ w'.cell? ⟨(ad0_.add ((a0_1).toNat * 4)).block, (ad0_.add ((a0_1).toNat * 4)).off + 3, none⟩ = some (.slice A9000_3 ((rd_T38 l0_0 a0_1).f3).length c9000_3) ∧ w'.cell? (ad0_.add ((a0_1).toNat * 4)) = some (.slice A9000_0 ((rd_T38 l0_0 a0_1).f0).length c9000_0) ∧ w'.cell? ⟨(ad0_.add ((a0_1).toNat * 4)).block, (ad0_.add ((a0_1).toNat * 4)).off + 1, none⟩ = some (.slice A9000_1 ((rd_T38 l0_0 a0_1).f1).length c9000_1) ∧ w'.cell? ⟨(ad0_.add ((a0_1).toNat * 4)).block, (ad0_.add ((a0_1).toNat * 4)).off + 2, none⟩ = some (.slice A9000_2 ((rd_T38 l0_0 a0_1).f2).length c9000_2) ∧ w'.cell? ⟨(ad0_.add ((a0_1).toNat * 4)).block, (ad0_.add ((a0_1).toNat * 4)).off + 3, none⟩ = some (.slice A9000_3 ((rd_T38 l0_0 a0_1).f3).length c9000_3)) (ds := []) mkspec_l873_0 (by kernel_rfl) rfl rfl ⟨(cB HB.out hw185_0), (cB HB.out hw185_1), (cB HB.out hw185_2), (cB HB.out hw185_3), (cB HB.out hw187_0), (cB HB.out hw187_1), (cB HB.out hw187_2), (cB HB.out hw187_3), (cB HB.out hw189_0), (cB HB.out hw189_1), (cB HB.out hw189_2), (cB HB.out hw189_3), (cB HB.out hw191_0), (cB HB.out hw191_1), (cB HB.out hw191_2), (cB HB.out hw191_3)⟩ (fun hHeld => ?_); refine with_tabW spec_l25RuleText_at.tab1 spec_l25RuleText_at.bits1 (fun HT_ HW_ => ?_)
        generalize w.drew = w13 at HB HR185_0 HR185_1 HR185_2 HR185_3 HR187_0 HR187_1 HR187_2 HR187_3 HR189_0 HR189_1 HR189_2 HR189_3 HR191_0 HR191_1 HR191_2 HR191_3 hx185_0 hx185_1 hx185_2 hx185_3 hx187_0 hx187_1 hx187_2 hx187_3 hx189_0 hx189_1 hx189_2 hx189_3 hx191_0 hx191_1 hx191_2 hx191_3 hHeld ⊢
        refine pQ (i := 0) (N := some 3) mkspec_l873_1 ?_
        refine pQ (i := 1) (N := some 4) mkspec_l873_2 ?_
        refine pQ (i := 2) (N := some 5) mkspec_l873_3 ?_
        refine pQ (i := 7) (N := some 10) mkspec_l873_4 ?_
        refine pQ (i := 8) (N := some 11) mkspec_l873_5 ?_
        refine pQ (i := 9) (N := some 12) mkspec_l873_6 ?_
        refine pQ (i := 14) (N := some 17) mkspec_l873_7 ?_
        refine pQ (i := 15) (N := some 18) mkspec_l873_8 ?_
        refine pQ (i := 16) (N := some 19) mkspec_l873_9 ?_
        refine pQ (i := 21) (N := some 24) mkspec_l873_10 ?_
        refine pQ (i := 22) (N := some 25) mkspec_l873_11 ?_
        refine pQ (i := 23) (N := some 26) mkspec_l873_12 ?_
        refine tQ (i := 3) (N := some 6) mkspec_l873_13 rfl hHeld (Or.inl ⟨by rfl, by rintro w' ⟨s0, s1, s2, s3, s4, s5, s6, s7, s8, s9, s10, s11, s12, s13, s14, s15⟩; go_simp; with_reducible rfl⟩) ?_
        refine tQ (i := 10) (N := some 13) mkspec_l873_14 rfl hHeld (Or.inl ⟨by rfl, by rintro w' ⟨s0, s1, s2, s3, s4, s5, s6, s7, s8, s9, s10, s11, s12, s13, s14, s15⟩; go_simp; with_reducible rfl⟩) ?_
        refine tQ (i := 17) (N := some 20) mkspec_l873_15 rfl hHeld (Or.inl ⟨by rfl, by rintro w' ⟨s0, s1, s2, s3, s4, s5, s6, s7, s8, s9, s10, s11, s12, s13, s14, s15⟩; go_simp; with_reducible rfl⟩) ?_
        refine tQ (i := 24) (N := some 27) mkspec_l873_16 rfl hHeld (Or.inl ⟨by rfl, by rintro w' ⟨s0, s1, s2, s3, s4, s5, s6, s7, s8, s9, s10, s11, s12, s13, s14, s15⟩; go_simp; with_reducible rfl⟩) ?_
        refine one_ (i := 4) (N := some 7) mkspec_l873_17 rfl rfl (one_of HT_.out (by kernel_rfl)) (by decide) (fun K hK => ?_)
        refine goes_ Try.func132 (by kernel_rfl) rfl #[.slice A9000_0 ((rd_T38 l0_0 a0_1).f0).length c9000_0] (by rfl) rfl rfl gQ ?_
        with_reducible refine (spec_l25Lists.calls k _ _ ((rd_T38 l0_0 a0_1).f0) t186 _ ?side1 ?side2 A2.out).mono ?_
        (case side1 => exact cQ HR185_0.out)
        (case side2 => exact HC185_0.out)
        rintro e w14 ⟨rfl, hb⟩
        refine ⟨_, rfl, ?_⟩
        have n0_ := aM (below_step bQ hb)
        clear HB
        have HB := n0_
        clear n0_
        (try clear hb)
        (try clear hb2)
        (try clear hk)
        (try clear hi)
        refine hK.out _ _ ⟨(cB HB.out hw185_0), (cB HB.out hw185_1), (cB HB.out hw185_2), (cB HB.out hw185_3), (cB HB.out hw187_0), (cB HB.out hw187_1), (cB HB.out hw187_2), (cB HB.out hw187_3), (cB HB.out hw189_0), (cB HB.out hw189_1), (cB HB.out hw189_2), (cB HB.out hw189_3), (cB HB.out hw191_0), (cB HB.out hw191_1), (cB HB.out hw191_2), (cB HB.out hw191_3)⟩ (fun hHeld => ?_)
        clear hK K
        refine norm_ (a' := ?_) ?_ ?_
        rotate_left
        ·show Act.put _ (some 7) _ = _
         simp only [Act.put, sI, sZ, sS, i64_w, i32_w]
         rfl
        refine pQ (i := 5) (N := some 8) mkspec_l873_18 ?_
        refine pQ (i := 6) (N := some 9) mkspec_l873_19 ?_
        refine one_ (i := 11) (N := some 14) mkspec_l873_20 rfl rfl (one_of HT_.out (by kernel_rfl)) (by decide) (fun K hK => ?_)
        refine goes_ Try.func132 (by kernel_rfl) rfl #[.slice A9000_1 ((rd_T38 l0_0 a0_1).f1).length c9000_1] (by rfl) rfl rfl gQ ?_
        with_reducible refine (spec_l25Lists.calls k _ _ ((rd_T38 l0_0 a0_1).f1) t188 _ ?side1 ?side2 A5.out).mono ?_
        (case side1 => exact cQ HR187_1.out)
        (case side2 => exact HC187_1.out)
        rintro e w15 ⟨rfl, hb⟩
        refine ⟨_, rfl, ?_⟩
        have n0_ := aM (below_step bQ hb)
        clear HB
        have HB := n0_
        clear n0_
        (try clear hb)
        (try clear hb2)
        (try clear hk)
        (try clear hi)
        refine hK.out _ _ ⟨(cB HB.out hw185_0), (cB HB.out hw185_1), (cB HB.out hw185_2), (cB HB.out hw185_3), (cB HB.out hw187_0), (cB HB.out hw187_1), (cB HB.out hw187_2), (cB HB.out hw187_3), (cB HB.out hw189_0), (cB HB.out hw189_1), (cB HB.out hw189_2), (cB HB.out hw189_3), (cB HB.out hw191_0), (cB HB.out hw191_1), (cB HB.out hw191_2), (cB HB.out hw191_3)⟩ (fun hHeld => ?_)
        clear hK K
        refine norm_ (a' := ?_) ?_ ?_
        rotate_left
        ·show Act.put _ (some 14) _ = _
         simp only [Act.put, sI, sZ, sS, i64_w, i32_w]
         rfl
        refine pQ (i := 12) (N := some 15) mkspec_l873_21 ?_
        refine pQ (i := 13) (N := some 16) mkspec_l873_22 ?_
        refine one_ (i := 18) (N := some 21) mkspec_l873_23 rfl rfl (one_of HT_.out (by kernel_rfl)) (by decide) (fun K hK => ?_)
        refine goes_ Try.func132 (by kernel_rfl) rfl #[.slice A9000_2 ((rd_T38 l0_0 a0_1).f2).length c9000_2] (by rfl) rfl rfl gQ ?_
        with_reducible refine (spec_l25Lists.calls k _ _ ((rd_T38 l0_0 a0_1).f2) t190 _ ?side1 ?side2 A8.out).mono ?_
        (case side1 => exact cQ HR189_2.out)
        (case side2 => exact HC189_2.out)
        rintro e w16 ⟨rfl, hb⟩
        refine ⟨_, rfl, ?_⟩
        have n0_ := aM (below_step bQ hb)
        clear HB
        have HB := n0_
        clear n0_
        (try clear hb)
        (try clear hb2)
        (try clear hk)
        (try clear hi)
        refine hK.out _ _ ⟨(cB HB.out hw185_0), (cB HB.out hw185_1), (cB HB.out hw185_2), (cB HB.out hw185_3), (cB HB.out hw187_0), (cB HB.out hw187_1), (cB HB.out hw187_2), (cB HB.out hw187_3), (cB HB.out hw189_0), (cB HB.out hw189_1), (cB HB.out hw189_2), (cB HB.out hw189_3), (cB HB.out hw191_0), (cB HB.out hw191_1), (cB HB.out hw191_2), (cB HB.out hw191_3)⟩ (fun hHeld => ?_)
        clear hK K
        refine norm_ (a' := ?_) ?_ ?_
        rotate_left
        ·show Act.put _ (some 21) _ = _
         simp only [Act.put, sI, sZ, sS, i64_w, i32_w]
         rfl
        refine pQ (i := 19) (N := some 22) mkspec_l873_24 ?_
        refine pQ (i := 20) (N := some 23) mkspec_l873_25 ?_
        refine one_ (i := 25) (N := some 28) mkspec_l873_26 rfl rfl (one_of HT_.out (by kernel_rfl)) (by decide) (fun K hK => ?_)
        refine goes_ Try.func133 (by kernel_rfl) rfl #[.slice A9000_3 ((rd_T38 l0_0 a0_1).f3).length c9000_3] (by rfl) rfl rfl gQ ?_
        with_reducible refine (spec_l25Numbers.calls k _ _ ((rd_T38 l0_0 a0_1).f3) t192 _ ?side1 ?side2 A11.out).mono ?_
        (case side1 => exact cQ HR191_3.out)
        (case side2 => exact HC191_3.out)
        rintro e w17 ⟨rfl, hb⟩
        refine ⟨_, rfl, ?_⟩
        have n0_ := aM (below_step bQ hb)
        clear HB
        have HB := n0_
        clear n0_
        (try clear hb)
        (try clear hb2)
        (try clear hk)
        (try clear hi)
        refine hK.out _ _ ⟨(cB HB.out hw185_0), (cB HB.out hw185_1), (cB HB.out hw185_2), (cB HB.out hw185_3), (cB HB.out hw187_0), (cB HB.out hw187_1), (cB HB.out hw187_2), (cB HB.out hw187_3), (cB HB.out hw189_0), (cB HB.out hw189_1), (cB HB.out hw189_2), (cB HB.out hw189_3), (cB HB.out hw191_0), (cB HB.out hw191_1), (cB HB.out hw191_2), (cB HB.out hw191_3)⟩ (fun hHeld => ?_)
        clear hK K
        refine norm_ (a' := ?_) ?_ ?_
        rotate_left
        ·show Act.put _ (some 28) _ = _
         simp only [Act.put, sI, sZ, sS, i64_w, i32_w]
         rfl
        refine pQ (i := 26) (N := some 29) mkspec_l873_27 ?_
        refine pQ (i := 27) (N := some 2) mkspec_l873_28 ?_
        refine done_ (done_of HT_.out (by kernel_rfl)) ?_
        try go_wp2
        go_ret
        exact ⟨eQ, bQ⟩
       ·rw [if_neg c12] at H
        exact absurd H (by simp)
      ·rw [if_neg c10] at H
       exact absurd H (by simp)
     ·rw [if_neg c9] at H
      exact absurd H (by simp)
    ·rw [if_neg c7] at H
     exact absurd H (by simp)
   ·rw [if_neg c6] at H
    exact absurd H (by simp)
  ·rw [if_neg c4] at H
   exact absurd H (by simp)
 ·rw [if_neg c3] at H
  exact absurd H (by simp)

/-! ### spec_RuleText: function 23 -/
def spec_RuleText.f (k : Nat) (l0_0 : List (List Int)) (l0_1 : List (List Int)) (l0_2 : List (List Int)) (l0_3 : List Int) : Option (ByteArray) := (spec_l25Rule_at.f k [(⟨l0_0, l0_1, l0_2, l0_3⟩ : S38)] 0).bind fun t194 => (if t194 = true then ((spec_l25RuleText_at.f k [(⟨l0_0, l0_1, l0_2, l0_3⟩ : S38)] 0).bind fun t195 => (some t195)) else (some (⟨#[]⟩ : ByteArray)))
theorem spec_RuleText.mono : ∀ a0 a1 a2 a3 k, LeO (spec_RuleText.f k a0 a1 a2 a3) (spec_RuleText.f (k + 1) a0 a1 a2 a3) := by
 intro a0 a1 a2 a3 k
 unfold spec_RuleText.f
 repeat' first
   | (with_reducible exact spec_l25RuleText_at.mono _ _ _)
   | (with_reducible exact spec_l25Rule_at.mono _ _ _)
   | (with_reducible exact LeO.refl _)
   | (with_reducible exact LeO.none _)
   | (with_reducible refine LeO.ite ?_ ?_)
   | (with_reducible refine LeO.bind ?_ (fun _ => ?_))
   | exact spec_l25RuleText_at.mono _ _ _
   | exact spec_l25Rule_at.mono _ _ _
   | exact LeO.none _
   | refine LeO.ite ?_ ?_
   | refine LeO.bind ?_ (fun _ => ?_)
set_option maxHeartbeats 8000000 in
set_option maxRecDepth 100000 in
theorem spec_RuleText.calls (k : Nat) (A0_0 : Option Addr) (c0_0 : Nat) (l0_0 : List (List Int)) (A0_1 : Option Addr) (c0_1 : Nat) (l0_1 : List (List Int)) (A0_2 : Option Addr) (c0_2 : Nat) (l0_2 : List (List Int)) (A0_3 : Option Addr) (c0_3 : Nat) (l0_3 : List Int) (r : ByteArray) (w : World) (hr0_0 : Kd.C (Kd.slice 2 (Kd.int .i64)) w A0_0 l0_0.length l0_0) (hc0_0 : l0_0.length ≤ c0_0) (hr0_1 : Kd.C (Kd.slice 2 (Kd.int .i64)) w A0_1 l0_1.length l0_1) (hc0_1 : l0_1.length ≤ c0_1) (hr0_2 : Kd.C (Kd.slice 2 (Kd.int .i64)) w A0_2 l0_2.length l0_2) (hc0_2 : l0_2.length ≤ c0_2) (hr0_3 : Kd.C (Kd.int .i64) w A0_3 l0_3.length l0_3) (hc0_3 : l0_3.length ≤ c0_3) (h : spec_RuleText.f k l0_0 l0_1 l0_2 l0_3 = some r) :
  Calls Try.prog 23 #[.agg #[.slice A0_0 l0_0.length c0_0, .slice A0_1 l0_1.length c0_1, .slice A0_2 l0_2.length c0_2, .slice A0_3 l0_3.length c0_3]] w fun e w' => e = .returned (.string r) ∧ Below w.heap.size w w' := by
 have hu38 := Try.underlying38
 have HR0_0 := aM hr0_0
 have HC0_0 := aM hc0_0
 clear hr0_0 hc0_0
 have HR0_1 := aM hr0_1
 have HC0_1 := aM hc0_1
 clear hr0_1 hc0_1
 have HR0_2 := aM hr0_2
 have HC0_2 := aM hc0_2
 clear hr0_2 hc0_2
 have HR0_3 := aM hr0_3
 have HC0_3 := aM hc0_3
 clear hr0_3 hc0_3
 have HB := aM (Below.refl w.heap.size w)
 have H : ((spec_l25Rule_at.f k [(⟨l0_0, l0_1, l0_2, l0_3⟩ : S38)] 0).bind fun t194 => (if t194 = true then ((spec_l25RuleText_at.f k [(⟨l0_0, l0_1, l0_2, l0_3⟩ : S38)] 0).bind fun t195 => (some t195)) else (some (⟨#[]⟩ : ByteArray)))) = some r := h
 clear h
 replace H := Option.bind_eq_some_iff.mp H
 obtain ⟨t194, A20, H⟩ := H
 replace H : (if t194 = true then ((spec_l25RuleText_at.f k [(⟨l0_0, l0_1, l0_2, l0_3⟩ : S38)] 0).bind fun t195 => (some t195)) else (some (⟨#[]⟩ : ByteArray))) = some r := H
 have A2 := aM A20
 clear A20
 by_cases c3 : t194 = true
 ·subst c3
  have H1 : ((spec_l25RuleText_at.f k [(⟨l0_0, l0_1, l0_2, l0_3⟩ : S38)] 0).bind fun t195 => (some t195)) = some r := by rw [if_pos rfl] at H; exact H
  clear H
  have H := H1
  clear H1
  replace H := Option.bind_eq_some_iff.mp H
  obtain ⟨t195, A40, H⟩ := H
  replace H : (some t195) = some r := H
  have A4 := aM A40
  clear A40
  obtain rfl := Option.some.inj H
  go_enter Try.func23, Try.ntmps23
  go_wp2_with (first | ((with_reducible refine gate_dst (N := 1) rfl ?_); refine box_event ?hg (N := 1) ?hd (cs := #[.slice A0_0 l0_0.length c0_0, .slice A0_1 l0_1.length c0_1, .slice A0_2 l0_2.length c0_2, .slice A0_3 l0_3.length c0_3]) (t := 38) ?hr ?_; (case hd => rfl); (case hg => rfl); (case hr => first | (go_simp; done) | (go_simp; rfl)); intro gb193 hg w5 hbox hb; have n0_ := aM (below_step bQ hb); have n1_ := aM (hbox); have n2_ := aM ((by rw [hg]; exact (below_size bQ) : w.heap.size ≤ gb193)); have n3_ := aM ((by rw [hg]; exact (below_size bQ) : w.heap.size ≤ gb193)); clear HB; have HB := n0_; have BK193 := n1_; have GW193 := n2_; have GE193 := n3_; clear n0_ n1_ n2_ n3_; clear hb hbox hg; have hcz6_0 : w5.cell? ⟨gb193, 0, none⟩ = some (.slice A0_0 l0_0.length c0_0) := (blk_cell BK193.out 0).trans rfl; have hcz6_1 : w5.cell? ⟨gb193, 1, none⟩ = some (.slice A0_1 l0_1.length c0_1) := (blk_cell BK193.out 1).trans rfl; have hcz6_2 : w5.cell? ⟨gb193, 2, none⟩ = some (.slice A0_2 l0_2.length c0_2) := (blk_cell BK193.out 2).trans rfl; have hcz6_3 : w5.cell? ⟨gb193, 3, none⟩ = some (.slice A0_3 l0_3.length c0_3) := (blk_cell BK193.out 3).trans rfl; have hfz6_0 := blk_frozen BK193.out 0; have hfz6_1 := blk_frozen BK193.out 1; have hfz6_2 := blk_frozen BK193.out 2; have hfz6_3 := blk_frozen BK193.out 3) | ((with_reducible refine gate_callee (f := 66) rfl ?_); refine goesL_ (some 3) rfl rfl Try.func66 (by kernel_rfl) rfl #[.pointer (some ⟨gb193, 0, none⟩)] rfl gQ ?_; (with_reducible refine (spec_l25Rule_at.calls k _ [(⟨l0_0, l0_1, l0_2, l0_3⟩ : S38)] 0 true _ ?side1 A2.out).mono ?_); (case side1 => exact RPtr.box (k38_mk _ _ (by exact HC0_0.out) (by repeat (first | exact (Kd.C_below HR0_0.out HB.out) | (with_reducible first | refine cA ?_ _ | refine cN ?_ _ | refine cD ?_))) (by exact HC0_1.out) (by repeat (first | exact (Kd.C_below HR0_1.out HB.out) | (with_reducible first | refine cA ?_ _ | refine cN ?_ _ | refine cD ?_))) (by exact HC0_2.out) (by repeat (first | exact (Kd.C_below HR0_2.out HB.out) | (with_reducible first | refine cA ?_ _ | refine cN ?_ _ | refine cD ?_))) (by exact HC0_3.out) (by repeat (first | exact (Kd.C_below HR0_3.out HB.out) | (with_reducible first | refine cA ?_ _ | refine cN ?_ _ | refine cD ?_)))) (by (with_reducible repeat (first | refine blk_drewN ?_ _ | refine blk_drew ?_ | refine blk_alloc ?_ _)); exact BK193.out) rfl); rintro e w7 ⟨rfl, hb⟩; refine ⟨_, rfl, ?_⟩; have n0_ := aM (blk_below (g := gb193) (o := .cells #[.slice A0_0 l0_0.length c0_0, .slice A0_1 l0_1.length c0_1, .slice A0_2 l0_2.length c0_2, .slice A0_3 l0_3.length c0_3] 38 (0, 0)) (by (with_reducible repeat (first | refine blk_drewN ?_ _ | refine blk_drew ?_ | refine blk_alloc ?_ _)); exact BK193.out) hb); have n1_ := aM (below_step (by repeat (first | (with_reducible first | exact HB.out | apply bA | apply bN | apply bD | refine below_set ?_ GE193.out) | exact HB.out)) hb); clear BK193; clear HB; have BK193 := n0_; have HB := n1_; clear n0_ n1_; (try clear hb); (try clear hb2); (try clear hk); (try clear hi); have hcz8_0 : w7.cell? ⟨gb193, 0, none⟩ = some (.slice A0_0 l0_0.length c0_0) := (blk_cell BK193.out 0).trans rfl; have hcz8_1 : w7.cell? ⟨gb193, 1, none⟩ = some (.slice A0_1 l0_1.length c0_1) := (blk_cell BK193.out 1).trans rfl; have hcz8_2 : w7.cell? ⟨gb193, 2, none⟩ = some (.slice A0_2 l0_2.length c0_2) := (blk_cell BK193.out 2).trans rfl; have hcz8_3 : w7.cell? ⟨gb193, 3, none⟩ = some (.slice A0_3 l0_3.length c0_3) := (blk_cell BK193.out 3).trans rfl; have hfz8_0 := blk_frozen BK193.out 0; have hfz8_1 := blk_frozen BK193.out 1; have hfz8_2 := blk_frozen BK193.out 2; have hfz8_3 := blk_frozen BK193.out 3) | ((with_reducible refine gate_callee (f := 67) rfl ?_); refine goesL_ (some 5) rfl rfl Try.func67 (by kernel_rfl) rfl #[.pointer (some ⟨gb193, 0, none⟩)] rfl gQ ?_; (with_reducible refine (spec_l25RuleText_at.calls k _ [(⟨l0_0, l0_1, l0_2, l0_3⟩ : S38)] 0 t195 _ ?side1 A4.out).mono ?_); (case side1 => exact RPtr.box (k38_mk _ _ (by exact HC0_0.out) (by repeat (first | exact (Kd.C_below HR0_0.out HB.out) | (with_reducible first | refine cA ?_ _ | refine cN ?_ _ | refine cD ?_))) (by exact HC0_1.out) (by repeat (first | exact (Kd.C_below HR0_1.out HB.out) | (with_reducible first | refine cA ?_ _ | refine cN ?_ _ | refine cD ?_))) (by exact HC0_2.out) (by repeat (first | exact (Kd.C_below HR0_2.out HB.out) | (with_reducible first | refine cA ?_ _ | refine cN ?_ _ | refine cD ?_))) (by exact HC0_3.out) (by repeat (first | exact (Kd.C_below HR0_3.out HB.out) | (with_reducible first | refine cA ?_ _ | refine cN ?_ _ | refine cD ?_)))) (by (with_reducible repeat (first | refine blk_drewN ?_ _ | refine blk_drew ?_ | refine blk_alloc ?_ _)); exact BK193.out) rfl); rintro e w9 ⟨rfl, hb⟩; refine ⟨_, rfl, ?_⟩; have n0_ := aM (blk_below (g := gb193) (o := .cells #[.slice A0_0 l0_0.length c0_0, .slice A0_1 l0_1.length c0_1, .slice A0_2 l0_2.length c0_2, .slice A0_3 l0_3.length c0_3] 38 (0, 0)) (by (with_reducible repeat (first | refine blk_drewN ?_ _ | refine blk_drew ?_ | refine blk_alloc ?_ _)); exact BK193.out) hb); have n1_ := aM (below_step (by repeat (first | (with_reducible first | exact HB.out | apply bA | apply bN | apply bD | refine below_set ?_ GE193.out) | exact HB.out)) hb); clear BK193; clear HB; have BK193 := n0_; have HB := n1_; clear n0_ n1_; (try clear hb); (try clear hb2); (try clear hk); (try clear hi)))
  go_ret
  exact ⟨eQ, by repeat (first | (with_reducible first | exact HB.out | apply bA | apply bN | apply bD | refine below_set ?_ GE193.out) | exact HB.out)⟩
 ·replace c3 := Bool.eq_false_iff.mpr c3
  subst c3
  have H1 : (some (⟨#[]⟩ : ByteArray)) = some r := by rw [if_neg (show ¬ (false = true) by decide)] at H; exact H
  clear H
  have H := H1
  clear H1
  obtain rfl := Option.some.inj H
  go_enter Try.func23, Try.ntmps23
  go_wp2_with (first | ((with_reducible refine gate_dst (N := 1) rfl ?_); refine box_event ?hg (N := 1) ?hd (cs := #[.slice A0_0 l0_0.length c0_0, .slice A0_1 l0_1.length c0_1, .slice A0_2 l0_2.length c0_2, .slice A0_3 l0_3.length c0_3]) (t := 38) ?hr ?_; (case hd => rfl); (case hg => rfl); (case hr => first | (go_simp; done) | (go_simp; rfl)); intro gb193 hg w10 hbox hb; have n0_ := aM (below_step bQ hb); have n1_ := aM (hbox); have n2_ := aM ((by rw [hg]; exact (below_size bQ) : w.heap.size ≤ gb193)); have n3_ := aM ((by rw [hg]; exact (below_size bQ) : w.heap.size ≤ gb193)); clear HB; have HB := n0_; have BK193 := n1_; have GW193 := n2_; have GE193 := n3_; clear n0_ n1_ n2_ n3_; clear hb hbox hg; have hcz11_0 : w10.cell? ⟨gb193, 0, none⟩ = some (.slice A0_0 l0_0.length c0_0) := (blk_cell BK193.out 0).trans rfl; have hcz11_1 : w10.cell? ⟨gb193, 1, none⟩ = some (.slice A0_1 l0_1.length c0_1) := (blk_cell BK193.out 1).trans rfl; have hcz11_2 : w10.cell? ⟨gb193, 2, none⟩ = some (.slice A0_2 l0_2.length c0_2) := (blk_cell BK193.out 2).trans rfl; have hcz11_3 : w10.cell? ⟨gb193, 3, none⟩ = some (.slice A0_3 l0_3.length c0_3) := (blk_cell BK193.out 3).trans rfl; have hfz11_0 := blk_frozen BK193.out 0; have hfz11_1 := blk_frozen BK193.out 1; have hfz11_2 := blk_frozen BK193.out 2; have hfz11_3 := blk_frozen BK193.out 3) | ((with_reducible refine gate_callee (f := 66) rfl ?_); refine goesL_ (some 3) rfl rfl Try.func66 (by kernel_rfl) rfl #[.pointer (some ⟨gb193, 0, none⟩)] rfl gQ ?_; (with_reducible refine (spec_l25Rule_at.calls k _ [(⟨l0_0, l0_1, l0_2, l0_3⟩ : S38)] 0 false _ ?side1 A2.out).mono ?_); (case side1 => exact RPtr.box (k38_mk _ _ (by exact HC0_0.out) (by repeat (first | exact (Kd.C_below HR0_0.out HB.out) | (with_reducible first | refine cA ?_ _ | refine cN ?_ _ | refine cD ?_))) (by exact HC0_1.out) (by repeat (first | exact (Kd.C_below HR0_1.out HB.out) | (with_reducible first | refine cA ?_ _ | refine cN ?_ _ | refine cD ?_))) (by exact HC0_2.out) (by repeat (first | exact (Kd.C_below HR0_2.out HB.out) | (with_reducible first | refine cA ?_ _ | refine cN ?_ _ | refine cD ?_))) (by exact HC0_3.out) (by repeat (first | exact (Kd.C_below HR0_3.out HB.out) | (with_reducible first | refine cA ?_ _ | refine cN ?_ _ | refine cD ?_)))) (by (with_reducible repeat (first | refine blk_drewN ?_ _ | refine blk_drew ?_ | refine blk_alloc ?_ _)); exact BK193.out) rfl); rintro e w12 ⟨rfl, hb⟩; refine ⟨_, rfl, ?_⟩; have n0_ := aM (blk_below (g := gb193) (o := .cells #[.slice A0_0 l0_0.length c0_0, .slice A0_1 l0_1.length c0_1, .slice A0_2 l0_2.length c0_2, .slice A0_3 l0_3.length c0_3] 38 (0, 0)) (by (with_reducible repeat (first | refine blk_drewN ?_ _ | refine blk_drew ?_ | refine blk_alloc ?_ _)); exact BK193.out) hb); have n1_ := aM (below_step (by repeat (first | (with_reducible first | exact HB.out | apply bA | apply bN | apply bD | refine below_set ?_ GE193.out) | exact HB.out)) hb); clear BK193; clear HB; have BK193 := n0_; have HB := n1_; clear n0_ n1_; (try clear hb); (try clear hb2); (try clear hk); (try clear hi)))
  go_ret
  exact ⟨eQ, by repeat (first | (with_reducible first | exact HB.out | apply bA | apply bN | apply bD | refine below_set ?_ GE193.out) | exact HB.out)⟩

end Go.Proofs.Ytdahcapolipnbaa.QFnExactRuleText
