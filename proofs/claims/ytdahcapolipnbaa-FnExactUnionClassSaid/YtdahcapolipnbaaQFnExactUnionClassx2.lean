/- What some Go functions answer, each as a Lean function, and that the machine answers so: written by a program of this session out of the translation. -/
import Derived.Test.YtdahcapolipnbaaQFnExactUnionClassx0
import Derived.Test.YtdahcapolipnbaaQFnExactUnionClassx1
namespace Go.Proofs.Ytdahcapolipnbaa.QFnExactUnionClass
open Go.RowKit Go.Proofs.YtdahcapolipnbaaW.PrintWords Go.Proofs.YtdahcapolipnbaaW.PrintLast Go.Proofs.YtdahcapolipnbaaW.PrintMore Go.Proofs.Ytdahcapolipnbaa.Rp
attribute [local go_sem] max2_int min2_int max_two min_two max_three min_three max_four min_four   -- for this text's walks alone
set_option linter.unusedVariables false
set_option linter.unusedSimpArgs false

/-! ### spec_l23Filter: function 61 -/
mutual
def spec_l23Filter.j0 : Nat → List Int → List Int → Bool → Bool → Bool → Bool → Option (List Int × Int)
 | 0, _, _, _, _, _, _ => none
 | k + 1, x0, x1, x2, x3, x4, x23 => if x23 = true then (some (([] : List Int), 1)) else (spec_l23Filter.l0 k x0 x1 x2 x3 x4 (([] : List Int)) 0)
def spec_l23Filter.l0 : Nat → List Int → List Int → Bool → Bool → Bool → List Int → Int → Option (List Int × Int)
 | 0, _, _, _, _, _, _, _ => none
 | k + 1, x0, x1, x2, x3, x4, x12, x13 => if x13 < 40 then ((spec_l00Has.f k x0 x13).bind fun t120 => ((spec_l00Has.f k x1 x13).bind fun t121 => (if t120 = true then (if t121 = true then (if x3 = true then (if x12.length < 17592186044416 then (spec_l23Filter.l0 k x0 x1 x2 x3 x4 (x12 ++ [x13]) (wrap64 (x13 + 1))) else (none)) else (spec_l23Filter.l0 k x0 x1 x2 x3 x4 x12 (wrap64 (x13 + 1)))) else (if x2 = true then (if x12.length < 17592186044416 then (spec_l23Filter.l0 k x0 x1 x2 x3 x4 (x12 ++ [x13]) (wrap64 (x13 + 1))) else (none)) else (spec_l23Filter.l0 k x0 x1 x2 x3 x4 x12 (wrap64 (x13 + 1))))) else (if t121 = true then (if x4 = true then (if x12.length < 17592186044416 then (spec_l23Filter.l0 k x0 x1 x2 x3 x4 (x12 ++ [x13]) (wrap64 (x13 + 1))) else (none)) else (spec_l23Filter.l0 k x0 x1 x2 x3 x4 x12 (wrap64 (x13 + 1)))) else (spec_l23Filter.l0 k x0 x1 x2 x3 x4 x12 (wrap64 (x13 + 1))))))) else (some (x12, 0))
end
def spec_l23Filter.f (k : Nat) (l0 : List Int) (l1 : List Int) (a2 : Bool) (a3 : Bool) (a4 : Bool) : Option (List Int × Int) := (spec_l23Ok.f k l0).bind fun t115 => (if t115 = true then ((spec_l23Ok.f k l1).bind fun t116 => (spec_l23Filter.j0 k l0 l1 a2 a3 a4 (!t116))) else (spec_l23Filter.j0 k l0 l1 a2 a3 a4 true))
theorem spec_l23Filter.mono_l : ∀ k, (∀ y0 y1 y2 y3 y4 y5, LeO (spec_l23Filter.j0 k y0 y1 y2 y3 y4 y5) (spec_l23Filter.j0 (k + 1) y0 y1 y2 y3 y4 y5)) ∧ (∀ y0 y1 y2 y3 y4 y5 y6, LeO (spec_l23Filter.l0 k y0 y1 y2 y3 y4 y5 y6) (spec_l23Filter.l0 (k + 1) y0 y1 y2 y3 y4 y5 y6))
 | 0 => ⟨fun _ _ _ _ _ _ r h => by simp [spec_l23Filter.j0] at h, fun _ _ _ _ _ _ _ r h => by simp [spec_l23Filter.l0] at h⟩
 | k + 1 => by
  obtain ⟨ih0, ih1⟩ := spec_l23Filter.mono_l k
  refine ⟨?_, ?_⟩
  ·intro y0 y1 y2 y3 y4 y5
   unfold spec_l23Filter.j0
   repeat' first
   | (with_reducible exact ih0 _ _ _ _ _ _)
   | (with_reducible exact ih1 _ _ _ _ _ _ _)
   | (with_reducible exact spec_l00Has.mono _ _ _)
   | (with_reducible exact spec_l23Ok.mono _ _)
   | (with_reducible exact LeO.refl _)
   | (with_reducible exact LeO.none _)
   | (with_reducible refine LeO.ite ?_ ?_)
   | (with_reducible refine LeO.bind ?_ (fun _ => ?_))
   | exact ih0 _ _ _ _ _ _
   | exact ih1 _ _ _ _ _ _ _
   | exact spec_l00Has.mono _ _ _
   | exact spec_l23Ok.mono _ _
   | exact LeO.none _
   | refine LeO.ite ?_ ?_
   | refine LeO.bind ?_ (fun _ => ?_)
  ·intro y0 y1 y2 y3 y4 y5 y6
   unfold spec_l23Filter.l0
   repeat' first
   | (with_reducible exact ih0 _ _ _ _ _ _)
   | (with_reducible exact ih1 _ _ _ _ _ _ _)
   | (with_reducible exact spec_l00Has.mono _ _ _)
   | (with_reducible exact spec_l23Ok.mono _ _)
   | (with_reducible exact LeO.refl _)
   | (with_reducible exact LeO.none _)
   | (with_reducible refine LeO.ite ?_ ?_)
   | (with_reducible refine LeO.bind ?_ (fun _ => ?_))
   | exact ih0 _ _ _ _ _ _
   | exact ih1 _ _ _ _ _ _ _
   | exact spec_l00Has.mono _ _ _
   | exact spec_l23Ok.mono _ _
   | exact LeO.none _
   | refine LeO.ite ?_ ?_
   | refine LeO.bind ?_ (fun _ => ?_)
theorem spec_l23Filter.mono : ∀ a0 a1 a2 a3 a4 k, LeO (spec_l23Filter.f k a0 a1 a2 a3 a4) (spec_l23Filter.f (k + 1) a0 a1 a2 a3 a4) := by
 intro a0 a1 a2 a3 a4 k
 obtain ⟨ih0, ih1⟩ := spec_l23Filter.mono_l k
 unfold spec_l23Filter.f
 repeat' first
   | (with_reducible exact ih0 _ _ _ _ _ _)
   | (with_reducible exact ih1 _ _ _ _ _ _ _)
   | (with_reducible exact spec_l00Has.mono _ _ _)
   | (with_reducible exact spec_l23Ok.mono _ _)
   | (with_reducible exact LeO.refl _)
   | (with_reducible exact LeO.none _)
   | (with_reducible refine LeO.ite ?_ ?_)
   | (with_reducible refine LeO.bind ?_ (fun _ => ?_))
   | exact ih0 _ _ _ _ _ _
   | exact ih1 _ _ _ _ _ _ _
   | exact spec_l00Has.mono _ _ _
   | exact spec_l23Ok.mono _ _
   | exact LeO.none _
   | refine LeO.ite ?_ ?_
   | refine LeO.bind ?_ (fun _ => ?_)
set_option maxHeartbeats 8000000 in
set_option maxRecDepth 100000 in
theorem spec_l23Filter.calls (k : Nat) (A0 : Option Addr) (c0 : Nat) (l0 : List Int) (A1 : Option Addr) (c1 : Nat) (l1 : List Int) (a2 : Bool) (a3 : Bool) (a4 : Bool) (r1 : List Int) (r2 : Int) (w : World) (hr0 : Kd.C (Kd.int .i64) w A0 l0.length l0) (hc0 : l0.length ≤ c0) (hr1 : Kd.C (Kd.int .i64) w A1 l1.length l1) (hc1 : l1.length ≤ c1) (h : spec_l23Filter.f k l0 l1 a2 a3 a4 = some (r1, r2)) :
  Calls Try.prog 61 #[.slice A0 l0.length c0, .slice A1 l1.length c1, .bool a2, .bool a3, .bool a4] w fun e w' => ∃ v0_ : Value, e = .returned (.tuple #[v0_, .int .i64 r2]) ∧ Kd.R (Kd.int .i64) 2 w' w.heap.size (fun _ => True) v0_ r1 ∧ Below w.heap.size w w' := by
 have HR0 := aM hr0
 have HC0 := aM hc0
 clear hr0 hc0
 have HR1 := aM hr1
 have HC1 := aM hc1
 clear hr1 hc1
 have HB := aM (Below.refl w.heap.size w)
 have H : ((spec_l23Ok.f k l0).bind fun t115 => (if t115 = true then ((spec_l23Ok.f k l1).bind fun t116 => (spec_l23Filter.j0 k l0 l1 a2 a3 a4 (!t116))) else (spec_l23Filter.j0 k l0 l1 a2 a3 a4 true))) = some (r1, r2) := h
 clear h
 have HC6 := aM H
 clear H
 go_enter Try.func61, Try.ntmps61
 go_upto_region 1 with (fail)
 go_cut [23] (fun v23 wc => ∃ (kq : Nat) (x23_5 : Bool), v23 = .bool x23_5 ∧ Aside0 (spec_l23Filter.j0 kq l0 l1 a2 a3 a4 x23_5 = some (r1, r2)) ∧ Aside0 (kq ≤ k) ∧ Aside0 (Below w.heap.size w wc))
 case first =>
  have H := HC6.out
  clear HC6
  replace H := Option.bind_eq_some_iff.mp H
  obtain ⟨t115, A70, H⟩ := H
  replace H : (if t115 = true then ((spec_l23Ok.f k l1).bind fun t116 => (spec_l23Filter.j0 k l0 l1 a2 a3 a4 (!t116))) else (spec_l23Filter.j0 k l0 l1 a2 a3 a4 true)) = some (r1, r2) := H
  have A7 := aM A70
  clear A70
  by_cases c8 : t115 = true
  ·subst c8
   have H1 : ((spec_l23Ok.f k l1).bind fun t116 => (spec_l23Filter.j0 k l0 l1 a2 a3 a4 (!t116))) = some (r1, r2) := by rw [if_pos rfl] at H; exact H
   clear H
   have H := H1
   clear H1
   replace H := Option.bind_eq_some_iff.mp H
   obtain ⟨t116, A90, H⟩ := H
   replace H : (spec_l23Filter.j0 k l0 l1 a2 a3 a4 (!t116)) = some (r1, r2) := H
   have A9 := aM A90
   clear A90
   have H' := aM H
   clear H
   go_wp2_with (first | ((with_reducible refine gate_callee (f := 50) rfl ?_); refine goesL_ (some 17) rfl rfl Try.func50 (by kernel_rfl) rfl #[.slice A0 l0.length c0] rfl gQ ?_; (with_reducible refine (spec_l23Ok.calls k _ _ l0 true _ ?side1 ?side2 A7.out).mono ?_); (case side1 => exact cQ HR0.out); (case side2 => exact HC0.out); rintro e w' ⟨rfl, ⟨nd, rfl⟩⟩; refine ⟨_, rfl, ?_⟩) | (go_at_call 50; (with_reducible refine (spec_l23Ok.calls k _ _ l1 t116 _ ?side1 ?side2 A9.out).mono ?_); (case side1 => exact cQ HR1.out); (case side2 => exact HC1.out); rintro e w' ⟨rfl, ⟨nd, rfl⟩⟩))
   go_meet
   case rel => exact ⟨_, (!t116), rQ, H', ⟨by first | omega | exact Nat.le_refl _⟩, ⟨bQ⟩⟩
  ·replace c8 := Bool.eq_false_iff.mpr c8
   subst c8
   have H1 : (spec_l23Filter.j0 k l0 l1 a2 a3 a4 true) = some (r1, r2) := by rw [if_neg (show ¬ (false = true) by decide)] at H; exact H
   clear H
   have H := H1
   clear H1
   have H' := aM H
   clear H
   go_wp2_with (first | ((with_reducible refine gate_callee (f := 50) rfl ?_); refine goesL_ (some 17) rfl rfl Try.func50 (by kernel_rfl) rfl #[.slice A0 l0.length c0] rfl gQ ?_; (with_reducible refine (spec_l23Ok.calls k _ _ l0 false _ ?side1 ?side2 A7.out).mono ?_); (case side1 => exact cQ HR0.out); (case side2 => exact HC0.out); rintro e w' ⟨rfl, ⟨nd, rfl⟩⟩; refine ⟨_, rfl, ?_⟩))
   go_meet
   case rel => exact ⟨_, (true), rQ, H', ⟨by first | omega | exact Nat.le_refl _⟩, ⟨bQ⟩⟩
 case rest =>
  clear HC6
  try clear c1
  try clear p2
  try clear c5
  try clear c6
  try clear c8
  obtain ⟨kq, x23_5, rfl, HA, HJ5, HB⟩ := hcut
  cases kq with
  | zero => exact absurd HA.out (by simp [spec_l23Filter.j0])
  | succ kj5 =>
   have H := HA.out
   clear HA
   simp only [spec_l23Filter.j0] at H
   by_cases c10 : x23_5 = true
   ·subst c10
    have H1 : (some (([] : List Int), 1)) = some (r1, r2) := by rw [if_pos rfl] at H; exact H
    clear H
    have H := H1
    clear H1
    simp only [Option.some.injEq, Prod.mk.injEq] at H
    obtain ⟨rfl, rfl⟩ := H
    go_wp2
    go_ret2
    exact ⟨_, eQ, by first | exact Kd.R_nil _ _ _ _ _ | exact Kd.N_nil _ _ _ _ _ | exact Kd.V_nil _ _ _ _ _ | exact Kd.Q_nil _ _ _ _ _ | exact Kd.S_nil _ _ _ _ _, bQ⟩
   ·replace c10 := Bool.eq_false_iff.mpr c10
    subst c10
    have H1 : (spec_l23Filter.l0 kj5 l0 l1 a2 a3 a4 (([] : List Int)) 0) = some (r1, r2) := by rw [if_neg (show ¬ (false = true) by decide)] at H; exact H
    clear H
    have H := H1
    clear H1
    obtain ⟨y117, hy117⟩ : ∃ y_ : List Int, y_ = (([] : List Int)) := ⟨_, rfl⟩
    replace H : (spec_l23Filter.l0 kj5 l0 l1 a2 a3 a4 y117 0) = some (r1, r2) := by first | (rw [hy117]; with_reducible exact H) | (have H2_ := bS H; rw [hy117]; with_reducible exact H2_) | (have H2_ := bS H; with_reducible exact H2_) | with_reducible exact H | (rw [hy117]; exact H) | exact H
    have Ny117 := aM hy117
    clear hy117
    have H' := aM H
    clear H
    go_wp2_with (first | ((with_reducible refine gate_dst (N := 24) rfl ?_); refine Kd.R_lit (Kd.int .i64) _ 2 ?hg (N := 24) ?hd (xs := ([] : List Int)) (inner := []) (ok := fun _ => True) (okp := fun _ => True) ?hr ?hp (fun _ hk => hk) trivial (Below.refl _ _) (Nat.le_refl _) (by simp) ?_; (case hd => rfl); (case hg => rfl); (case hr => first | (go_simp; done) | (go_simp; rfl)); (case hp => exact (Reps.none _ _)); intro v118 w11 ho12 hb hg_ hnew_; clear hg_ hnew_; (first | rw [← Ny117.out] at ho12 | (simp only [Int.reduceToNat] at ho12; rw [← Ny117.out] at ho12)); have n0_ := aM (Kd.R_lower ho12 (below_size bQ)); have n1_ := aM (below_step bQ hb); clear HB; have HO119 := n0_; have HB := n1_; clear n0_ n1_; clear hb ho12))
    go_loopg [12, 13] kj5 (fun kq v12 v13 w' => ∃ (x12_2 : List Int) (x13_2 : Int), v13 = .int .i64 x13_2 ∧ Aside0 (spec_l23Filter.l0 kq l0 l1 a2 a3 a4 x12_2 x13_2 = some (r1, r2)) ∧ Aside0 (kq ≤ kj5) ∧ Aside0 (Kd.R (Kd.int .i64) 2 w' w.heap.size (fun _ => True) v12 x12_2) ∧ Aside0 (Below w.heap.size w w'))
    case atStart => exact ⟨(y117), (0), rQ, H', ⟨Nat.le_refl _⟩, ⟨by (with_reducible repeat (first | apply rA | apply rN | apply rD)); exact HO119.out⟩, ⟨bQ⟩⟩
    case round =>
     clear H'
     try clear c1
     try clear p2
     try clear c5
     try clear c6
     try clear c8
     try clear c10
     try clear p2
     obtain ⟨x12_2, x13_2, rfl, HA, HK2, HO_12, HB⟩ := hrel
     cases gk with
     | zero => exact absurd HA.out (by simp [spec_l23Filter.l0])
     | succ k2 =>
      have H := HA.out
      clear HA
      simp only [spec_l23Filter.l0] at H
      by_cases c13 : x13_2 < 40
      ·rw [if_pos c13] at H
       have c13b0 : decide (x13_2 < 40) = true := decide_eq_true c13
       clear c13
       replace H := Option.bind_eq_some_iff.mp H
       obtain ⟨t120, A140, H⟩ := H
       replace H : ((spec_l00Has.f k2 l1 x13_2).bind fun t121 => (if t120 = true then (if t121 = true then (if a3 = true then (if x12_2.length < 17592186044416 then (spec_l23Filter.l0 k2 l0 l1 a2 a3 a4 (x12_2 ++ [x13_2]) (wrap64 (x13_2 + 1))) else (none)) else (spec_l23Filter.l0 k2 l0 l1 a2 a3 a4 x12_2 (wrap64 (x13_2 + 1)))) else (if a2 = true then (if x12_2.length < 17592186044416 then (spec_l23Filter.l0 k2 l0 l1 a2 a3 a4 (x12_2 ++ [x13_2]) (wrap64 (x13_2 + 1))) else (none)) else (spec_l23Filter.l0 k2 l0 l1 a2 a3 a4 x12_2 (wrap64 (x13_2 + 1))))) else (if t121 = true then (if a4 = true then (if x12_2.length < 17592186044416 then (spec_l23Filter.l0 k2 l0 l1 a2 a3 a4 (x12_2 ++ [x13_2]) (wrap64 (x13_2 + 1))) else (none)) else (spec_l23Filter.l0 k2 l0 l1 a2 a3 a4 x12_2 (wrap64 (x13_2 + 1)))) else (spec_l23Filter.l0 k2 l0 l1 a2 a3 a4 x12_2 (wrap64 (x13_2 + 1)))))) = some (r1, r2) := H
       have A14 := aM A140
       clear A140
       replace H := Option.bind_eq_some_iff.mp H
       obtain ⟨t121, A150, H⟩ := H
       replace H : (if t120 = true then (if t121 = true then (if a3 = true then (if x12_2.length < 17592186044416 then (spec_l23Filter.l0 k2 l0 l1 a2 a3 a4 (x12_2 ++ [x13_2]) (wrap64 (x13_2 + 1))) else (none)) else (spec_l23Filter.l0 k2 l0 l1 a2 a3 a4 x12_2 (wrap64 (x13_2 + 1)))) else (if a2 = true then (if x12_2.length < 17592186044416 then (spec_l23Filter.l0 k2 l0 l1 a2 a3 a4 (x12_2 ++ [x13_2]) (wrap64 (x13_2 + 1))) else (none)) else (spec_l23Filter.l0 k2 l0 l1 a2 a3 a4 x12_2 (wrap64 (x13_2 + 1))))) else (if t121 = true then (if a4 = true then (if x12_2.length < 17592186044416 then (spec_l23Filter.l0 k2 l0 l1 a2 a3 a4 (x12_2 ++ [x13_2]) (wrap64 (x13_2 + 1))) else (none)) else (spec_l23Filter.l0 k2 l0 l1 a2 a3 a4 x12_2 (wrap64 (x13_2 + 1)))) else (spec_l23Filter.l0 k2 l0 l1 a2 a3 a4 x12_2 (wrap64 (x13_2 + 1))))) = some (r1, r2) := H
       have A15 := aM A150
       clear A150
       by_cases c16 : t120 = true
       ·subst c16
        have H1 : (if t121 = true then (if a3 = true then (if x12_2.length < 17592186044416 then (spec_l23Filter.l0 k2 l0 l1 a2 a3 a4 (x12_2 ++ [x13_2]) (wrap64 (x13_2 + 1))) else (none)) else (spec_l23Filter.l0 k2 l0 l1 a2 a3 a4 x12_2 (wrap64 (x13_2 + 1)))) else (if a2 = true then (if x12_2.length < 17592186044416 then (spec_l23Filter.l0 k2 l0 l1 a2 a3 a4 (x12_2 ++ [x13_2]) (wrap64 (x13_2 + 1))) else (none)) else (spec_l23Filter.l0 k2 l0 l1 a2 a3 a4 x12_2 (wrap64 (x13_2 + 1))))) = some (r1, r2) := by rw [if_pos rfl] at H; exact H
        clear H
        have H := H1
        clear H1
        by_cases c17 : t121 = true
        ·subst c17
         have H1 : (if a3 = true then (if x12_2.length < 17592186044416 then (spec_l23Filter.l0 k2 l0 l1 a2 a3 a4 (x12_2 ++ [x13_2]) (wrap64 (x13_2 + 1))) else (none)) else (spec_l23Filter.l0 k2 l0 l1 a2 a3 a4 x12_2 (wrap64 (x13_2 + 1)))) = some (r1, r2) := by rw [if_pos rfl] at H; exact H
         clear H
         have H := H1
         clear H1
         by_cases c18 : a3 = true
         ·subst c18
          have H1 : (if x12_2.length < 17592186044416 then (spec_l23Filter.l0 k2 l0 l1 a2 true a4 (x12_2 ++ [x13_2]) (wrap64 (x13_2 + 1))) else (none)) = some (r1, r2) := by rw [if_pos rfl] at H; exact H
          clear H
          have H := H1
          clear H1
          by_cases c19 : x12_2.length < 17592186044416
          ·rw [if_pos c19] at H
           have LMc19 := aM c19
           clear c19
           obtain ⟨y122, hy122⟩ : ∃ y_ : List Int, y_ = (x12_2 ++ [x13_2]) := ⟨_, rfl⟩
           replace H : (spec_l23Filter.l0 k2 l0 l1 a2 true a4 y122 (wrap64 (x13_2 + 1))) = some (r1, r2) := by first | (rw [hy122]; with_reducible exact H) | (have H2_ := bS H; rw [hy122]; with_reducible exact H2_) | (have H2_ := bS H; with_reducible exact H2_) | with_reducible exact H | (rw [hy122]; exact H) | exact H
           have Ny122 := aM hy122
           clear hy122
           have H' := aM H
           clear H
           go_wp2_with (first | ((with_reducible refine gate_callee (f := 126) rfl ?_); refine goesL_ (some 31) rfl rfl Try.func126 (by kernel_rfl) rfl #[.slice A0 l0.length c0, .int .i64 x13_2] rfl gQ ?_; (with_reducible refine (spec_l00Has.calls k2 _ _ l0 x13_2 true _ ?side1 ?side2 A14.out).mono ?_); (case side1 => exact cQ HR0.out); (case side2 => exact HC0.out); rintro e w' ⟨rfl, ⟨nd, rfl⟩⟩; refine ⟨_, rfl, ?_⟩) | ((with_reducible refine gate_callee (f := 126) rfl ?_); refine goesL_ (some 34) rfl rfl Try.func126 (by kernel_rfl) rfl #[.slice A1 l1.length c1, .int .i64 x13_2] rfl gQ ?_; (with_reducible refine (spec_l00Has.calls k2 _ _ l1 x13_2 true _ ?side1 ?side2 A15.out).mono ?_); (case side1 => exact cQ HR1.out); (case side2 => exact HC1.out); rintro e w' ⟨rfl, ⟨nd, rfl⟩⟩; refine ⟨_, rfl, ?_⟩) | ((with_reducible refine gate_builtin (b := .append) (xs := #[.tmp 62, .tmp 64]) rfl ?_); at_builtin; refine Kd.R_append (Kd.int .i64) (w0 := w) w.heap.size rfl (.tmp 62) (.tmp 64) 22 2 (.int .i64 0) 8 rfl Try.underlying22 info2 rfl (by decide) (by omega) u12 x12_2 x13_2 [.int .i64 x13_2] (fun _ => True) (fun _ => False) rfl rfl ?aP (fun _ hk => hk.elim) ?aF ?aO ?aB ?aS ?aL ?_; (case aP => exact rfl); (case aB => exact bQ); (case aF => exact (fun _ _ => trivial)); (case aO => exact (by (with_reducible repeat (first | apply rA | apply rN | apply rD)); exact HO_12.out)); (case aS => exact (below_size bQ)); (case aL => have := LMc19.out; omega); intro v123 w20 ho hb hg hat; rw [← Ny122.out] at ho; have n0_ := aM (hb); have n1_ := aM (ho); clear HB; clear HO_12; have HB := n0_; have HO124 := n1_; clear n0_ n1_; clear ho hb hg hat))
           go_roundg k2
           case measure => have := HJ5.out; have := HK2.out; omega
           case rel => exact ⟨(y122), (wrap64 (x13_2 + 1)), rQ, H', ⟨by have := HJ5.out; have := HK2.out; omega⟩, ⟨by (with_reducible repeat (first | apply rA | apply rN | apply rD)); exact HO124.out⟩, ⟨bQ⟩⟩
          ·rw [if_neg c19] at H
           exact absurd H (by simp)
         ·replace c18 := Bool.eq_false_iff.mpr c18
          subst c18
          have H1 : (spec_l23Filter.l0 k2 l0 l1 a2 false a4 x12_2 (wrap64 (x13_2 + 1))) = some (r1, r2) := by rw [if_neg (show ¬ (false = true) by decide)] at H; exact H
          clear H
          have H := H1
          clear H1
          have H' := aM H
          clear H
          go_wp2_with (first | ((with_reducible refine gate_callee (f := 126) rfl ?_); refine goesL_ (some 31) rfl rfl Try.func126 (by kernel_rfl) rfl #[.slice A0 l0.length c0, .int .i64 x13_2] rfl gQ ?_; (with_reducible refine (spec_l00Has.calls k2 _ _ l0 x13_2 true _ ?side1 ?side2 A14.out).mono ?_); (case side1 => exact cQ HR0.out); (case side2 => exact HC0.out); rintro e w' ⟨rfl, ⟨nd, rfl⟩⟩; refine ⟨_, rfl, ?_⟩) | ((with_reducible refine gate_callee (f := 126) rfl ?_); refine goesL_ (some 34) rfl rfl Try.func126 (by kernel_rfl) rfl #[.slice A1 l1.length c1, .int .i64 x13_2] rfl gQ ?_; (with_reducible refine (spec_l00Has.calls k2 _ _ l1 x13_2 true _ ?side1 ?side2 A15.out).mono ?_); (case side1 => exact cQ HR1.out); (case side2 => exact HC1.out); rintro e w' ⟨rfl, ⟨nd, rfl⟩⟩; refine ⟨_, rfl, ?_⟩))
          go_roundg k2
          case measure => have := HJ5.out; have := HK2.out; omega
          case rel => exact ⟨(x12_2), (wrap64 (x13_2 + 1)), rQ, H', ⟨by have := HJ5.out; have := HK2.out; omega⟩, ⟨by (with_reducible repeat (first | apply rA | apply rN | apply rD)); exact HO_12.out⟩, ⟨bQ⟩⟩
        ·replace c17 := Bool.eq_false_iff.mpr c17
         subst c17
         have H1 : (if a2 = true then (if x12_2.length < 17592186044416 then (spec_l23Filter.l0 k2 l0 l1 a2 a3 a4 (x12_2 ++ [x13_2]) (wrap64 (x13_2 + 1))) else (none)) else (spec_l23Filter.l0 k2 l0 l1 a2 a3 a4 x12_2 (wrap64 (x13_2 + 1)))) = some (r1, r2) := by rw [if_neg (show ¬ (false = true) by decide)] at H; exact H
         clear H
         have H := H1
         clear H1
         by_cases c21 : a2 = true
         ·subst c21
          have H1 : (if x12_2.length < 17592186044416 then (spec_l23Filter.l0 k2 l0 l1 true a3 a4 (x12_2 ++ [x13_2]) (wrap64 (x13_2 + 1))) else (none)) = some (r1, r2) := by rw [if_pos rfl] at H; exact H
          clear H
          have H := H1
          clear H1
          by_cases c22 : x12_2.length < 17592186044416
          ·rw [if_pos c22] at H
           have LMc22 := aM c22
           clear c22
           obtain ⟨y125, hy125⟩ : ∃ y_ : List Int, y_ = (x12_2 ++ [x13_2]) := ⟨_, rfl⟩
           replace H : (spec_l23Filter.l0 k2 l0 l1 true a3 a4 y125 (wrap64 (x13_2 + 1))) = some (r1, r2) := by first | (rw [hy125]; with_reducible exact H) | (have H2_ := bS H; rw [hy125]; with_reducible exact H2_) | (have H2_ := bS H; with_reducible exact H2_) | with_reducible exact H | (rw [hy125]; exact H) | exact H
           have Ny125 := aM hy125
           clear hy125
           have H' := aM H
           clear H
           go_wp2_with (first | ((with_reducible refine gate_callee (f := 126) rfl ?_); refine goesL_ (some 31) rfl rfl Try.func126 (by kernel_rfl) rfl #[.slice A0 l0.length c0, .int .i64 x13_2] rfl gQ ?_; (with_reducible refine (spec_l00Has.calls k2 _ _ l0 x13_2 true _ ?side1 ?side2 A14.out).mono ?_); (case side1 => exact cQ HR0.out); (case side2 => exact HC0.out); rintro e w' ⟨rfl, ⟨nd, rfl⟩⟩; refine ⟨_, rfl, ?_⟩) | ((with_reducible refine gate_callee (f := 126) rfl ?_); refine goesL_ (some 34) rfl rfl Try.func126 (by kernel_rfl) rfl #[.slice A1 l1.length c1, .int .i64 x13_2] rfl gQ ?_; (with_reducible refine (spec_l00Has.calls k2 _ _ l1 x13_2 false _ ?side1 ?side2 A15.out).mono ?_); (case side1 => exact cQ HR1.out); (case side2 => exact HC1.out); rintro e w' ⟨rfl, ⟨nd, rfl⟩⟩; refine ⟨_, rfl, ?_⟩) | ((with_reducible refine gate_builtin (b := .append) (xs := #[.tmp 62, .tmp 64]) rfl ?_); at_builtin; refine Kd.R_append (Kd.int .i64) (w0 := w) w.heap.size rfl (.tmp 62) (.tmp 64) 22 2 (.int .i64 0) 8 rfl Try.underlying22 info2 rfl (by decide) (by omega) u12 x12_2 x13_2 [.int .i64 x13_2] (fun _ => True) (fun _ => False) rfl rfl ?aP (fun _ hk => hk.elim) ?aF ?aO ?aB ?aS ?aL ?_; (case aP => exact rfl); (case aB => exact bQ); (case aF => exact (fun _ _ => trivial)); (case aO => exact (by (with_reducible repeat (first | apply rA | apply rN | apply rD)); exact HO_12.out)); (case aS => exact (below_size bQ)); (case aL => have := LMc22.out; omega); intro v126 w23 ho hb hg hat; rw [← Ny125.out] at ho; have n0_ := aM (hb); have n1_ := aM (ho); clear HB; clear HO_12; have HB := n0_; have HO127 := n1_; clear n0_ n1_; clear ho hb hg hat))
           go_roundg k2
           case measure => have := HJ5.out; have := HK2.out; omega
           case rel => exact ⟨(y125), (wrap64 (x13_2 + 1)), rQ, H', ⟨by have := HJ5.out; have := HK2.out; omega⟩, ⟨by (with_reducible repeat (first | apply rA | apply rN | apply rD)); exact HO127.out⟩, ⟨bQ⟩⟩
          ·rw [if_neg c22] at H
           exact absurd H (by simp)
         ·replace c21 := Bool.eq_false_iff.mpr c21
          subst c21
          have H1 : (spec_l23Filter.l0 k2 l0 l1 false a3 a4 x12_2 (wrap64 (x13_2 + 1))) = some (r1, r2) := by rw [if_neg (show ¬ (false = true) by decide)] at H; exact H
          clear H
          have H := H1
          clear H1
          have H' := aM H
          clear H
          go_wp2_with (first | ((with_reducible refine gate_callee (f := 126) rfl ?_); refine goesL_ (some 31) rfl rfl Try.func126 (by kernel_rfl) rfl #[.slice A0 l0.length c0, .int .i64 x13_2] rfl gQ ?_; (with_reducible refine (spec_l00Has.calls k2 _ _ l0 x13_2 true _ ?side1 ?side2 A14.out).mono ?_); (case side1 => exact cQ HR0.out); (case side2 => exact HC0.out); rintro e w' ⟨rfl, ⟨nd, rfl⟩⟩; refine ⟨_, rfl, ?_⟩) | ((with_reducible refine gate_callee (f := 126) rfl ?_); refine goesL_ (some 34) rfl rfl Try.func126 (by kernel_rfl) rfl #[.slice A1 l1.length c1, .int .i64 x13_2] rfl gQ ?_; (with_reducible refine (spec_l00Has.calls k2 _ _ l1 x13_2 false _ ?side1 ?side2 A15.out).mono ?_); (case side1 => exact cQ HR1.out); (case side2 => exact HC1.out); rintro e w' ⟨rfl, ⟨nd, rfl⟩⟩; refine ⟨_, rfl, ?_⟩))
          go_roundg k2
          case measure => have := HJ5.out; have := HK2.out; omega
          case rel => exact ⟨(x12_2), (wrap64 (x13_2 + 1)), rQ, H', ⟨by have := HJ5.out; have := HK2.out; omega⟩, ⟨by (with_reducible repeat (first | apply rA | apply rN | apply rD)); exact HO_12.out⟩, ⟨bQ⟩⟩
       ·replace c16 := Bool.eq_false_iff.mpr c16
        subst c16
        have H1 : (if t121 = true then (if a4 = true then (if x12_2.length < 17592186044416 then (spec_l23Filter.l0 k2 l0 l1 a2 a3 a4 (x12_2 ++ [x13_2]) (wrap64 (x13_2 + 1))) else (none)) else (spec_l23Filter.l0 k2 l0 l1 a2 a3 a4 x12_2 (wrap64 (x13_2 + 1)))) else (spec_l23Filter.l0 k2 l0 l1 a2 a3 a4 x12_2 (wrap64 (x13_2 + 1)))) = some (r1, r2) := by rw [if_neg (show ¬ (false = true) by decide)] at H; exact H
        clear H
        have H := H1
        clear H1
        by_cases c24 : t121 = true
        ·subst c24
         have H1 : (if a4 = true then (if x12_2.length < 17592186044416 then (spec_l23Filter.l0 k2 l0 l1 a2 a3 a4 (x12_2 ++ [x13_2]) (wrap64 (x13_2 + 1))) else (none)) else (spec_l23Filter.l0 k2 l0 l1 a2 a3 a4 x12_2 (wrap64 (x13_2 + 1)))) = some (r1, r2) := by rw [if_pos rfl] at H; exact H
         clear H
         have H := H1
         clear H1
         by_cases c25 : a4 = true
         ·subst c25
          have H1 : (if x12_2.length < 17592186044416 then (spec_l23Filter.l0 k2 l0 l1 a2 a3 true (x12_2 ++ [x13_2]) (wrap64 (x13_2 + 1))) else (none)) = some (r1, r2) := by rw [if_pos rfl] at H; exact H
          clear H
          have H := H1
          clear H1
          by_cases c26 : x12_2.length < 17592186044416
          ·rw [if_pos c26] at H
           have LMc26 := aM c26
           clear c26
           obtain ⟨y128, hy128⟩ : ∃ y_ : List Int, y_ = (x12_2 ++ [x13_2]) := ⟨_, rfl⟩
           replace H : (spec_l23Filter.l0 k2 l0 l1 a2 a3 true y128 (wrap64 (x13_2 + 1))) = some (r1, r2) := by first | (rw [hy128]; with_reducible exact H) | (have H2_ := bS H; rw [hy128]; with_reducible exact H2_) | (have H2_ := bS H; with_reducible exact H2_) | with_reducible exact H | (rw [hy128]; exact H) | exact H
           have Ny128 := aM hy128
           clear hy128
           have H' := aM H
           clear H
           go_wp2_with (first | ((with_reducible refine gate_callee (f := 126) rfl ?_); refine goesL_ (some 31) rfl rfl Try.func126 (by kernel_rfl) rfl #[.slice A0 l0.length c0, .int .i64 x13_2] rfl gQ ?_; (with_reducible refine (spec_l00Has.calls k2 _ _ l0 x13_2 false _ ?side1 ?side2 A14.out).mono ?_); (case side1 => exact cQ HR0.out); (case side2 => exact HC0.out); rintro e w' ⟨rfl, ⟨nd, rfl⟩⟩; refine ⟨_, rfl, ?_⟩) | ((with_reducible refine gate_callee (f := 126) rfl ?_); refine goesL_ (some 34) rfl rfl Try.func126 (by kernel_rfl) rfl #[.slice A1 l1.length c1, .int .i64 x13_2] rfl gQ ?_; (with_reducible refine (spec_l00Has.calls k2 _ _ l1 x13_2 true _ ?side1 ?side2 A15.out).mono ?_); (case side1 => exact cQ HR1.out); (case side2 => exact HC1.out); rintro e w' ⟨rfl, ⟨nd, rfl⟩⟩; refine ⟨_, rfl, ?_⟩) | ((with_reducible refine gate_builtin (b := .append) (xs := #[.tmp 62, .tmp 64]) rfl ?_); at_builtin; refine Kd.R_append (Kd.int .i64) (w0 := w) w.heap.size rfl (.tmp 62) (.tmp 64) 22 2 (.int .i64 0) 8 rfl Try.underlying22 info2 rfl (by decide) (by omega) u12 x12_2 x13_2 [.int .i64 x13_2] (fun _ => True) (fun _ => False) rfl rfl ?aP (fun _ hk => hk.elim) ?aF ?aO ?aB ?aS ?aL ?_; (case aP => exact rfl); (case aB => exact bQ); (case aF => exact (fun _ _ => trivial)); (case aO => exact (by (with_reducible repeat (first | apply rA | apply rN | apply rD)); exact HO_12.out)); (case aS => exact (below_size bQ)); (case aL => have := LMc26.out; omega); intro v129 w27 ho hb hg hat; rw [← Ny128.out] at ho; have n0_ := aM (hb); have n1_ := aM (ho); clear HB; clear HO_12; have HB := n0_; have HO130 := n1_; clear n0_ n1_; clear ho hb hg hat))
           go_roundg k2
           case measure => have := HJ5.out; have := HK2.out; omega
           case rel => exact ⟨(y128), (wrap64 (x13_2 + 1)), rQ, H', ⟨by have := HJ5.out; have := HK2.out; omega⟩, ⟨by (with_reducible repeat (first | apply rA | apply rN | apply rD)); exact HO130.out⟩, ⟨bQ⟩⟩
          ·rw [if_neg c26] at H
           exact absurd H (by simp)
         ·replace c25 := Bool.eq_false_iff.mpr c25
          subst c25
          have H1 : (spec_l23Filter.l0 k2 l0 l1 a2 a3 false x12_2 (wrap64 (x13_2 + 1))) = some (r1, r2) := by rw [if_neg (show ¬ (false = true) by decide)] at H; exact H
          clear H
          have H := H1
          clear H1
          have H' := aM H
          clear H
          go_wp2_with (first | ((with_reducible refine gate_callee (f := 126) rfl ?_); refine goesL_ (some 31) rfl rfl Try.func126 (by kernel_rfl) rfl #[.slice A0 l0.length c0, .int .i64 x13_2] rfl gQ ?_; (with_reducible refine (spec_l00Has.calls k2 _ _ l0 x13_2 false _ ?side1 ?side2 A14.out).mono ?_); (case side1 => exact cQ HR0.out); (case side2 => exact HC0.out); rintro e w' ⟨rfl, ⟨nd, rfl⟩⟩; refine ⟨_, rfl, ?_⟩) | ((with_reducible refine gate_callee (f := 126) rfl ?_); refine goesL_ (some 34) rfl rfl Try.func126 (by kernel_rfl) rfl #[.slice A1 l1.length c1, .int .i64 x13_2] rfl gQ ?_; (with_reducible refine (spec_l00Has.calls k2 _ _ l1 x13_2 true _ ?side1 ?side2 A15.out).mono ?_); (case side1 => exact cQ HR1.out); (case side2 => exact HC1.out); rintro e w' ⟨rfl, ⟨nd, rfl⟩⟩; refine ⟨_, rfl, ?_⟩))
          go_roundg k2
          case measure => have := HJ5.out; have := HK2.out; omega
          case rel => exact ⟨(x12_2), (wrap64 (x13_2 + 1)), rQ, H', ⟨by have := HJ5.out; have := HK2.out; omega⟩, ⟨by (with_reducible repeat (first | apply rA | apply rN | apply rD)); exact HO_12.out⟩, ⟨bQ⟩⟩
        ·replace c24 := Bool.eq_false_iff.mpr c24
         subst c24
         have H1 : (spec_l23Filter.l0 k2 l0 l1 a2 a3 a4 x12_2 (wrap64 (x13_2 + 1))) = some (r1, r2) := by rw [if_neg (show ¬ (false = true) by decide)] at H; exact H
         clear H
         have H := H1
         clear H1
         have H' := aM H
         clear H
         go_wp2_with (first | ((with_reducible refine gate_callee (f := 126) rfl ?_); refine goesL_ (some 31) rfl rfl Try.func126 (by kernel_rfl) rfl #[.slice A0 l0.length c0, .int .i64 x13_2] rfl gQ ?_; (with_reducible refine (spec_l00Has.calls k2 _ _ l0 x13_2 false _ ?side1 ?side2 A14.out).mono ?_); (case side1 => exact cQ HR0.out); (case side2 => exact HC0.out); rintro e w' ⟨rfl, ⟨nd, rfl⟩⟩; refine ⟨_, rfl, ?_⟩) | ((with_reducible refine gate_callee (f := 126) rfl ?_); refine goesL_ (some 34) rfl rfl Try.func126 (by kernel_rfl) rfl #[.slice A1 l1.length c1, .int .i64 x13_2] rfl gQ ?_; (with_reducible refine (spec_l00Has.calls k2 _ _ l1 x13_2 false _ ?side1 ?side2 A15.out).mono ?_); (case side1 => exact cQ HR1.out); (case side2 => exact HC1.out); rintro e w' ⟨rfl, ⟨nd, rfl⟩⟩; refine ⟨_, rfl, ?_⟩))
         go_roundg k2
         case measure => have := HJ5.out; have := HK2.out; omega
         case rel => exact ⟨(x12_2), (wrap64 (x13_2 + 1)), rQ, H', ⟨by have := HJ5.out; have := HK2.out; omega⟩, ⟨by (with_reducible repeat (first | apply rA | apply rN | apply rD)); exact HO_12.out⟩, ⟨bQ⟩⟩
      ·rw [if_neg c13] at H
       have c13b0 : decide (x13_2 < 40) = false := decide_eq_false c13
       clear c13
       simp only [Option.some.injEq, Prod.mk.injEq] at H
       obtain ⟨rfl, rfl⟩ := H
       go_wp2
       go_ret2
       exact ⟨_, eQ, by (with_reducible repeat (first | apply rA | apply rN | apply rD)); exact HO_12.out, bQ⟩

/-! ### spec_UnionClass: function 20 -/
def spec_UnionClass.f (k : Nat) (l0 : List Int) (l1 : List Int) : Option (List Int × Int) := (spec_l23Filter.f k l0 l1 true true true).bind fun bt131 => (some (bt131.1, bt131.2))
theorem spec_UnionClass.mono : ∀ a0 a1 k, LeO (spec_UnionClass.f k a0 a1) (spec_UnionClass.f (k + 1) a0 a1) := by
 intro a0 a1 k
 unfold spec_UnionClass.f
 repeat' first
   | (with_reducible exact spec_l23Filter.mono _ _ _ _ _ _)
   | (with_reducible exact LeO.refl _)
   | (with_reducible exact LeO.none _)
   | (with_reducible refine LeO.ite ?_ ?_)
   | (with_reducible refine LeO.bind ?_ (fun _ => ?_))
   | exact spec_l23Filter.mono _ _ _ _ _ _
   | exact LeO.none _
   | refine LeO.ite ?_ ?_
   | refine LeO.bind ?_ (fun _ => ?_)
set_option maxHeartbeats 8000000 in
set_option maxRecDepth 100000 in
theorem spec_UnionClass.calls (k : Nat) (A0 : Option Addr) (c0 : Nat) (l0 : List Int) (A1 : Option Addr) (c1 : Nat) (l1 : List Int) (r1 : List Int) (r2 : Int) (w : World) (hr0 : Kd.C (Kd.int .i64) w A0 l0.length l0) (hc0 : l0.length ≤ c0) (hr1 : Kd.C (Kd.int .i64) w A1 l1.length l1) (hc1 : l1.length ≤ c1) (h : spec_UnionClass.f k l0 l1 = some (r1, r2)) :
  Calls Try.prog 20 #[.slice A0 l0.length c0, .slice A1 l1.length c1] w fun e w' => ∃ v0_ : Value, e = .returned (.tuple #[v0_, .int .i64 r2]) ∧ Kd.R (Kd.int .i64) 2 w' w.heap.size (fun _ => True) v0_ r1 ∧ Below w.heap.size w w' := by
 have HR0 := aM hr0
 have HC0 := aM hc0
 clear hr0 hc0
 have HR1 := aM hr1
 have HC1 := aM hc1
 clear hr1 hc1
 have HB := aM (Below.refl w.heap.size w)
 have H : ((spec_l23Filter.f k l0 l1 true true true).bind fun bt131 => (some (bt131.1, bt131.2))) = some (r1, r2) := h
 clear h
 replace H := Option.bind_eq_some_iff.mp H
 obtain ⟨⟨t131, t132⟩, A30, H⟩ := H
 replace H : (some (t131, t132)) = some (r1, r2) := H
 have A3 := aM A30
 clear A30
 simp only [Option.some.injEq, Prod.mk.injEq] at H
 obtain ⟨rfl, rfl⟩ := H
 go_enter Try.func20, Try.ntmps20
 go_wp2_with (first | ((with_reducible refine gate_callee (f := 61) rfl ?_); refine goesL_ (some 8) rfl rfl Try.func61 (by kernel_rfl) rfl #[.slice A0 l0.length c0, .slice A1 l1.length c1, .bool true, .bool true, .bool true] rfl gQ ?_; (with_reducible refine (spec_l23Filter.calls k _ _ l0 _ _ l1 true true true t131 t132 _ ?side1 ?side2 ?side3 ?side4 A3.out).mono ?_); (case side1 => repeat (first | exact HR0.out | (with_reducible first | refine cA ?_ _ | refine cN ?_ _ | refine cD ?_))); (case side2 => exact HC0.out); (case side3 => repeat (first | exact HR1.out | (with_reducible first | refine cA ?_ _ | refine cN ?_ _ | refine cD ?_))); (case side4 => exact HC1.out); rintro e w4 ⟨v133, rfl, ho0, hb⟩; refine ⟨_, rfl, ?_⟩; have n0_ := aM (Kd.R_lower ho0 (below_size bQ)); have n1_ := aM (below_step bQ hb); clear HB; have HO134 := n0_; have HB := n1_; clear n0_ n1_; (try clear hb); (try clear hb2); (try clear hk); (try clear hi); (try clear ho0)))
 go_ret2
 exact ⟨_, eQ, by (with_reducible repeat (first | apply rA | apply rN | apply rD)); exact HO134.out, bQ⟩

/-! ### impl_isGlyphNumber: function 119 -/
def impl_isGlyphNumber.f (a0 : Int) : Option (Bool) := if a0 ≥ 0 then (some (decide (a0 < 40))) else (some false)
set_option maxHeartbeats 8000000 in
set_option maxRecDepth 100000 in
theorem impl_isGlyphNumber.calls (a0 : Int) (r : Bool) (w : World) (h : impl_isGlyphNumber.f a0 = some r) :
  Calls Try.prog 119 #[.int .i64 a0] w fun e w' => e = .returned (.bool r) ∧ Drawn0 w w' := by
 have H : (if a0 ≥ 0 then (some (decide (a0 < 40))) else (some false)) = some r := h
 clear h
 by_cases c2 : a0 ≥ 0
 ·rw [if_pos c2] at H
  have c2b0 : decide (0 ≤ a0) = true := decide_eq_true c2
  clear c2
  obtain rfl := Option.some.inj H
  go_enter Try.func119, Try.ntmps119
  go_wp2
  go_ret
  exact ⟨rQ, by repeat (first | exact Drawn0.refl _ | apply Drawn0.step)⟩
 ·rw [if_neg c2] at H
  have c2b0 : decide (0 ≤ a0) = false := decide_eq_false c2
  clear c2
  obtain rfl := Option.some.inj H
  go_enter Try.func119, Try.ntmps119
  go_wp2
  go_ret
  exact ⟨rQ, by repeat (first | exact Drawn0.refl _ | apply Drawn0.step)⟩

/-! ### impl_ValidClass: function 52 -/
def impl_ValidClass.l0 : Nat → List Int → List Int → Int → Int → Option (Bool)
 | 0, _, _, _, _ => none
 | k + 1, x0, x5, x6, x7 => if x7 < x6 then (if 0 ≤ x7 then (if x7 < (x5.length : Int) then ((impl_isGlyphNumber.f (rd x5 x7)).bind fun t136 => (if t136 = true then (if x7 > 0 then (if 0 ≤ (wrap64 (x7 - 1)) then (if (wrap64 (x7 - 1)) < (x0.length : Int) then (if (rd x0 (wrap64 (x7 - 1))) ≥ (rd x5 x7) then (some false) else (impl_ValidClass.l0 k x0 x5 x6 (wrap64 (x7 + 1)))) else (none)) else (none)) else (impl_ValidClass.l0 k x0 x5 x6 (wrap64 (x7 + 1)))) else (some false))) else (none)) else (none)) else (some true)
def impl_ValidClass.f (k : Nat) (l0 : List Int) : Option (Bool) := impl_ValidClass.l0 k l0 l0 (l0.length : Int) 0
theorem impl_ValidClass.mono_l : ∀ k, (∀ y0 y1 y2 y3, LeO (impl_ValidClass.l0 k y0 y1 y2 y3) (impl_ValidClass.l0 (k + 1) y0 y1 y2 y3))
 | 0 => fun _ _ _ _ r h => by simp [impl_ValidClass.l0] at h
 | k + 1 => by
  have ih0 := impl_ValidClass.mono_l k
  ·intro y0 y1 y2 y3
   unfold impl_ValidClass.l0
   repeat' first
   | (with_reducible exact ih0 _ _ _ _)
   | (with_reducible exact LeO.refl _)
   | (with_reducible exact LeO.none _)
   | (with_reducible refine LeO.ite ?_ ?_)
   | (with_reducible refine LeO.bind ?_ (fun _ => ?_))
   | exact ih0 _ _ _ _
   | exact LeO.none _
   | refine LeO.ite ?_ ?_
   | refine LeO.bind ?_ (fun _ => ?_)
theorem impl_ValidClass.mono : ∀ a0 k, LeO (impl_ValidClass.f k a0) (impl_ValidClass.f (k + 1) a0) := by
 intro a0 k
 have ih0 := impl_ValidClass.mono_l k
 unfold impl_ValidClass.f
 repeat' first
   | (with_reducible exact ih0 _ _ _ _)
   | (with_reducible exact LeO.refl _)
   | (with_reducible exact LeO.none _)
   | (with_reducible refine LeO.ite ?_ ?_)
   | (with_reducible refine LeO.bind ?_ (fun _ => ?_))
   | exact ih0 _ _ _ _
   | exact LeO.none _
   | refine LeO.ite ?_ ?_
   | refine LeO.bind ?_ (fun _ => ?_)
set_option maxHeartbeats 8000000 in
set_option maxRecDepth 100000 in
theorem impl_ValidClass.calls (k : Nat) (A0 : Option Addr) (c0 : Nat) (l0 : List Int) (r : Bool) (w : World) (hr0 : Kd.C (Kd.int .i64) w A0 l0.length l0) (hc0 : l0.length ≤ c0) (h : impl_ValidClass.f k l0 = some r) :
  Calls Try.prog 52 #[.slice A0 l0.length c0] w fun e w' => e = .returned (.bool r) ∧ Drawn0 w w' := by
 have HR0 := aM hr0
 have HC0 := aM hc0
 clear hr0 hc0
 have H : (impl_ValidClass.l0 k l0 l0 (l0.length : Int) 0) = some r := h
 clear h
 have H' := aM H
 clear H
 go_enter Try.func52, Try.ntmps52
 go_wp2
 go_loopg [7] k (fun kq v7 w' => ∃ (x7_1 : Int), v7 = .int .i64 x7_1 ∧ Aside0 (impl_ValidClass.l0 kq l0 l0 (l0.length : Int) x7_1 = some r) ∧ Aside0 (kq ≤ k) ∧ Drawn0 w w')
 case atStart => exact ⟨(0), rQ, H', ⟨Nat.le_refl _⟩, by repeat (first | exact Drawn0.refl _ | apply Drawn0.step)⟩
 case round =>
  clear H'
  obtain ⟨x7_1, rfl, HA, HK1, ⟨m1, rfl⟩⟩ := hrel
  cases gk with
  | zero => exact absurd HA.out (by simp [impl_ValidClass.l0])
  | succ k1 =>
   have H := HA.out
   clear HA
   simp only [impl_ValidClass.l0] at H
   by_cases c2 : x7_1 < (l0.length : Int)
   ·rw [if_pos c2] at H
    have c2b0 : decide (x7_1 < (l0.length : Int)) = true := decide_eq_true c2
    clear c2
    by_cases c3 : 0 ≤ x7_1
    ·rw [if_pos c3] at H
     have c3b0 : decide (0 ≤ x7_1) = true := decide_eq_true c3
     clear c3
     by_cases c4 : x7_1 < (l0.length : Int)
     ·rw [if_pos c4] at H
      have c4b0 : decide (x7_1 < (l0.length : Int)) = true := decide_eq_true c4
      clear c4
      replace H := Option.bind_eq_some_iff.mp H
      obtain ⟨t136, A50, H⟩ := H
      replace H : (if t136 = true then (if x7_1 > 0 then (if 0 ≤ (wrap64 (x7_1 - 1)) then (if (wrap64 (x7_1 - 1)) < (l0.length : Int) then (if (rd l0 (wrap64 (x7_1 - 1))) ≥ (rd l0 x7_1) then (some false) else (impl_ValidClass.l0 k1 l0 l0 (l0.length : Int) (wrap64 (x7_1 + 1)))) else (none)) else (none)) else (impl_ValidClass.l0 k1 l0 l0 (l0.length : Int) (wrap64 (x7_1 + 1)))) else (some false)) = some r := H
      have A5 := aM A50
      clear A50
      by_cases c6 : t136 = true
      ·subst c6
       have H1 : (if x7_1 > 0 then (if 0 ≤ (wrap64 (x7_1 - 1)) then (if (wrap64 (x7_1 - 1)) < (l0.length : Int) then (if (rd l0 (wrap64 (x7_1 - 1))) ≥ (rd l0 x7_1) then (some false) else (impl_ValidClass.l0 k1 l0 l0 (l0.length : Int) (wrap64 (x7_1 + 1)))) else (none)) else (none)) else (impl_ValidClass.l0 k1 l0 l0 (l0.length : Int) (wrap64 (x7_1 + 1)))) = some r := by rw [if_pos rfl] at H; exact H
       clear H
       have H := H1
       clear H1
       by_cases c7 : x7_1 > 0
       ·rw [if_pos c7] at H
        have c7b0 : decide (0 < x7_1) = true := decide_eq_true c7
        clear c7
        obtain ⟨ji8, hji8⟩ : ∃ j_ : Int, (wrap64 (x7_1 - 1)) = j_ := ⟨_, rfl⟩
        replace H : (if 0 ≤ (ji8) then (if (ji8) < (l0.length : Int) then (if (rd l0 (ji8)) ≥ (rd l0 x7_1) then (some false) else (impl_ValidClass.l0 k1 l0 l0 (l0.length : Int) (wrap64 (x7_1 + 1)))) else (none)) else (none)) = some r := by first | (rw [hji8] at H; exact H) | (simp only [hji8] at H ⊢; exact H)
        (try rw [hji8] at A5)
        have hji8w : (IntKind.i64.wrap (x7_1 - 1)) = ji8 := (i64_w _).trans hji8
        by_cases c9 : 0 ≤ (ji8)
        ·rw [if_pos c9] at H
         have c9b0 : decide (0 ≤ (ji8)) = true := decide_eq_true c9
         clear c9
         by_cases c10 : (ji8) < (l0.length : Int)
         ·rw [if_pos c10] at H
          have c10b0 : decide ((ji8) < (l0.length : Int)) = true := decide_eq_true c10
          clear c10
          by_cases c11 : (rd l0 (ji8)) ≥ (rd l0 x7_1)
          ·rw [if_pos c11] at H
           have c11b0 : decide ((rd l0 x7_1) ≤ (rd l0 (ji8))) = true := decide_eq_true c11
           clear c11
           obtain rfl := Option.some.inj H
           have p135 : 0 ≤ (x7_1 : Int) := dA
           have q135 : x7_1 < (l0.length : Int) := dA
           obtain ⟨ad135, e135, hx135_0⟩ := Kd.at_int HR0.out x7_1 p135 q135
           cases e135
           replace p135 := eq_true p135
           replace q135 := eq_true q135
           go_wp2_with (first | ((with_reducible refine gate_callee (f := 119) rfl ?_); refine goesL_ (some 13) rfl rfl Try.func119 (by kernel_rfl) rfl #[.int .i64 (rd l0 x7_1)] rfl gQ ?_; (with_reducible refine (impl_isGlyphNumber.calls (rd l0 x7_1) true _ A5.out).mono ?_); rintro e w' ⟨rfl, ⟨nd, rfl⟩⟩; refine ⟨_, rfl, ?_⟩; have p137 : 0 ≤ ((ji8) : Int) := dA; have q137 : (ji8) < (l0.length : Int) := dA; obtain ⟨ad137, e137, hx137_0⟩ := Kd.at_int HR0.out (ji8) p137 q137; obtain rfl : ad135 = ad137 := (by injection e137); replace p137 := eq_true p137; replace q137 := eq_true q137))
           go_ret
           exact ⟨by first | rfl | (simp; done) | (simp only [← hji8] <;> (first | rfl | simp)) | (simp [*]; done), by repeat (first | exact Drawn0.refl _ | apply Drawn0.step)⟩
          ·rw [if_neg c11] at H
           have c11b0 : decide ((rd l0 x7_1) ≤ (rd l0 (ji8))) = false := decide_eq_false c11
           clear c11
           have H' := aM H
           clear H
           have p135 : 0 ≤ (x7_1 : Int) := dA
           have q135 : x7_1 < (l0.length : Int) := dA
           obtain ⟨ad135, e135, hx135_0⟩ := Kd.at_int HR0.out x7_1 p135 q135
           cases e135
           replace p135 := eq_true p135
           replace q135 := eq_true q135
           go_wp2_with (first | ((with_reducible refine gate_callee (f := 119) rfl ?_); refine goesL_ (some 13) rfl rfl Try.func119 (by kernel_rfl) rfl #[.int .i64 (rd l0 x7_1)] rfl gQ ?_; (with_reducible refine (impl_isGlyphNumber.calls (rd l0 x7_1) true _ A5.out).mono ?_); rintro e w' ⟨rfl, ⟨nd, rfl⟩⟩; refine ⟨_, rfl, ?_⟩; have p137 : 0 ≤ ((ji8) : Int) := dA; have q137 : (ji8) < (l0.length : Int) := dA; obtain ⟨ad137, e137, hx137_0⟩ := Kd.at_int HR0.out (ji8) p137 q137; obtain rfl : ad135 = ad137 := (by injection e137); replace p137 := eq_true p137; replace q137 := eq_true q137))
           go_roundg k1
           case measure => have := HK1.out; omega
           case rel => exact ⟨(wrap64 (x7_1 + 1)), rQ, H', ⟨by have := HK1.out; omega⟩, by repeat (first | exact Drawn0.refl _ | apply Drawn0.step)⟩
         ·rw [if_neg c10] at H
          exact absurd H (by simp)
        ·rw [if_neg c9] at H
         exact absurd H (by simp)
       ·rw [if_neg c7] at H
        have c7b0 : decide (0 < x7_1) = false := decide_eq_false c7
        clear c7
        have H' := aM H
        clear H
        have p135 : 0 ≤ (x7_1 : Int) := dA
        have q135 : x7_1 < (l0.length : Int) := dA
        obtain ⟨ad135, e135, hx135_0⟩ := Kd.at_int HR0.out x7_1 p135 q135
        cases e135
        replace p135 := eq_true p135
        replace q135 := eq_true q135
        go_wp2_with (first | ((with_reducible refine gate_callee (f := 119) rfl ?_); refine goesL_ (some 13) rfl rfl Try.func119 (by kernel_rfl) rfl #[.int .i64 (rd l0 x7_1)] rfl gQ ?_; (with_reducible refine (impl_isGlyphNumber.calls (rd l0 x7_1) true _ A5.out).mono ?_); rintro e w' ⟨rfl, ⟨nd, rfl⟩⟩; refine ⟨_, rfl, ?_⟩))
        go_roundg k1
        case measure => have := HK1.out; omega
        case rel => exact ⟨(wrap64 (x7_1 + 1)), rQ, H', ⟨by have := HK1.out; omega⟩, by repeat (first | exact Drawn0.refl _ | apply Drawn0.step)⟩
      ·replace c6 := Bool.eq_false_iff.mpr c6
       subst c6
       have H1 : (some false) = some r := by rw [if_neg (show ¬ (false = true) by decide)] at H; exact H
       clear H
       have H := H1
       clear H1
       obtain rfl := Option.some.inj H
       have p135 : 0 ≤ (x7_1 : Int) := dA
       have q135 : x7_1 < (l0.length : Int) := dA
       obtain ⟨ad135, e135, hx135_0⟩ := Kd.at_int HR0.out x7_1 p135 q135
       cases e135
       replace p135 := eq_true p135
       replace q135 := eq_true q135
       go_wp2_with (first | ((with_reducible refine gate_callee (f := 119) rfl ?_); refine goesL_ (some 13) rfl rfl Try.func119 (by kernel_rfl) rfl #[.int .i64 (rd l0 x7_1)] rfl gQ ?_; (with_reducible refine (impl_isGlyphNumber.calls (rd l0 x7_1) false _ A5.out).mono ?_); rintro e w' ⟨rfl, ⟨nd, rfl⟩⟩; refine ⟨_, rfl, ?_⟩))
       go_ret
       exact ⟨rQ, by repeat (first | exact Drawn0.refl _ | apply Drawn0.step)⟩
     ·rw [if_neg c4] at H
      exact absurd H (by simp)
    ·rw [if_neg c3] at H
     exact absurd H (by simp)
   ·rw [if_neg c2] at H
    have c2b0 : decide (x7_1 < (l0.length : Int)) = false := decide_eq_false c2
    clear c2
    obtain rfl := Option.some.inj H
    go_wp2
    go_ret
    exact ⟨rQ, by repeat (first | exact Drawn0.refl _ | apply Drawn0.step)⟩

/-! ### slices_Clone_int64_int64: function 127 -/
def slices_Clone_int64_int64.f (l0 : List Int) : Option (List Int) := (some (([] : List Int) : List Int)).bind fun y138 => (if y138.length + l0.length < 17592186044416 then (some (y138 ++ l0)) else (none))
set_option maxHeartbeats 8000000 in
set_option maxRecDepth 100000 in
theorem slices_Clone_int64_int64.calls (A0 : Option Addr) (c0 : Nat) (l0 : List Int) (r : List Int) (w : World) (hr0 : Kd.C (Kd.int .i64) w A0 l0.length l0) (hc0 : l0.length ≤ c0) (h : slices_Clone_int64_int64.f l0 = some r) :
  Calls Try.prog 127 #[.slice A0 l0.length c0] w fun e w' => ∃ v0_ : Value, e = .returned (v0_) ∧ Kd.R (Kd.int .i64) 2 w' w.heap.size (fun _ => True) v0_ r ∧ Below w.heap.size w w' := by
 have HR0 := aM hr0
 have HC0 := aM hc0
 clear hr0 hc0
 have HB := aM (Below.refl w.heap.size w)
 have H : ((some (([] : List Int) : List Int)).bind fun y138 => (if y138.length + l0.length < 17592186044416 then (some (y138 ++ l0)) else (none))) = some r := h
 clear h
 have n2E := nilE 22 Try.underlying22
 have n2N := nilN 22 Try.underlying22
 rcases A0 with _ | an2_
 ·obtain rfl : l0 = [] := nilC HR0.out
  have H1 : (some ([] : List Int)) = some r := by simpa using H
  clear H
  have H := H1
  clear H1
  obtain rfl := Option.some.inj H
  go_enter Try.func127, Try.ntmps127
  go_wp2
  go_ret
  exact ⟨_, eQ, by first | exact Kd.R_nil _ _ _ _ _ | exact Kd.N_nil _ _ _ _ _ | exact Kd.V_nil _ _ _ _ _ | exact Kd.Q_nil _ _ _ _ _ | exact Kd.S_nil _ _ _ _ _, bQ⟩
 ·skip
  obtain ⟨y138, hy138⟩ : ∃ y_ : List Int, y_ = (([] : List Int)) := ⟨_, rfl⟩
  replace H : (if y138.length + l0.length < 17592186044416 then (some (y138 ++ l0)) else (none)) = some r := by first | (rw [hy138]; with_reducible exact H) | (have H2_ := bS H; rw [hy138]; with_reducible exact H2_) | (have H2_ := bS H; with_reducible exact H2_) | with_reducible exact H | (rw [hy138]; exact H) | exact H
  have Ny138 := aM hy138
  clear hy138
  by_cases c3 : y138.length + l0.length < 17592186044416
  ·rw [if_pos c3] at H
   have LMc3 := aM c3
   clear c3
   obtain ⟨y141, hy141⟩ : ∃ y_ : List Int, y_ = (y138 ++ l0) := ⟨_, rfl⟩
   replace H : (some y141) = some r := by first | (rw [hy141]; with_reducible exact H) | (have H2_ := bS H; rw [hy141]; with_reducible exact H2_) | (have H2_ := bS H; with_reducible exact H2_) | with_reducible exact H | (rw [hy141]; exact H) | exact H
   have Ny141 := aM hy141
   clear hy141
   obtain rfl := Option.some.inj H
   go_enter Try.func127, Try.ntmps127
   go_wp2_with (first | ((with_reducible refine gate_dst (N := 5) rfl ?_); refine Kd.R_lit (Kd.int .i64) _ 2 ?hg (N := 5) ?hd (xs := ([] : List Int)) (inner := []) (ok := fun _ => True) (okp := fun _ => True) ?hr ?hp (fun _ hk => hk) trivial (Below.refl _ _) (Nat.le_refl _) (by simp) ?_; (case hd => rfl); (case hg => rfl); (case hr => first | (go_simp; done) | (go_simp; rfl)); (case hp => exact (Reps.none _ _)); intro v139 w4 ho5 hb hg_ hnew_; clear hg_ hnew_; (first | rw [← Ny138.out] at ho5 | (simp only [Int.reduceToNat] at ho5; rw [← Ny138.out] at ho5)); have n0_ := aM (Kd.R_lower ho5 (below_size bQ)); have n1_ := aM (below_step bQ hb); clear HB; have HO140 := n0_; have HB := n1_; clear n0_ n1_; clear hb ho5) | ((with_reducible refine gate_builtin (b := .append) (xs := #[.tmp 5, .tmp 6]) rfl ?_); at_builtin; refine Kd.R_append_rows (Kd.int .i64) (w0 := w) w.heap.size rfl (.tmp 5) (.tmp 6) 22 2 (.int .i64 0) 8 rfl Try.underlying22 info2 rfl (by decide) (by omega) v139 y138 l0 _ _ _ (fun _ => True) (fun _ => False) rfl rfl ?aO ?aR (fun _ _ h => h) (fun _ h => h.elim) ?aF ?aB ?aS ?aL ?_; (case aR => repeat (first | exact (Kd.C_below HR0.out HB.out) | (with_reducible first | refine cA ?_ _ | refine cN ?_ _ | refine cD ?_))); (case aB => exact bQ); (case aF => exact (fun _ _ => trivial)); (case aO => exact (by (with_reducible repeat (first | apply rA | apply rN | apply rD)); exact HO140.out)); (case aS => exact (below_size bQ)); (case aL => have := LMc3.out; omega); intro v142 w6 ho hb hg hat; rw [← Ny141.out] at ho; have n0_ := aM (hb); have n1_ := aM (ho); clear HB; clear HO140; have HB := n0_; have HO143 := n1_; clear n0_ n1_; clear ho hb hg hat))
   go_ret
   exact ⟨_, eQ, by (with_reducible repeat (first | apply rA | apply rN | apply rD)); exact HO143.out, bQ⟩
  ·rw [if_neg c3] at H
   exact absurd H (by simp)

/-! ### slices_Sort_int64_int64: function 128, given -/
def slices_Sort_int64_int64.f (l0 : List Int) : Option (List Int) := Go.Proofs.Ytdahcapolipnbaa.Gv.sortF l0
theorem slices_Sort_int64_int64.calls (P0_ : Nat → Prop) (u9000_ : Value) (l0 : List Int) (r : List Int) (w0 w : World) (hB : Below w0.heap.size w0 w) (ho0 : Kd.R (Kd.int .i64) 2 w w0.heap.size P0_ u9000_ l0) (h : slices_Sort_int64_int64.f l0 = some r) :
  Calls Try.prog 128 #[u9000_] w fun e w' => e = .returned (.tuple #[]) ∧ Kd.R (Kd.int .i64) 2 w' w0.heap.size (fun k_ => (P0_ k_ ∨ w.heap.size ≤ k_)) u9000_ r ∧ Below w0.heap.size w0 w' ∧ Kept w w' (fun k_ => P0_ k_) := Go.Proofs.Ytdahcapolipnbaa.Gv.sortF_calls P0_ u9000_ l0 r w0 w hB ho0 h

/-! ### slices_Compact_int64_int64: function 129, given -/
def slices_Compact_int64_int64.f (l0 : List Int) : Option (List Int) := Go.Proofs.Ytdahcapolipnbaa.Gv.compF l0
theorem slices_Compact_int64_int64.calls (P0_ : Nat → Prop) (u9000_ : Value) (l0 : List Int) (r : List Int) (w0 w : World) (hB : Below w0.heap.size w0 w) (ho0 : Kd.R (Kd.int .i64) 2 w w0.heap.size P0_ u9000_ l0) (h : slices_Compact_int64_int64.f l0 = some r) :
  Calls Try.prog 129 #[u9000_] w fun e w' => ∃ v0_ : Value, e = .returned (v0_) ∧ Kd.R (Kd.int .i64) 2 w' w0.heap.size (fun k_ => (P0_ k_ ∨ w.heap.size ≤ k_)) v0_ r ∧ Below w0.heap.size w0 w' ∧ Kept w w' (fun k_ => P0_ k_) := Go.Proofs.Ytdahcapolipnbaa.Gv.compF_calls P0_ u9000_ l0 r w0 w hB ho0 h

/-! ### impl_classOf: function 62 -/
def impl_classOf.f (l0 : List Int) : Option (List Int) := (slices_Clone_int64_int64.f l0).bind fun t263 => ((slices_Sort_int64_int64.f t263).bind fun t266 => ((slices_Compact_int64_int64.f t266).bind fun t267 => (some t267)))
set_option maxHeartbeats 8000000 in
set_option maxRecDepth 100000 in
theorem impl_classOf.calls (A0 : Option Addr) (c0 : Nat) (l0 : List Int) (r : List Int) (w : World) (hr0 : Kd.C (Kd.int .i64) w A0 l0.length l0) (hc0 : l0.length ≤ c0) (h : impl_classOf.f l0 = some r) :
  Calls Try.prog 62 #[.slice A0 l0.length c0] w fun e w' => ∃ v0_ : Value, e = .returned (v0_) ∧ Kd.R (Kd.int .i64) 2 w' w.heap.size (fun _ => True) v0_ r ∧ Below w.heap.size w w' := by
 have HR0 := aM hr0
 have HC0 := aM hc0
 clear hr0 hc0
 have HB := aM (Below.refl w.heap.size w)
 have H : ((slices_Clone_int64_int64.f l0).bind fun t263 => ((slices_Sort_int64_int64.f t263).bind fun t266 => ((slices_Compact_int64_int64.f t266).bind fun t267 => (some t267)))) = some r := h
 clear h
 replace H := Option.bind_eq_some_iff.mp H
 obtain ⟨t263, A20, H⟩ := H
 replace H : ((slices_Sort_int64_int64.f t263).bind fun t266 => ((slices_Compact_int64_int64.f t266).bind fun t267 => (some t267))) = some r := H
 have A2 := aM A20
 clear A20
 replace H := Option.bind_eq_some_iff.mp H
 obtain ⟨t266, A30, H⟩ := H
 replace H : ((slices_Compact_int64_int64.f t266).bind fun t267 => (some t267)) = some r := H
 have A3 := aM A30
 clear A30
 replace H := Option.bind_eq_some_iff.mp H
 obtain ⟨t267, A40, H⟩ := H
 replace H : (some t267) = some r := H
 have A4 := aM A40
 clear A40
 obtain rfl := Option.some.inj H
 go_enter Try.func62, Try.ntmps62
 go_wp2_with (first | ((with_reducible refine gate_callee (f := 127) rfl ?_); refine goesL_ (some 5) rfl rfl Try.func127 (by kernel_rfl) rfl #[.slice A0 l0.length c0] rfl gQ ?_; (with_reducible refine (slices_Clone_int64_int64.calls _ _ l0 t263 _ ?side1 ?side2 A2.out).mono ?_); (case side1 => repeat (first | exact HR0.out | (with_reducible first | refine cA ?_ _ | refine cN ?_ _ | refine cD ?_))); (case side2 => exact HC0.out); rintro e w5 ⟨v264, rfl, ho0, hb⟩; refine ⟨_, rfl, ?_⟩; have n0_ := aM (Kd.R_lower ho0 (below_size bQ)); have n1_ := aM (below_step bQ hb); clear HB; have HO265 := n0_; have HB := n1_; clear n0_ n1_; (try clear hb); (try clear hb2); (try clear hk); (try clear hi); (try clear ho0); obtain ⟨Ao6, co6, eo6⟩ := Kd.R_slice HO265.out; subst eo6) | ((with_reducible refine gate_callee (f := 128) rfl ?_); refine goesL_ (some 7) rfl rfl Try.func128 (by kernel_rfl) rfl #[.slice Ao6 t263.length co6] rfl gQ ?_; (with_reducible refine (slices_Sort_int64_int64.calls (fun k_ => some k_ = (.slice Ao6 t263.length co6 : Value).ownBlock) (.slice Ao6 t263.length co6) t263 t266 w _ ?side1 ?side2 A3.out).mono ?_); (case side1 => repeat (first | (with_reducible first | exact HB.out | apply bA | apply bN | apply bD) | exact HB.out)); (case side2 => exact Kd.R_tight rfl HO265.out); rintro e w7 ⟨rfl, hy0, hb, hkp⟩; refine ⟨_, rfl, ?_⟩; have n0_ := aM (Kd.R_reok rfl hy0 (fun k_ e_ => HO265.out.1 k_ e_)); have n1_ := aM (hb); clear HO265; clear HB; have HO265 := n0_; have HB := n1_; clear n0_ n1_; (try clear hb); (try clear hkp); (try clear hy0)) | ((with_reducible refine gate_callee (f := 129) rfl ?_); refine goesL_ (some 9) rfl rfl Try.func129 (by kernel_rfl) rfl #[.slice Ao6 t263.length co6] rfl gQ ?_; (with_reducible refine (slices_Compact_int64_int64.calls (fun k_ => some k_ = (.slice Ao6 t263.length co6 : Value).ownBlock) (.slice Ao6 t263.length co6) t266 t267 w _ ?side1 ?side2 A4.out).mono ?_); (case side1 => repeat (first | (with_reducible first | exact HB.out | apply bA | apply bN | apply bD) | exact HB.out)); (case side2 => exact Kd.R_tight rfl HO265.out); rintro e w8 ⟨v268, rfl, ho0, hb, hkp⟩; refine ⟨_, rfl, ?_⟩; have n0_ := aM (Kd.R_mono (ok' := fun k_ => True) ho0 (fun k_ hk_ => trivial)); have n1_ := aM (hb); clear HB; clear HO265; have HO269 := n0_; have HB := n1_; clear n0_ n1_; (try clear hb); (try clear hkp); (try clear ho0)))
 go_ret
 exact ⟨_, eQ, by (with_reducible repeat (first | apply rA | apply rN | apply rD)); exact HO269.out, bQ⟩

/-! ### slices_Grow_int64_int64: function 130, given -/
def slices_Grow_int64_int64.f (a1 : Int) : Option (List Int) := if 0 ≤ a1 ∧ a1.toNat * 8 ≤ 140737488355328 then some [] else none
theorem slices_Grow_int64_int64.calls (a1 : Int) (r : List Int) (w : World) (h : slices_Grow_int64_int64.f a1 = some r) :
  Calls Try.prog 130 #[.slice none 0 0, .int .i64 a1] w fun e w' => ∃ v0_ : Value, e = .returned (v0_) ∧ Kd.R (Kd.int .i64) 2 w' w.heap.size (fun _ => True) v0_ r ∧ Below w.heap.size w w' := by
 unfold slices_Grow_int64_int64.f at h
 split at h
 · rename_i hb
   obtain rfl := Option.some.inj h
   exact Go.Proofs.Ytdahcapolipnbaa.Gv.grow_nil Try.lays8n4_130 (Kd.int .i64) (show (Try.prog.info? 2).map (fun i => (i.zero, i.size, i.bytes)) = some (some (.int .i64 0), 1, 8) from by kernel_rfl) (by rfl) (by decide) (by decide) a1 hb.1 hb.2 w
 · cases h

/-! ### slices_Concat_int64_int64: function 63 -/
mutual
def slices_Concat_int64_int64.l0 : Nat → List (List Int) → Int → List (List Int) → Int → Int → Option (List Int)
 | 0, _, _, _, _, _ => none
 | k + 1, x0, x3, x9, x10, x11 => if x11 < x10 then (if 0 ≤ x11 then (if x11 < (x9.length : Int) then (if (wrap64 (x3 + ((rd_L1 x9 x11).length : Int))) < 0 then (none) else (slices_Concat_int64_int64.l0 k x0 (wrap64 (x3 + ((rd_L1 x9 x11).length : Int))) x9 x10 (wrap64 (x11 + 1)))) else (none)) else (none)) else ((slices_Grow_int64_int64.f x3).bind fun t271 => (slices_Concat_int64_int64.l1 k t271 x0 (x0.length : Int) 0))
def slices_Concat_int64_int64.l1 : Nat → List Int → List (List Int) → Int → Int → Option (List Int)
 | 0, _, _, _, _ => none
 | k + 1, x6, x25, x26, x27 => if x27 < x26 then (if 0 ≤ x27 then (if x27 < (x25.length : Int) then (if x6.length + (rd_L1 x25 x27).length < 17592186044416 then (slices_Concat_int64_int64.l1 k (x6 ++ (rd_L1 x25 x27)) x25 x26 (wrap64 (x27 + 1))) else (none)) else (none)) else (none)) else (some x6)
end
def slices_Concat_int64_int64.f (k : Nat) (l0 : List (List Int)) : Option (List Int) := slices_Concat_int64_int64.l0 k l0 0 l0 (l0.length : Int) 0
theorem slices_Concat_int64_int64.mono_l : ∀ k, (∀ y0 y1 y2 y3 y4, LeO (slices_Concat_int64_int64.l0 k y0 y1 y2 y3 y4) (slices_Concat_int64_int64.l0 (k + 1) y0 y1 y2 y3 y4)) ∧ (∀ y0 y1 y2 y3, LeO (slices_Concat_int64_int64.l1 k y0 y1 y2 y3) (slices_Concat_int64_int64.l1 (k + 1) y0 y1 y2 y3))
 | 0 => ⟨fun _ _ _ _ _ r h => by simp [slices_Concat_int64_int64.l0] at h, fun _ _ _ _ r h => by simp [slices_Concat_int64_int64.l1] at h⟩
 | k + 1 => by
  obtain ⟨ih0, ih1⟩ := slices_Concat_int64_int64.mono_l k
  refine ⟨?_, ?_⟩
  ·intro y0 y1 y2 y3 y4
   unfold slices_Concat_int64_int64.l0
   repeat' first
   | (with_reducible exact ih0 _ _ _ _ _)
   | (with_reducible exact ih1 _ _ _ _)
   | (with_reducible exact LeO.refl _)
   | (with_reducible exact LeO.none _)
   | (with_reducible refine LeO.ite ?_ ?_)
   | (with_reducible refine LeO.bind ?_ (fun _ => ?_))
   | exact ih0 _ _ _ _ _
   | exact ih1 _ _ _ _
   | exact LeO.none _
   | refine LeO.ite ?_ ?_
   | refine LeO.bind ?_ (fun _ => ?_)
  ·intro y0 y1 y2 y3
   unfold slices_Concat_int64_int64.l1
   repeat' first
   | (with_reducible exact ih0 _ _ _ _ _)
   | (with_reducible exact ih1 _ _ _ _)
   | (with_reducible exact LeO.refl _)
   | (with_reducible exact LeO.none _)
   | (with_reducible refine LeO.ite ?_ ?_)
   | (with_reducible refine LeO.bind ?_ (fun _ => ?_))
   | exact ih0 _ _ _ _ _
   | exact ih1 _ _ _ _
   | exact LeO.none _
   | refine LeO.ite ?_ ?_
   | refine LeO.bind ?_ (fun _ => ?_)
theorem slices_Concat_int64_int64.mono : ∀ a0 k, LeO (slices_Concat_int64_int64.f k a0) (slices_Concat_int64_int64.f (k + 1) a0) := by
 intro a0 k
 obtain ⟨ih0, ih1⟩ := slices_Concat_int64_int64.mono_l k
 unfold slices_Concat_int64_int64.f
 repeat' first
   | (with_reducible exact ih0 _ _ _ _ _)
   | (with_reducible exact ih1 _ _ _ _)
   | (with_reducible exact LeO.refl _)
   | (with_reducible exact LeO.none _)
   | (with_reducible refine LeO.ite ?_ ?_)
   | (with_reducible refine LeO.bind ?_ (fun _ => ?_))
   | exact ih0 _ _ _ _ _
   | exact ih1 _ _ _ _
   | exact LeO.none _
   | refine LeO.ite ?_ ?_
   | refine LeO.bind ?_ (fun _ => ?_)
set_option maxHeartbeats 8000000 in
set_option maxRecDepth 100000 in
theorem slices_Concat_int64_int64.calls (k : Nat) (A0 : Option Addr) (c0 : Nat) (l0 : List (List Int)) (r : List Int) (w : World) (hr0 : Kd.C (Kd.slice 2 (Kd.int .i64)) w A0 l0.length l0) (hc0 : l0.length ≤ c0) (h : slices_Concat_int64_int64.f k l0 = some r) :
  Calls Try.prog 63 #[.slice A0 l0.length c0] w fun e w' => ∃ v0_ : Value, e = .returned (v0_) ∧ Kd.R (Kd.int .i64) 2 w' w.heap.size (fun _ => True) v0_ r ∧ Below w.heap.size w w' := by
 have HR0 := aM hr0
 have HC0 := aM hc0
 clear hr0 hc0
 have HB := aM (Below.refl w.heap.size w)
 have H : (slices_Concat_int64_int64.l0 k l0 0 l0 (l0.length : Int) 0) = some r := h
 clear h
 have H' := aM H
 clear H
 go_enter Try.func63, Try.ntmps63
 go_wp2
 go_loopg [3, 11] k (fun kq v3 v11 w' => ∃ (x3_1 : Int) (x11_1 : Int), v3 = .int .i64 x3_1 ∧ v11 = .int .i64 x11_1 ∧ Aside0 (slices_Concat_int64_int64.l0 kq l0 x3_1 l0 (l0.length : Int) x11_1 = some r) ∧ Aside0 (kq ≤ k) ∧ Aside0 (Below w.heap.size w w'))
 case atStart => exact ⟨(0), (0), rQ, rQ, H', ⟨Nat.le_refl _⟩, ⟨bQ⟩⟩
 case round =>
  clear H'
  obtain ⟨x3_1, x11_1, rfl, rfl, HA, HK1, HB⟩ := hrel
  cases gk with
  | zero => exact absurd HA.out (by simp [slices_Concat_int64_int64.l0])
  | succ k1 =>
   have H := HA.out
   clear HA
   simp only [slices_Concat_int64_int64.l0] at H
   by_cases c2 : x11_1 < (l0.length : Int)
   ·rw [if_pos c2] at H
    have c2b0 : decide (x11_1 < (l0.length : Int)) = true := decide_eq_true c2
    clear c2
    by_cases c3 : 0 ≤ x11_1
    ·rw [if_pos c3] at H
     have c3b0 : decide (0 ≤ x11_1) = true := decide_eq_true c3
     clear c3
     by_cases c4 : x11_1 < (l0.length : Int)
     ·rw [if_pos c4] at H
      have c4b0 : decide (x11_1 < (l0.length : Int)) = true := decide_eq_true c4
      clear c4
      by_cases c5 : (wrap64 (x3_1 + ((rd_L1 l0 x11_1).length : Int))) < 0
      ·rw [if_pos c5] at H
       exact absurd H (by simp)
      ·rw [if_neg c5] at H
       have c5b0 : decide ((wrap64 (x3_1 + ((rd_L1 l0 x11_1).length : Int))) < 0) = false := decide_eq_false c5
       clear c5
       have H' := aM H
       clear H
       have p270 : 0 ≤ (x11_1 : Int) := dA
       have q270 : x11_1 < (l0.length : Int) := dA
       obtain ⟨ad270, A270_0, c270_0, e270, hx270_0, hl270_0, hi270_0⟩ := at_L1 HR0.out x11_1 p270 q270
       cases e270
       replace hx270_0 := cB HB.out hx270_0
       have HR270_0 := aM hi270_0
       have HC270_0 := aM hl270_0
       clear hi270_0 hl270_0
       replace p270 := eq_true p270
       replace q270 := eq_true q270
       go_wp2
       go_roundg k1
       case measure => have := HK1.out; omega
       case rel => exact ⟨(wrap64 (x3_1 + ((rd_L1 l0 x11_1).length : Int))), (wrap64 (x11_1 + 1)), rQ, rQ, H', ⟨by have := HK1.out; omega⟩, ⟨bQ⟩⟩
     ·rw [if_neg c4] at H
      exact absurd H (by simp)
    ·rw [if_neg c3] at H
     exact absurd H (by simp)
   ·rw [if_neg c2] at H
    have c2b0 : decide (x11_1 < (l0.length : Int)) = false := decide_eq_false c2
    clear c2
    replace H := Option.bind_eq_some_iff.mp H
    obtain ⟨t271, A60, H⟩ := H
    replace H : (slices_Concat_int64_int64.l1 k1 t271 l0 (l0.length : Int) 0) = some r := H
    have A6 := aM A60
    clear A60
    have H' := aM H
    clear H
    go_wp2_with (first | ((with_reducible refine gate_callee (f := 130) rfl ?_); refine goesL_ (some 24) rfl rfl Try.func130 (by kernel_rfl) rfl #[.slice none 0 0, .int .i64 x3_1] rfl gQ ?_; (with_reducible refine (slices_Grow_int64_int64.calls x3_1 t271 _ A6.out).mono ?_); rintro e w7 ⟨v272, rfl, ho0, hb⟩; refine ⟨_, rfl, ?_⟩; have n0_ := aM (Kd.R_lower ho0 (below_size bQ)); have n1_ := aM (below_step bQ hb); clear HB; have HO273 := n0_; have HB := n1_; clear n0_ n1_; (try clear hb); (try clear hb2); (try clear hk); (try clear hi); (try clear ho0)))
    go_loopg [6, 27] k1 (fun kq v6 v27 w' => ∃ (x6_2 : List Int) (x27_2 : Int), v27 = .int .i64 x27_2 ∧ Aside0 (slices_Concat_int64_int64.l1 kq x6_2 l0 (l0.length : Int) x27_2 = some r) ∧ Aside0 (kq ≤ k1) ∧ Aside0 (Kd.R (Kd.int .i64) 2 w' w.heap.size (fun _ => True) v6 x6_2) ∧ Aside0 (Below w.heap.size w w'))
    case atStart => exact ⟨(t271), (0), rQ, H', ⟨Nat.le_refl _⟩, ⟨by (with_reducible repeat (first | apply rA | apply rN | apply rD)); exact HO273.out⟩, ⟨bQ⟩⟩
    case round =>
     clear H'
     try clear c1
     try clear c2
     try clear c2b0
     try clear p2
     try clear q2
     try clear hx2
     try clear c3
     try clear c3b0
     try clear c4
     try clear c4b0
     try clear c5
     try clear c5b0
     try clear c6
     try clear p6
     try clear hx270_0
     try clear p270
     try clear q270
     obtain ⟨x6_2, x27_2, rfl, HA, HK2, HO_6, HB⟩ := hrel
     cases gk with
     | zero => exact absurd HA.out (by simp [slices_Concat_int64_int64.l1])
     | succ k2 =>
      have H := HA.out
      clear HA
      simp only [slices_Concat_int64_int64.l1] at H
      by_cases c8 : x27_2 < (l0.length : Int)
      ·rw [if_pos c8] at H
       have c8b0 : decide (x27_2 < (l0.length : Int)) = true := decide_eq_true c8
       clear c8
       by_cases c9 : 0 ≤ x27_2
       ·rw [if_pos c9] at H
        have c9b0 : decide (0 ≤ x27_2) = true := decide_eq_true c9
        clear c9
        by_cases c10 : x27_2 < (l0.length : Int)
        ·rw [if_pos c10] at H
         have c10b0 : decide (x27_2 < (l0.length : Int)) = true := decide_eq_true c10
         clear c10
         by_cases c11 : x6_2.length + (rd_L1 l0 x27_2).length < 17592186044416
         ·rw [if_pos c11] at H
          have LMc11 := aM c11
          clear c11
          obtain ⟨y275, hy275⟩ : ∃ y_ : List Int, y_ = (x6_2 ++ (rd_L1 l0 x27_2)) := ⟨_, rfl⟩
          replace H : (slices_Concat_int64_int64.l1 k2 y275 l0 (l0.length : Int) (wrap64 (x27_2 + 1))) = some r := by first | (rw [hy275]; with_reducible exact H) | (have H2_ := bS H; rw [hy275]; with_reducible exact H2_) | (have H2_ := bS H; with_reducible exact H2_) | with_reducible exact H | (rw [hy275]; exact H) | exact H
          have Ny275 := aM hy275
          clear hy275
          have H' := aM H
          clear H
          have p274 : 0 ≤ (x27_2 : Int) := dA
          have q274 : x27_2 < (l0.length : Int) := dA
          obtain ⟨ad274, A274_0, c274_0, e274, hx274_0, hl274_0, hi274_0⟩ := at_L1 HR0.out x27_2 p274 q274
          cases e274
          replace hx274_0 := cB HB.out hx274_0
          have HR274_0 := aM hi274_0
          have HC274_0 := aM hl274_0
          clear hi274_0 hl274_0
          replace p274 := eq_true p274
          replace q274 := eq_true q274
          go_wp2_with (first | ((with_reducible refine gate_builtin (b := .append) (xs := #[.tmp 31, .tmp 32]) rfl ?_); at_builtin; refine Kd.R_append_rows (Kd.int .i64) (w0 := w) w.heap.size rfl (.tmp 31) (.tmp 32) 22 2 (.int .i64 0) 8 rfl Try.underlying22 info2 rfl (by decide) (by omega) u6 x6_2 (rd_L1 l0 x27_2) _ _ _ (fun _ => True) (fun _ => False) rfl rfl ?aO ?aR (fun _ _ h => h) (fun _ h => h.elim) ?aF ?aB ?aS ?aL ?_; (case aR => repeat (first | exact (Kd.C_below HR274_0.out HB.out) | (with_reducible first | refine cA ?_ _ | refine cN ?_ _ | refine cD ?_))); (case aB => exact bQ); (case aF => exact (fun _ _ => trivial)); (case aO => exact (by (with_reducible repeat (first | apply rA | apply rN | apply rD)); exact HO_6.out)); (case aS => exact (below_size bQ)); (case aL => have := LMc11.out; omega); intro v276 w12 ho hb hg hat; rw [← Ny275.out] at ho; have n0_ := aM (hb); have n1_ := aM (ho); clear HB; clear HO_6; have HB := n0_; have HO277 := n1_; clear n0_ n1_; clear ho hb hg hat))
          go_roundg k2
          case measure => have := HK1.out; have := HK2.out; omega
          case rel => exact ⟨(y275), (wrap64 (x27_2 + 1)), rQ, H', ⟨by have := HK1.out; have := HK2.out; omega⟩, ⟨by (with_reducible repeat (first | apply rA | apply rN | apply rD)); exact HO277.out⟩, ⟨bQ⟩⟩
         ·rw [if_neg c11] at H
          exact absurd H (by simp)
        ·rw [if_neg c10] at H
         exact absurd H (by simp)
       ·rw [if_neg c9] at H
        exact absurd H (by simp)
      ·rw [if_neg c8] at H
       have c8b0 : decide (x27_2 < (l0.length : Int)) = false := decide_eq_false c8
       clear c8
       obtain rfl := Option.some.inj H
       go_wp2
       go_ret
       exact ⟨_, eQ, by (with_reducible repeat (first | apply rA | apply rN | apply rD)); exact HO_6.out, bQ⟩

end Go.Proofs.Ytdahcapolipnbaa.QFnExactUnionClass
