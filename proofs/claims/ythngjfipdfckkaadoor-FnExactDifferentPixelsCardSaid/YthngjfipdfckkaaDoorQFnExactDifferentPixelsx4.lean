/- What some Go functions answer, each as a Lean function, and that the machine answers so: written by a program of this session out of the translation. -/
import Derived.Test.YthngjfipdfckkaaDoorQFnExactDifferentPixelsx0
import Derived.Test.YthngjfipdfckkaaDoorQFnExactDifferentPixelsx2
import Derived.Test.YthngjfipdfckkaaDoorQFnExactDifferentPixelsx3
namespace Go.Proofs.YthngjfipdfckkaaDoor.QFnExactDifferentPixels
open Go.RowKit Go.Proofs.YthngjfipdfckkaaDoorW.PrintWords Go.Proofs.YthngjfipdfckkaaDoorW.PrintLast Go.Proofs.YthngjfipdfckkaaDoorW.PrintMore Go.Proofs.YthngjfipdfckkaaDoor.Rp
attribute [local go_sem] max2_int min2_int max_two min_two max_three min_three max_four min_four   -- for this text's walks alone
set_option linter.unusedVariables false
set_option linter.unusedSimpArgs false

/-! ### spec_l22Only_at: function 36 -/
mutual
def spec_l22Only_at.l0 : Nat → Int → Int → List (S27) → Int → List (S27) → Int → Option (Int)
 | 0, _, _, _, _, _, _ => none
 | k + 1, x5, x6, x1000, x1001, x1016, x1017 => if x6 < (((rd_T27 x1000 x1001).f3).length : Int) then (spec_l22Only_at.l1 k x5 x6 0 x1000 x1001 x1016 x1017) else (some x5)
def spec_l22Only_at.l1 : Nat → Int → Int → Int → List (S27) → Int → List (S27) → Int → Option (Int)
 | 0, _, _, _, _, _, _, _ => none
 | k + 1, x5, x6, x7, x1000, x1001, x1016, x1017 => if x7 < ((rd_T27 x1000 x1001).f2) then (if 0 ≤ x6 then (if x6 < (((rd_T27 x1000 x1001).f3).length : Int) then (if 0 ≤ x7 then (if x7 < ((rdOf ByteArray.empty ((rd_T27 x1000 x1001).f3) x6).size : Int) then (if (bt (rdOf ByteArray.empty ((rd_T27 x1000 x1001).f3) x6) x7) = 35 then ((spec_l22At_at.f x1016 x1017 (wrap64 (((rd_T27 x1000 x1001).f0) + x7)) (wrap64 (((rd_T27 x1000 x1001).f1) + (wrap64 ((wrap64 ((((rd_T27 x1000 x1001).f3).length : Int) - 1)) - x6))))).bind fun t159 => (if t159 = true then (spec_l22Only_at.l1 k x5 x6 (wrap64 (x7 + 1)) x1000 x1001 x1016 x1017) else (spec_l22Only_at.l1 k (wrap64 (x5 + 1)) x6 (wrap64 (x7 + 1)) x1000 x1001 x1016 x1017))) else (spec_l22Only_at.l1 k x5 x6 (wrap64 (x7 + 1)) x1000 x1001 x1016 x1017)) else (none)) else (none)) else (none)) else (none)) else (spec_l22Only_at.l0 k x5 (wrap64 (x6 + 1)) x1000 x1001 x1016 x1017)
end
def spec_l22Only_at.f (k : Nat) (l0_0 : List (S27)) (a0_1 : Int) (l1_0 : List (S27)) (a1_1 : Int) : Option (Int) := spec_l22Only_at.l0 k 0 0 l0_0 a0_1 l1_0 a1_1
theorem spec_l22Only_at.mono_l : ∀ k, (∀ y0 y1 y2 y3 y4 y5, LeO (spec_l22Only_at.l0 k y0 y1 y2 y3 y4 y5) (spec_l22Only_at.l0 (k + 1) y0 y1 y2 y3 y4 y5)) ∧ (∀ y0 y1 y2 y3 y4 y5 y6, LeO (spec_l22Only_at.l1 k y0 y1 y2 y3 y4 y5 y6) (spec_l22Only_at.l1 (k + 1) y0 y1 y2 y3 y4 y5 y6))
 | 0 => ⟨fun _ _ _ _ _ _ r h => by simp [spec_l22Only_at.l0] at h, fun _ _ _ _ _ _ _ r h => by simp [spec_l22Only_at.l1] at h⟩
 | k + 1 => by
  obtain ⟨ih0, ih1⟩ := spec_l22Only_at.mono_l k
  refine ⟨?_, ?_⟩
  ·intro y0 y1 y2 y3 y4 y5
   unfold spec_l22Only_at.l0
   repeat' first
   | (with_reducible exact ih0 _ _ _ _ _ _)
   | (with_reducible exact ih1 _ _ _ _ _ _ _)
   | (with_reducible exact LeO.refl _)
   | (with_reducible exact LeO.none _)
   | (with_reducible refine LeO.ite ?_ ?_)
   | (with_reducible refine LeO.bind ?_ (fun _ => ?_))
   | exact ih0 _ _ _ _ _ _
   | exact ih1 _ _ _ _ _ _ _
   | exact LeO.none _
   | refine LeO.ite ?_ ?_
   | refine LeO.bind ?_ (fun _ => ?_)
  ·intro y0 y1 y2 y3 y4 y5 y6
   unfold spec_l22Only_at.l1
   repeat' first
   | (with_reducible exact ih0 _ _ _ _ _ _)
   | (with_reducible exact ih1 _ _ _ _ _ _ _)
   | (with_reducible exact LeO.refl _)
   | (with_reducible exact LeO.none _)
   | (with_reducible refine LeO.ite ?_ ?_)
   | (with_reducible refine LeO.bind ?_ (fun _ => ?_))
   | exact ih0 _ _ _ _ _ _
   | exact ih1 _ _ _ _ _ _ _
   | exact LeO.none _
   | refine LeO.ite ?_ ?_
   | refine LeO.bind ?_ (fun _ => ?_)
theorem spec_l22Only_at.mono : ∀ a0 a1 a2 a3 k, LeO (spec_l22Only_at.f k a0 a1 a2 a3) (spec_l22Only_at.f (k + 1) a0 a1 a2 a3) := by
 intro a0 a1 a2 a3 k
 obtain ⟨ih0, ih1⟩ := spec_l22Only_at.mono_l k
 unfold spec_l22Only_at.f
 repeat' first
   | (with_reducible exact ih0 _ _ _ _ _ _)
   | (with_reducible exact ih1 _ _ _ _ _ _ _)
   | (with_reducible exact LeO.refl _)
   | (with_reducible exact LeO.none _)
   | (with_reducible refine LeO.ite ?_ ?_)
   | (with_reducible refine LeO.bind ?_ (fun _ => ?_))
   | exact ih0 _ _ _ _ _ _
   | exact ih1 _ _ _ _ _ _ _
   | exact LeO.none _
   | refine LeO.ite ?_ ?_
   | refine LeO.bind ?_ (fun _ => ?_)
set_option maxHeartbeats 8000000 in
set_option maxRecDepth 100000 in
theorem spec_l22Only_at.calls (k : Nat) (p0_ : Addr) (l0_0 : List (S27)) (a0_1 : Int) (p1_ : Addr) (l1_0 : List (S27)) (a1_1 : Int) (r : Int) (w : World) (hP0_ : RPtr k27 ((a0_1 : Int).toNat * 4) w p0_ l0_0 a0_1) (hP1_ : RPtr k27 ((a1_1 : Int).toNat * 4) w p1_ l1_0 a1_1) (h : spec_l22Only_at.f k l0_0 a0_1 l1_0 a1_1 = some r) :
  Calls Tryd.prog 36 #[.pointer (some p0_), .pointer (some p1_)] w fun e w' => e = .returned (.int .i64 r) ∧ Below w.heap.size w w' := by
 obtain ⟨ad0_, rfl, hr0_0, hi0_, hj0_⟩ := hP0_
 have hc0_0 : l0_0.length ≤ l0_0.length := Nat.le_refl _
 replace hi0_ := decide_eq_true hi0_
 replace hj0_ := decide_eq_true hj0_
 obtain ⟨ad9000, A9000_3, c9000_3, e9000, HX9000_0, HX9000_1, HX9000_2, HX9000_3, HC9000_3, HR9000_3⟩ := at_T27 hr0_0 a0_1 (of_decide_eq_true hi0_) (of_decide_eq_true hj0_)
 obtain rfl : ad0_ = ad9000 := (by injection e9000)
 replace HX9000_0 := aM HX9000_0
 replace HX9000_1 := aM HX9000_1
 replace HX9000_2 := aM HX9000_2
 replace HX9000_3 := aM HX9000_3
 replace HC9000_3 := aM HC9000_3
 replace HR9000_3 := aM HR9000_3
 obtain ⟨ad1_, rfl, hr1_0, hi1_, hj1_⟩ := hP1_
 have hc1_0 : l1_0.length ≤ l1_0.length := Nat.le_refl _
 replace hi1_ := decide_eq_true hi1_
 replace hj1_ := decide_eq_true hj1_
 obtain ⟨ad9010, A9010_3, c9010_3, e9010, HX9010_0, HX9010_1, HX9010_2, HX9010_3, HC9010_3, HR9010_3⟩ := at_T27 hr1_0 a1_1 (of_decide_eq_true hi1_) (of_decide_eq_true hj1_)
 obtain rfl : ad1_ = ad9010 := (by injection e9010)
 replace HX9010_0 := aM HX9010_0
 replace HX9010_1 := aM HX9010_1
 replace HX9010_2 := aM HX9010_2
 replace HX9010_3 := aM HX9010_3
 replace HC9010_3 := aM HC9010_3
 replace HR9010_3 := aM HR9010_3
 have HR0_0 := aM hr0_0
 have HC0_0 := aM hc0_0
 clear hr0_0 hc0_0
 have HR1_0 := aM hr1_0
 have HC1_0 := aM hc1_0
 clear hr1_0 hc1_0
 have HB := aM (Below.refl w.heap.size w)
 have H : (spec_l22Only_at.l0 k 0 0 l0_0 a0_1 l1_0 a1_1) = some r := h
 clear h
 have H' := aM H
 clear H
 go_enter Tryd.func36, Tryd.ntmps36
 go_wp2
 repeat (go_quiet (fail); try go_wp2)
 go_loopg [5, 6] k (fun kq v5 v6 w' => ∃ (x5_1 : Int) (x6_1 : Int), v5 = .int .i64 x5_1 ∧ v6 = .int .i64 x6_1 ∧ Aside0 (spec_l22Only_at.l0 kq x5_1 x6_1 l0_0 a0_1 l1_0 a1_1 = some r) ∧ Aside0 (kq ≤ k) ∧ Aside0 (Below w.heap.size w w'))
 case atStart => exact ⟨(0), (0), rQ, rQ, H', ⟨Nat.le_refl _⟩, ⟨bQ⟩⟩
 case round =>
  clear H'
  try clear c1
  try clear p2
  obtain ⟨x5_1, x6_1, rfl, rfl, HA, HK1, HB⟩ := hrel
  cases gk with
  | zero => exact absurd HA.out (by simp [spec_l22Only_at.l0])
  | succ k1 =>
   have H := HA.out
   clear HA
   simp only [spec_l22Only_at.l0] at H
   by_cases c3 : x6_1 < (((rd_T27 l0_0 a0_1).f3).length : Int)
   ·rw [if_pos c3] at H
    have c3b0 : decide (x6_1 < (((rd_T27 l0_0 a0_1).f3).length : Int)) = true := decide_eq_true c3
    clear c3
    have H' := aM H
    clear H
    have hx152_0 := HX9000_0.out
    have hx152_1 := HX9000_1.out
    have hx152_2 := HX9000_2.out
    have hx152_3 := HX9000_3.out
    replace hx152_0 := cB HB.out hx152_0
    replace hx152_1 := cB HB.out hx152_1
    replace hx152_2 := cB HB.out hx152_2
    replace hx152_3 := cB HB.out hx152_3
    have HR152_3 := HR9000_3
    have HC152_3 := HC9000_3
    go_wp2
    repeat (go_quiet (fail); try go_wp2)
    go_loopg [5, 7] k1 (fun kq v5 v7 w' => ∃ (x5_2 : Int) (x7_2 : Int), v5 = .int .i64 x5_2 ∧ v7 = .int .i64 x7_2 ∧ Aside0 (spec_l22Only_at.l1 kq x5_2 x6_1 x7_2 l0_0 a0_1 l1_0 a1_1 = some r) ∧ Aside0 (kq ≤ k1) ∧ Aside0 (Below w.heap.size w w'))
    case atStart => exact ⟨(x5_1), (0), rQ, rQ, H', ⟨Nat.le_refl _⟩, ⟨bQ⟩⟩
    case round =>
     clear H'
     try clear c1
     try clear hx1
     try clear p2
     try clear c3
     try clear c3b0
     try clear hx152_0
     try clear hx152_1
     try clear hx152_2
     try clear hx152_3
     try clear p2
     obtain ⟨x5_2, x7_2, rfl, rfl, HA, HK2, HB⟩ := hrel
     cases gk with
     | zero => exact absurd HA.out (by simp [spec_l22Only_at.l1])
     | succ k2 =>
      have H := HA.out
      clear HA
      simp only [spec_l22Only_at.l1] at H
      by_cases c4 : x7_2 < ((rd_T27 l0_0 a0_1).f2)
      ·rw [if_pos c4] at H
       have c4b0 : decide (x7_2 < ((rd_T27 l0_0 a0_1).f2)) = true := decide_eq_true c4
       clear c4
       by_cases c5 : 0 ≤ x6_1
       ·rw [if_pos c5] at H
        have c5b0 : decide (0 ≤ x6_1) = true := decide_eq_true c5
        clear c5
        by_cases c6 : x6_1 < (((rd_T27 l0_0 a0_1).f3).length : Int)
        ·rw [if_pos c6] at H
         have c6b0 : decide (x6_1 < (((rd_T27 l0_0 a0_1).f3).length : Int)) = true := decide_eq_true c6
         clear c6
         by_cases c7 : 0 ≤ x7_2
         ·rw [if_pos c7] at H
          have c7b0 : decide (0 ≤ x7_2) = true := decide_eq_true c7
          clear c7
          by_cases c8 : x7_2 < ((rdOf ByteArray.empty ((rd_T27 l0_0 a0_1).f3) x6_1).size : Int)
          ·rw [if_pos c8] at H
           have c8b0 : decide (x7_2 < ((rdOf ByteArray.empty ((rd_T27 l0_0 a0_1).f3) x6_1).size : Int)) = true := decide_eq_true c8
           clear c8
           by_cases c10 : (bt (rdOf ByteArray.empty ((rd_T27 l0_0 a0_1).f3) x6_1) x7_2) = 35
           ·rw [if_pos c10] at H
            have c10b0 : ((bt (rdOf ByteArray.empty ((rd_T27 l0_0 a0_1).f3) x6_1) x7_2) == 35) = true := beq_iff_eq.mpr c10
            have c10b1 : ((bt (rdOf ByteArray.empty ((rd_T27 l0_0 a0_1).f3) x6_1) x7_2) != 35) = false := bne_eq_false_iff_eq.mpr c10
            clear c10
            replace H := Option.bind_eq_some_iff.mp H
            obtain ⟨t159, A110, H⟩ := H
            replace H : (if t159 = true then (spec_l22Only_at.l1 k2 x5_2 x6_1 (wrap64 (x7_2 + 1)) l0_0 a0_1 l1_0 a1_1) else (spec_l22Only_at.l1 k2 (wrap64 (x5_2 + 1)) x6_1 (wrap64 (x7_2 + 1)) l0_0 a0_1 l1_0 a1_1)) = some r := H
            have A11 := aM A110
            clear A110
            by_cases c12 : t159 = true
            ·subst c12
             have H1 : (spec_l22Only_at.l1 k2 x5_2 x6_1 (wrap64 (x7_2 + 1)) l0_0 a0_1 l1_0 a1_1) = some r := by rw [if_pos rfl] at H; exact H
             clear H
             have H := H1
             clear H1
             have H' := aM H
             clear H
             have hx153_0 := HX9000_0.out
             have hx153_1 := HX9000_1.out
             have hx153_2 := HX9000_2.out
             have hx153_3 := HX9000_3.out
             replace hx153_0 := cB HB.out hx153_0
             replace hx153_1 := cB HB.out hx153_1
             replace hx153_2 := cB HB.out hx153_2
             replace hx153_3 := cB HB.out hx153_3
             have HR153_3 := HR9000_3
             have HC153_3 := HC9000_3
             have hx154_0 := HX9000_0.out
             have hx154_1 := HX9000_1.out
             have hx154_2 := HX9000_2.out
             have hx154_3 := HX9000_3.out
             replace hx154_0 := cB HB.out hx154_0
             replace hx154_1 := cB HB.out hx154_1
             replace hx154_2 := cB HB.out hx154_2
             replace hx154_3 := cB HB.out hx154_3
             have HR154_3 := HR9000_3
             have HC154_3 := HC9000_3
             have hx155_0 := HX9000_0.out
             have hx155_1 := HX9000_1.out
             have hx155_2 := HX9000_2.out
             have hx155_3 := HX9000_3.out
             replace hx155_0 := cB HB.out hx155_0
             replace hx155_1 := cB HB.out hx155_1
             replace hx155_2 := cB HB.out hx155_2
             replace hx155_3 := cB HB.out hx155_3
             have HR155_3 := HR9000_3
             have HC155_3 := HC9000_3
             have hx156_0 := HX9000_0.out
             have hx156_1 := HX9000_1.out
             have hx156_2 := HX9000_2.out
             have hx156_3 := HX9000_3.out
             replace hx156_0 := cB HB.out hx156_0
             replace hx156_1 := cB HB.out hx156_1
             replace hx156_2 := cB HB.out hx156_2
             replace hx156_3 := cB HB.out hx156_3
             have HR156_3 := HR9000_3
             have HC156_3 := HC9000_3
             have p157 : 0 ≤ (x6_1 : Int) := dA
             have q157 : x6_1 < (((rd_T27 l0_0 a0_1).f3).length : Int) := dA
             obtain ⟨ad157, e157, hx157_0⟩ := Kd.at_string HR156_3.out x6_1 p157 q157
             cases e157
             replace hx157_0 := cB HB.out hx157_0
             replace p157 := eq_true p157
             replace q157 := eq_true q157
             have p9 : 0 ≤ (x7_2 : Int) := dA
             have q9 : x7_2 < ((rdOf ByteArray.empty ((rd_T27 l0_0 a0_1).f3) x6_1).size : Int) := dA
             have hx9 := bt_at (rdOf ByteArray.empty ((rd_T27 l0_0 a0_1).f3) x6_1) x7_2
             replace p9 := eq_true p9
             replace q9 := eq_true q9
             have hx158_0 := HX9000_0.out
             have hx158_1 := HX9000_1.out
             have hx158_2 := HX9000_2.out
             have hx158_3 := HX9000_3.out
             replace hx158_0 := cB HB.out hx158_0
             replace hx158_1 := cB HB.out hx158_1
             replace hx158_2 := cB HB.out hx158_2
             replace hx158_3 := cB HB.out hx158_3
             have HR158_3 := HR9000_3
             have HC158_3 := HC9000_3
             go_wp2_with (first | (go_at_call 34; (with_reducible refine (spec_l22At_at.calls _ l1_0 a1_1 (wrap64 (((rd_T27 l0_0 a0_1).f0) + x7_2)) (wrap64 (((rd_T27 l0_0 a0_1).f1) + (wrap64 ((wrap64 ((((rd_T27 l0_0 a0_1).f3).length : Int) - 1)) - x6_1)))) true _ ?side1 A11.out).mono ?_); (case side1 => refine RPtr.mk_ (by repeat (first | exact (Kd.C_below HR1_0.out HB.out) | (with_reducible first | refine cA ?_ _ | refine cN ?_ _ | refine cD ?_))) (by first | rfl | exact (Addr.add_zero' _).symm) (by first | omega | exact dA | simp_all) (by first | exact dA | omega | simp_all)); rintro e w13 ⟨rfl, hb⟩; have n0_ := aM (below_step bQ hb); clear HB; have HB := n0_; clear n0_; (try clear hb); (try clear hb2); (try clear hk); (try clear hi)))
             repeat (go_quiet (first | (go_at_call 34; (with_reducible refine (spec_l22At_at.calls _ l1_0 a1_1 (wrap64 (((rd_T27 l0_0 a0_1).f0) + x7_2)) (wrap64 (((rd_T27 l0_0 a0_1).f1) + (wrap64 ((wrap64 ((((rd_T27 l0_0 a0_1).f3).length : Int) - 1)) - x6_1)))) true _ ?side1 A11.out).mono ?_); (case side1 => refine RPtr.mk_ (by repeat (first | exact (Kd.C_below HR1_0.out HB.out) | (with_reducible first | refine cA ?_ _ | refine cN ?_ _ | refine cD ?_))) (by first | rfl | exact (Addr.add_zero' _).symm) (by first | omega | exact dA | simp_all) (by first | exact dA | omega | simp_all)); rintro e w13 ⟨rfl, hb⟩; have n0_ := aM (below_step bQ hb); clear HB; have HB := n0_; clear n0_; (try clear hb); (try clear hb2); (try clear hk); (try clear hi))); try go_wp2_with (first | (go_at_call 34; (with_reducible refine (spec_l22At_at.calls _ l1_0 a1_1 (wrap64 (((rd_T27 l0_0 a0_1).f0) + x7_2)) (wrap64 (((rd_T27 l0_0 a0_1).f1) + (wrap64 ((wrap64 ((((rd_T27 l0_0 a0_1).f3).length : Int) - 1)) - x6_1)))) true _ ?side1 A11.out).mono ?_); (case side1 => refine RPtr.mk_ (by repeat (first | exact (Kd.C_below HR1_0.out HB.out) | (with_reducible first | refine cA ?_ _ | refine cN ?_ _ | refine cD ?_))) (by first | rfl | exact (Addr.add_zero' _).symm) (by first | omega | exact dA | simp_all) (by first | exact dA | omega | simp_all)); rintro e w13 ⟨rfl, hb⟩; have n0_ := aM (below_step bQ hb); clear HB; have HB := n0_; clear n0_; (try clear hb); (try clear hb2); (try clear hk); (try clear hi))))
             go_roundg k2
             case measure => have := HK1.out; have := HK2.out; omega
             case rel => exact ⟨(x5_2), (wrap64 (x7_2 + 1)), rQ, rQ, H', ⟨by have := HK1.out; have := HK2.out; omega⟩, ⟨bQ⟩⟩
            ·replace c12 := Bool.eq_false_iff.mpr c12
             subst c12
             have H1 : (spec_l22Only_at.l1 k2 (wrap64 (x5_2 + 1)) x6_1 (wrap64 (x7_2 + 1)) l0_0 a0_1 l1_0 a1_1) = some r := by rw [if_neg (show ¬ (false = true) by decide)] at H; exact H
             clear H
             have H := H1
             clear H1
             have H' := aM H
             clear H
             have hx153_0 := HX9000_0.out
             have hx153_1 := HX9000_1.out
             have hx153_2 := HX9000_2.out
             have hx153_3 := HX9000_3.out
             replace hx153_0 := cB HB.out hx153_0
             replace hx153_1 := cB HB.out hx153_1
             replace hx153_2 := cB HB.out hx153_2
             replace hx153_3 := cB HB.out hx153_3
             have HR153_3 := HR9000_3
             have HC153_3 := HC9000_3
             have hx154_0 := HX9000_0.out
             have hx154_1 := HX9000_1.out
             have hx154_2 := HX9000_2.out
             have hx154_3 := HX9000_3.out
             replace hx154_0 := cB HB.out hx154_0
             replace hx154_1 := cB HB.out hx154_1
             replace hx154_2 := cB HB.out hx154_2
             replace hx154_3 := cB HB.out hx154_3
             have HR154_3 := HR9000_3
             have HC154_3 := HC9000_3
             have hx155_0 := HX9000_0.out
             have hx155_1 := HX9000_1.out
             have hx155_2 := HX9000_2.out
             have hx155_3 := HX9000_3.out
             replace hx155_0 := cB HB.out hx155_0
             replace hx155_1 := cB HB.out hx155_1
             replace hx155_2 := cB HB.out hx155_2
             replace hx155_3 := cB HB.out hx155_3
             have HR155_3 := HR9000_3
             have HC155_3 := HC9000_3
             have hx156_0 := HX9000_0.out
             have hx156_1 := HX9000_1.out
             have hx156_2 := HX9000_2.out
             have hx156_3 := HX9000_3.out
             replace hx156_0 := cB HB.out hx156_0
             replace hx156_1 := cB HB.out hx156_1
             replace hx156_2 := cB HB.out hx156_2
             replace hx156_3 := cB HB.out hx156_3
             have HR156_3 := HR9000_3
             have HC156_3 := HC9000_3
             have p157 : 0 ≤ (x6_1 : Int) := dA
             have q157 : x6_1 < (((rd_T27 l0_0 a0_1).f3).length : Int) := dA
             obtain ⟨ad157, e157, hx157_0⟩ := Kd.at_string HR156_3.out x6_1 p157 q157
             cases e157
             replace hx157_0 := cB HB.out hx157_0
             replace p157 := eq_true p157
             replace q157 := eq_true q157
             have p9 : 0 ≤ (x7_2 : Int) := dA
             have q9 : x7_2 < ((rdOf ByteArray.empty ((rd_T27 l0_0 a0_1).f3) x6_1).size : Int) := dA
             have hx9 := bt_at (rdOf ByteArray.empty ((rd_T27 l0_0 a0_1).f3) x6_1) x7_2
             replace p9 := eq_true p9
             replace q9 := eq_true q9
             have hx158_0 := HX9000_0.out
             have hx158_1 := HX9000_1.out
             have hx158_2 := HX9000_2.out
             have hx158_3 := HX9000_3.out
             replace hx158_0 := cB HB.out hx158_0
             replace hx158_1 := cB HB.out hx158_1
             replace hx158_2 := cB HB.out hx158_2
             replace hx158_3 := cB HB.out hx158_3
             have HR158_3 := HR9000_3
             have HC158_3 := HC9000_3
             go_wp2_with (first | (go_at_call 34; (with_reducible refine (spec_l22At_at.calls _ l1_0 a1_1 (wrap64 (((rd_T27 l0_0 a0_1).f0) + x7_2)) (wrap64 (((rd_T27 l0_0 a0_1).f1) + (wrap64 ((wrap64 ((((rd_T27 l0_0 a0_1).f3).length : Int) - 1)) - x6_1)))) false _ ?side1 A11.out).mono ?_); (case side1 => refine RPtr.mk_ (by repeat (first | exact (Kd.C_below HR1_0.out HB.out) | (with_reducible first | refine cA ?_ _ | refine cN ?_ _ | refine cD ?_))) (by first | rfl | exact (Addr.add_zero' _).symm) (by first | omega | exact dA | simp_all) (by first | exact dA | omega | simp_all)); rintro e w14 ⟨rfl, hb⟩; have n0_ := aM (below_step bQ hb); clear HB; have HB := n0_; clear n0_; (try clear hb); (try clear hb2); (try clear hk); (try clear hi)))
             repeat (go_quiet (first | (go_at_call 34; (with_reducible refine (spec_l22At_at.calls _ l1_0 a1_1 (wrap64 (((rd_T27 l0_0 a0_1).f0) + x7_2)) (wrap64 (((rd_T27 l0_0 a0_1).f1) + (wrap64 ((wrap64 ((((rd_T27 l0_0 a0_1).f3).length : Int) - 1)) - x6_1)))) false _ ?side1 A11.out).mono ?_); (case side1 => refine RPtr.mk_ (by repeat (first | exact (Kd.C_below HR1_0.out HB.out) | (with_reducible first | refine cA ?_ _ | refine cN ?_ _ | refine cD ?_))) (by first | rfl | exact (Addr.add_zero' _).symm) (by first | omega | exact dA | simp_all) (by first | exact dA | omega | simp_all)); rintro e w14 ⟨rfl, hb⟩; have n0_ := aM (below_step bQ hb); clear HB; have HB := n0_; clear n0_; (try clear hb); (try clear hb2); (try clear hk); (try clear hi))); try go_wp2_with (first | (go_at_call 34; (with_reducible refine (spec_l22At_at.calls _ l1_0 a1_1 (wrap64 (((rd_T27 l0_0 a0_1).f0) + x7_2)) (wrap64 (((rd_T27 l0_0 a0_1).f1) + (wrap64 ((wrap64 ((((rd_T27 l0_0 a0_1).f3).length : Int) - 1)) - x6_1)))) false _ ?side1 A11.out).mono ?_); (case side1 => refine RPtr.mk_ (by repeat (first | exact (Kd.C_below HR1_0.out HB.out) | (with_reducible first | refine cA ?_ _ | refine cN ?_ _ | refine cD ?_))) (by first | rfl | exact (Addr.add_zero' _).symm) (by first | omega | exact dA | simp_all) (by first | exact dA | omega | simp_all)); rintro e w14 ⟨rfl, hb⟩; have n0_ := aM (below_step bQ hb); clear HB; have HB := n0_; clear n0_; (try clear hb); (try clear hb2); (try clear hk); (try clear hi))))
             go_roundg k2
             case measure => have := HK1.out; have := HK2.out; omega
             case rel => exact ⟨(wrap64 (x5_2 + 1)), (wrap64 (x7_2 + 1)), rQ, rQ, H', ⟨by have := HK1.out; have := HK2.out; omega⟩, ⟨bQ⟩⟩
           ·rw [if_neg c10] at H
            have c10b0 : ((bt (rdOf ByteArray.empty ((rd_T27 l0_0 a0_1).f3) x6_1) x7_2) == 35) = false := beq_eq_false_iff_ne.mpr c10
            have c10b1 : ((bt (rdOf ByteArray.empty ((rd_T27 l0_0 a0_1).f3) x6_1) x7_2) != 35) = true := bne_iff_ne.mpr c10
            have H' := aM H
            clear H
            have hx153_0 := HX9000_0.out
            have hx153_1 := HX9000_1.out
            have hx153_2 := HX9000_2.out
            have hx153_3 := HX9000_3.out
            replace hx153_0 := cB HB.out hx153_0
            replace hx153_1 := cB HB.out hx153_1
            replace hx153_2 := cB HB.out hx153_2
            replace hx153_3 := cB HB.out hx153_3
            have HR153_3 := HR9000_3
            have HC153_3 := HC9000_3
            have hx154_0 := HX9000_0.out
            have hx154_1 := HX9000_1.out
            have hx154_2 := HX9000_2.out
            have hx154_3 := HX9000_3.out
            replace hx154_0 := cB HB.out hx154_0
            replace hx154_1 := cB HB.out hx154_1
            replace hx154_2 := cB HB.out hx154_2
            replace hx154_3 := cB HB.out hx154_3
            have HR154_3 := HR9000_3
            have HC154_3 := HC9000_3
            have hx155_0 := HX9000_0.out
            have hx155_1 := HX9000_1.out
            have hx155_2 := HX9000_2.out
            have hx155_3 := HX9000_3.out
            replace hx155_0 := cB HB.out hx155_0
            replace hx155_1 := cB HB.out hx155_1
            replace hx155_2 := cB HB.out hx155_2
            replace hx155_3 := cB HB.out hx155_3
            have HR155_3 := HR9000_3
            have HC155_3 := HC9000_3
            have hx156_0 := HX9000_0.out
            have hx156_1 := HX9000_1.out
            have hx156_2 := HX9000_2.out
            have hx156_3 := HX9000_3.out
            replace hx156_0 := cB HB.out hx156_0
            replace hx156_1 := cB HB.out hx156_1
            replace hx156_2 := cB HB.out hx156_2
            replace hx156_3 := cB HB.out hx156_3
            have HR156_3 := HR9000_3
            have HC156_3 := HC9000_3
            have p157 : 0 ≤ (x6_1 : Int) := dA
            have q157 : x6_1 < (((rd_T27 l0_0 a0_1).f3).length : Int) := dA
            obtain ⟨ad157, e157, hx157_0⟩ := Kd.at_string HR156_3.out x6_1 p157 q157
            cases e157
            replace hx157_0 := cB HB.out hx157_0
            replace p157 := eq_true p157
            replace q157 := eq_true q157
            have p9 : 0 ≤ (x7_2 : Int) := dA
            have q9 : x7_2 < ((rdOf ByteArray.empty ((rd_T27 l0_0 a0_1).f3) x6_1).size : Int) := dA
            have hx9 := bt_at (rdOf ByteArray.empty ((rd_T27 l0_0 a0_1).f3) x6_1) x7_2
            replace p9 := eq_true p9
            replace q9 := eq_true q9
            go_wp2
            repeat (go_quiet (fail); try go_wp2)
            go_roundg k2
            case measure => have := HK1.out; have := HK2.out; omega
            case rel => exact ⟨(x5_2), (wrap64 (x7_2 + 1)), rQ, rQ, H', ⟨by have := HK1.out; have := HK2.out; omega⟩, ⟨bQ⟩⟩
          ·rw [if_neg c8] at H
           exact absurd H (by simp)
         ·rw [if_neg c7] at H
          exact absurd H (by simp)
        ·rw [if_neg c6] at H
         exact absurd H (by simp)
       ·rw [if_neg c5] at H
        exact absurd H (by simp)
      ·rw [if_neg c4] at H
       have c4b0 : decide (x7_2 < ((rd_T27 l0_0 a0_1).f2)) = false := decide_eq_false c4
       clear c4
       have H' := aM H
       clear H
       have hx153_0 := HX9000_0.out
       have hx153_1 := HX9000_1.out
       have hx153_2 := HX9000_2.out
       have hx153_3 := HX9000_3.out
       replace hx153_0 := cB HB.out hx153_0
       replace hx153_1 := cB HB.out hx153_1
       replace hx153_2 := cB HB.out hx153_2
       replace hx153_3 := cB HB.out hx153_3
       have HR153_3 := HR9000_3
       have HC153_3 := HC9000_3
       go_wp2
       repeat (go_quiet (fail); try go_wp2)
       go_roundg k2
       case measure => have := HK1.out; have := HK2.out; omega
       case rel => exact ⟨(x5_2), (wrap64 (x6_1 + 1)), rQ, rQ, H', ⟨by have := HK1.out; have := HK2.out; omega⟩, ⟨bQ⟩⟩
   ·rw [if_neg c3] at H
    have c3b0 : decide (x6_1 < (((rd_T27 l0_0 a0_1).f3).length : Int)) = false := decide_eq_false c3
    clear c3
    obtain rfl := Option.some.inj H
    have hx152_0 := HX9000_0.out
    have hx152_1 := HX9000_1.out
    have hx152_2 := HX9000_2.out
    have hx152_3 := HX9000_3.out
    replace hx152_0 := cB HB.out hx152_0
    replace hx152_1 := cB HB.out hx152_1
    replace hx152_2 := cB HB.out hx152_2
    replace hx152_3 := cB HB.out hx152_3
    have HR152_3 := HR9000_3
    have HC152_3 := HC9000_3
    go_wp2
    repeat (go_quiet (fail); try go_wp2)
    go_ret
    exact ⟨eQ, bQ⟩

/-! ### spec_DifferentPixels: function 16 -/
def spec_DifferentPixels.j0 : Nat → Bool → Int → Int → Int → List ByteArray → Int → Int → Int → List ByteArray → Option (Int × Int)
 | 0, _, _, _, _, _, _, _, _, _ => none
 | k + 1, x11, x161000, x161001, x161002, x161003, x162000, x162001, x162002, x162003 => if x11 = true then (some (0, 1)) else ((spec_l22Only_at.f k [(⟨x161000, x161001, x161002, x161003⟩ : S27)] 0 [(⟨x162000, x162001, x162002, x162003⟩ : S27)] 0).bind fun t164 => ((spec_l22Only_at.f k [(⟨x162000, x162001, x162002, x162003⟩ : S27)] 0 [(⟨x161000, x161001, x161002, x161003⟩ : S27)] 0).bind fun t165 => (some (wrap64 (t164 + t165), 0))))
def spec_DifferentPixels.f (k : Nat) (a0_0 : Int) (a0_1 : Int) (a0_2 : Int) (l0_3 : List ByteArray) (a1_0 : Int) (a1_1 : Int) (a1_2 : Int) (l1_3 : List ByteArray) : Option (Int × Int) := (spec_l22Ok_at.f k [(⟨a0_0, a0_1, a0_2, l0_3⟩ : S27)] 0).bind fun t162 => (if t162 = true then ((spec_l22Ok_at.f k [(⟨a1_0, a1_1, a1_2, l1_3⟩ : S27)] 0).bind fun t163 => (spec_DifferentPixels.j0 k (!t163) a0_0 a0_1 a0_2 l0_3 a1_0 a1_1 a1_2 l1_3)) else (spec_DifferentPixels.j0 k true a0_0 a0_1 a0_2 l0_3 a1_0 a1_1 a1_2 l1_3))
theorem spec_DifferentPixels.mono_l : ∀ k, (∀ y0 y1 y2 y3 y4 y5 y6 y7 y8, LeO (spec_DifferentPixels.j0 k y0 y1 y2 y3 y4 y5 y6 y7 y8) (spec_DifferentPixels.j0 (k + 1) y0 y1 y2 y3 y4 y5 y6 y7 y8))
 | 0 => fun _ _ _ _ _ _ _ _ _ r h => by simp [spec_DifferentPixels.j0] at h
 | k + 1 => by
  have ih0 := spec_DifferentPixels.mono_l k
  ·intro y0 y1 y2 y3 y4 y5 y6 y7 y8
   unfold spec_DifferentPixels.j0
   repeat' first
   | (with_reducible exact ih0 _ _ _ _ _ _ _ _ _)
   | (with_reducible exact spec_l22Ok_at.mono _ _ _)
   | (with_reducible exact spec_l22Only_at.mono _ _ _ _ _)
   | (with_reducible exact LeO.refl _)
   | (with_reducible exact LeO.none _)
   | (with_reducible refine LeO.ite ?_ ?_)
   | (with_reducible refine LeO.bind ?_ (fun _ => ?_))
   | exact ih0 _ _ _ _ _ _ _ _ _
   | exact spec_l22Ok_at.mono _ _ _
   | exact spec_l22Only_at.mono _ _ _ _ _
   | exact LeO.none _
   | refine LeO.ite ?_ ?_
   | refine LeO.bind ?_ (fun _ => ?_)
theorem spec_DifferentPixels.mono : ∀ a0 a1 a2 a3 a4 a5 a6 a7 k, LeO (spec_DifferentPixels.f k a0 a1 a2 a3 a4 a5 a6 a7) (spec_DifferentPixels.f (k + 1) a0 a1 a2 a3 a4 a5 a6 a7) := by
 intro a0 a1 a2 a3 a4 a5 a6 a7 k
 have ih0 := spec_DifferentPixels.mono_l k
 unfold spec_DifferentPixels.f
 repeat' first
   | (with_reducible exact ih0 _ _ _ _ _ _ _ _ _)
   | (with_reducible exact spec_l22Ok_at.mono _ _ _)
   | (with_reducible exact spec_l22Only_at.mono _ _ _ _ _)
   | (with_reducible exact LeO.refl _)
   | (with_reducible exact LeO.none _)
   | (with_reducible refine LeO.ite ?_ ?_)
   | (with_reducible refine LeO.bind ?_ (fun _ => ?_))
   | exact ih0 _ _ _ _ _ _ _ _ _
   | exact spec_l22Ok_at.mono _ _ _
   | exact spec_l22Only_at.mono _ _ _ _ _
   | exact LeO.none _
   | refine LeO.ite ?_ ?_
   | refine LeO.bind ?_ (fun _ => ?_)
set_option maxHeartbeats 8000000 in
set_option maxRecDepth 100000 in
theorem spec_DifferentPixels.calls (k : Nat) (a0_0 : Int) (a0_1 : Int) (a0_2 : Int) (A0_3 : Option Addr) (c0_3 : Nat) (l0_3 : List ByteArray) (a1_0 : Int) (a1_1 : Int) (a1_2 : Int) (A1_3 : Option Addr) (c1_3 : Nat) (l1_3 : List ByteArray) (r1 : Int) (r2 : Int) (w : World) (hr0_3 : Kd.C Kd.string w A0_3 l0_3.length l0_3) (hc0_3 : l0_3.length ≤ c0_3) (hr1_3 : Kd.C Kd.string w A1_3 l1_3.length l1_3) (hc1_3 : l1_3.length ≤ c1_3) (h : spec_DifferentPixels.f k a0_0 a0_1 a0_2 l0_3 a1_0 a1_1 a1_2 l1_3 = some (r1, r2)) :
  Calls Tryd.prog 16 #[.agg #[.int .i64 a0_0, .int .i64 a0_1, .int .i64 a0_2, .slice A0_3 l0_3.length c0_3], .agg #[.int .i64 a1_0, .int .i64 a1_1, .int .i64 a1_2, .slice A1_3 l1_3.length c1_3]] w fun e w' => e = .returned (.tuple #[.int .i64 r1, .int .i64 r2]) ∧ Below w.heap.size w w' := by
 have hu27 := Tryd.underlying27
 have HR0_3 := aM hr0_3
 have HC0_3 := aM hc0_3
 clear hr0_3 hc0_3
 have HR1_3 := aM hr1_3
 have HC1_3 := aM hc1_3
 clear hr1_3 hc1_3
 have HB := aM (Below.refl w.heap.size w)
 have H : ((spec_l22Ok_at.f k [(⟨a0_0, a0_1, a0_2, l0_3⟩ : S27)] 0).bind fun t162 => (if t162 = true then ((spec_l22Ok_at.f k [(⟨a1_0, a1_1, a1_2, l1_3⟩ : S27)] 0).bind fun t163 => (spec_DifferentPixels.j0 k (!t163) a0_0 a0_1 a0_2 l0_3 a1_0 a1_1 a1_2 l1_3)) else (spec_DifferentPixels.j0 k true a0_0 a0_1 a0_2 l0_3 a1_0 a1_1 a1_2 l1_3))) = some (r1, r2) := h
 clear h
 have HC3 := aM H
 clear H
 go_enter Tryd.func16, Tryd.ntmps16
 go_upto_region 1 with (first | ((with_reducible refine gate_dst (N := 2) rfl ?_); refine box_event ?hg (N := 2) ?hd (cs := #[.int .i64 a0_0, .int .i64 a0_1, .int .i64 a0_2, .slice A0_3 l0_3.length c0_3]) (t := 27) ?hr ?_; (case hd => rfl); (case hg => rfl); (case hr => first | (go_simp; done) | (go_simp; rfl)); intro gb160 hg w4 hbox hb; have n0_ := aM (below_step bQ hb); have n1_ := aM (hbox); have n2_ := aM ((by rw [hg]; exact (below_size bQ) : w.heap.size ≤ gb160)); have n3_ := aM ((by rw [hg]; exact (below_size bQ) : w.heap.size ≤ gb160)); clear HB; have HB := n0_; have BK160 := n1_; have GW160 := n2_; have GE160 := n3_; clear n0_ n1_ n2_ n3_; clear hb hbox hg) | ((with_reducible refine gate_dst (N := 3) rfl ?_); refine box_event ?hg (N := 3) ?hd (cs := #[.int .i64 a1_0, .int .i64 a1_1, .int .i64 a1_2, .slice A1_3 l1_3.length c1_3]) (t := 27) ?hr ?_; (case hd => rfl); (case hg => rfl); (case hr => first | (go_simp; done) | (go_simp; rfl)); intro gb161 hg w5 hbox hb; have n0_ := aM (blk_below (g := gb160) (o := .cells #[.int .i64 a0_0, .int .i64 a0_1, .int .i64 a0_2, .slice A0_3 l0_3.length c0_3] 27 (0, 0)) (by (with_reducible repeat (first | refine blk_drewN ?_ _ | refine blk_drew ?_ | refine blk_alloc ?_ _)); exact BK160.out) hb); have n1_ := aM (below_step (by repeat (first | (with_reducible first | exact HB.out | apply bA | apply bN | apply bD | refine below_set ?_ GE160.out) | exact HB.out)) hb); have n2_ := aM (hbox); have n3_ := aM ((by rw [hg]; exact (below_size (by repeat (first | (with_reducible first | exact HB.out | apply bA | apply bN | apply bD | refine below_set ?_ GE160.out) | exact HB.out))) : w.heap.size ≤ gb161)); have n4_ := aM ((by rw [hg]; exact (below_size (by repeat (first | (with_reducible first | exact HB.out | apply bA | apply bN | apply bD | refine below_set ?_ GE160.out) | exact HB.out))) : w.heap.size ≤ gb161)); have n5_ := aM ((by rw [hg]; exact Nat.ne_of_lt (blk_lt (g := gb160) (o := .cells #[.int .i64 a0_0, .int .i64 a0_1, .int .i64 a0_2, .slice A0_3 l0_3.length c0_3] 27 (0, 0)) (by (with_reducible repeat (first | refine blk_drewN ?_ _ | refine blk_drew ?_ | refine blk_alloc ?_ _)); exact BK160.out)) : gb160 ≠ gb161)); have n6_ := aM ((by rw [hg]; exact Nat.ne_of_gt (blk_lt (g := gb160) (o := .cells #[.int .i64 a0_0, .int .i64 a0_1, .int .i64 a0_2, .slice A0_3 l0_3.length c0_3] 27 (0, 0)) (by (with_reducible repeat (first | refine blk_drewN ?_ _ | refine blk_drew ?_ | refine blk_alloc ?_ _)); exact BK160.out)) : gb161 ≠ gb160)); clear BK160; clear HB; have BK160 := n0_; have HB := n1_; have BK161 := n2_; have GW161 := n3_; have GE161 := n4_; have NB160_161 := n5_; have NB161_160 := n6_; clear n0_ n1_ n2_ n3_ n4_ n5_ n6_; clear hb hbox hg))
 (try simp only [Act.put, sI, sZ, sS])
 go_cut [11] (fun v11 wc => ∃ (kq : Nat) (x11_2 : Bool) (x161000_2 : Int) (x161001_2 : Int) (x161002_2 : Int) (x162000_2 : Int) (x162001_2 : Int) (x162002_2 : Int), v11 = .bool x11_2 ∧ Aside0 (spec_DifferentPixels.j0 kq x11_2 x161000_2 x161001_2 x161002_2 l0_3 x162000_2 x162001_2 x162002_2 l1_3 = some (r1, r2)) ∧ Aside0 (kq ≤ k) ∧ Aside0 (wc.heap[gb160]? = some (.cells #[.int .i64 x161000_2, .int .i64 x161001_2, .int .i64 x161002_2, (.slice A0_3 l0_3.length c0_3)] 27 (0, 0))) ∧ Aside0 (wc.heap[gb161]? = some (.cells #[.int .i64 x162000_2, .int .i64 x162001_2, .int .i64 x162002_2, (.slice A1_3 l1_3.length c1_3)] 27 (0, 0))) ∧ Aside0 (Below w.heap.size w wc))
 case first =>
  have H := HC3.out
  clear HC3
  replace H := Option.bind_eq_some_iff.mp H
  obtain ⟨t162, A60, H⟩ := H
  replace H : (if t162 = true then ((spec_l22Ok_at.f k [(⟨a1_0, a1_1, a1_2, l1_3⟩ : S27)] 0).bind fun t163 => (spec_DifferentPixels.j0 k (!t163) a0_0 a0_1 a0_2 l0_3 a1_0 a1_1 a1_2 l1_3)) else (spec_DifferentPixels.j0 k true a0_0 a0_1 a0_2 l0_3 a1_0 a1_1 a1_2 l1_3)) = some (r1, r2) := H
  have A6 := aM A60
  clear A60
  by_cases c7 : t162 = true
  ·subst c7
   have H1 : ((spec_l22Ok_at.f k [(⟨a1_0, a1_1, a1_2, l1_3⟩ : S27)] 0).bind fun t163 => (spec_DifferentPixels.j0 k (!t163) a0_0 a0_1 a0_2 l0_3 a1_0 a1_1 a1_2 l1_3)) = some (r1, r2) := by rw [if_pos rfl] at H; exact H
   clear H
   have H := H1
   clear H1
   replace H := Option.bind_eq_some_iff.mp H
   obtain ⟨t163, A80, H⟩ := H
   replace H : (spec_DifferentPixels.j0 k (!t163) a0_0 a0_1 a0_2 l0_3 a1_0 a1_1 a1_2 l1_3) = some (r1, r2) := H
   have A8 := aM A80
   clear A80
   have H' := aM H
   clear H
   have hnb9 := NB160_161.out
   have hnc9 := NB161_160.out
   have hcz10_0 : w5.cell? ⟨gb160, 0, none⟩ = some (.int .i64 a0_0) := (blk_cell BK160.out 0).trans rfl
   have hcz10_1 : w5.cell? ⟨gb160, 1, none⟩ = some (.int .i64 a0_1) := (blk_cell BK160.out 1).trans rfl
   have hcz10_2 : w5.cell? ⟨gb160, 2, none⟩ = some (.int .i64 a0_2) := (blk_cell BK160.out 2).trans rfl
   have hcz10_3 : w5.cell? ⟨gb160, 3, none⟩ = some (.slice A0_3 l0_3.length c0_3) := (blk_cell BK160.out 3).trans rfl
   have hfz10_0 := blk_frozen BK160.out 0
   have hfz10_1 := blk_frozen BK160.out 1
   have hfz10_2 := blk_frozen BK160.out 2
   have hfz10_3 := blk_frozen BK160.out 3
   go_wp2_with (first | ((with_reducible refine gate_callee (f := 27) rfl ?_); refine goesL_ (some 6) rfl rfl Tryd.func27 (by kernel_rfl) rfl #[.pointer (some ⟨gb160, 0, none⟩)] rfl gQ ?_; (with_reducible refine (spec_l22Ok_at.calls k _ [(⟨a0_0, a0_1, a0_2, l0_3⟩ : S27)] 0 true _ ?side1 A6.out).mono ?_); (case side1 => exact RPtr.box (k27_mk _ _ (by exact HC0_3.out) (by repeat (first | exact (Kd.C_below HR0_3.out HB.out) | (with_reducible first | refine cA ?_ _ | refine cN ?_ _ | refine cD ?_)))) (by (with_reducible repeat (first | refine blk_drewN ?_ _ | refine blk_drew ?_ | refine blk_alloc ?_ _)); exact BK160.out) rfl); rintro e w11 ⟨rfl, hb⟩; refine ⟨_, rfl, ?_⟩; have n0_ := aM (blk_below (g := gb160) (o := .cells #[.int .i64 a0_0, .int .i64 a0_1, .int .i64 a0_2, .slice A0_3 l0_3.length c0_3] 27 (0, 0)) (by (with_reducible repeat (first | refine blk_drewN ?_ _ | refine blk_drew ?_ | refine blk_alloc ?_ _)); exact BK160.out) hb); have n1_ := aM (blk_below (g := gb161) (o := .cells #[.int .i64 a1_0, .int .i64 a1_1, .int .i64 a1_2, .slice A1_3 l1_3.length c1_3] 27 (0, 0)) (by (with_reducible repeat (first | refine blk_drewN ?_ _ | refine blk_drew ?_ | refine blk_alloc ?_ _)); exact BK161.out) hb); have n2_ := aM (below_step (by repeat (first | (with_reducible first | exact HB.out | apply bA | apply bN | apply bD | refine below_set ?_ GE160.out | refine below_set ?_ GE161.out) | exact HB.out)) hb); clear BK160; clear BK161; clear HB; have BK160 := n0_; have BK161 := n1_; have HB := n2_; clear n0_ n1_ n2_; (try clear hb); (try clear hb2); (try clear hk); (try clear hi); have hcz12_0 : w11.cell? ⟨gb161, 0, none⟩ = some (.int .i64 a1_0) := (blk_cell BK161.out 0).trans rfl; have hcz12_1 : w11.cell? ⟨gb161, 1, none⟩ = some (.int .i64 a1_1) := (blk_cell BK161.out 1).trans rfl; have hcz12_2 : w11.cell? ⟨gb161, 2, none⟩ = some (.int .i64 a1_2) := (blk_cell BK161.out 2).trans rfl; have hcz12_3 : w11.cell? ⟨gb161, 3, none⟩ = some (.slice A1_3 l1_3.length c1_3) := (blk_cell BK161.out 3).trans rfl; have hfz12_0 := blk_frozen BK161.out 0; have hfz12_1 := blk_frozen BK161.out 1; have hfz12_2 := blk_frozen BK161.out 2; have hfz12_3 := blk_frozen BK161.out 3) | (go_at_call 27; (with_reducible refine (spec_l22Ok_at.calls k _ [(⟨a1_0, a1_1, a1_2, l1_3⟩ : S27)] 0 t163 _ ?side1 A8.out).mono ?_); (case side1 => exact RPtr.box (k27_mk _ _ (by exact HC1_3.out) (by repeat (first | exact (Kd.C_below HR1_3.out HB.out) | (with_reducible first | refine cA ?_ _ | refine cN ?_ _ | refine cD ?_)))) (by (with_reducible repeat (first | refine blk_drewN ?_ _ | refine blk_drew ?_ | refine blk_alloc ?_ _)); exact BK161.out) rfl); rintro e w13 ⟨rfl, hb⟩; have n0_ := aM (blk_below (g := gb160) (o := .cells #[.int .i64 a0_0, .int .i64 a0_1, .int .i64 a0_2, .slice A0_3 l0_3.length c0_3] 27 (0, 0)) (by (with_reducible repeat (first | refine blk_drewN ?_ _ | refine blk_drew ?_ | refine blk_alloc ?_ _)); exact BK160.out) hb); have n1_ := aM (blk_below (g := gb161) (o := .cells #[.int .i64 a1_0, .int .i64 a1_1, .int .i64 a1_2, .slice A1_3 l1_3.length c1_3] 27 (0, 0)) (by (with_reducible repeat (first | refine blk_drewN ?_ _ | refine blk_drew ?_ | refine blk_alloc ?_ _)); exact BK161.out) hb); have n2_ := aM (below_step (by repeat (first | (with_reducible first | exact HB.out | apply bA | apply bN | apply bD | refine below_set ?_ GE160.out | refine below_set ?_ GE161.out) | exact HB.out)) hb); clear BK160; clear BK161; clear HB; have BK160 := n0_; have BK161 := n1_; have HB := n2_; clear n0_ n1_ n2_; (try clear hb); (try clear hb2); (try clear hk); (try clear hi)))
   go_meet
   case rel => exact ⟨_, (!t163), (a0_0), (a0_1), (a0_2), (a1_0), (a1_1), (a1_2), rQ, H', ⟨by first | omega | exact Nat.le_refl _⟩, ⟨by (with_reducible repeat (first | refine blk_drewN ?_ _ | refine blk_drew ?_ | refine blk_alloc ?_ _)); exact BK160.out⟩, ⟨by (with_reducible repeat (first | refine blk_drewN ?_ _ | refine blk_drew ?_ | refine blk_alloc ?_ _)); exact BK161.out⟩, ⟨by repeat (first | (with_reducible first | exact HB.out | apply bA | apply bN | apply bD | refine below_set ?_ GE160.out | refine below_set ?_ GE161.out) | exact HB.out)⟩⟩
  ·replace c7 := Bool.eq_false_iff.mpr c7
   subst c7
   have H1 : (spec_DifferentPixels.j0 k true a0_0 a0_1 a0_2 l0_3 a1_0 a1_1 a1_2 l1_3) = some (r1, r2) := by rw [if_neg (show ¬ (false = true) by decide)] at H; exact H
   clear H
   have H := H1
   clear H1
   have H' := aM H
   clear H
   have hnb14 := NB160_161.out
   have hnc14 := NB161_160.out
   have hcz15_0 : w5.cell? ⟨gb160, 0, none⟩ = some (.int .i64 a0_0) := (blk_cell BK160.out 0).trans rfl
   have hcz15_1 : w5.cell? ⟨gb160, 1, none⟩ = some (.int .i64 a0_1) := (blk_cell BK160.out 1).trans rfl
   have hcz15_2 : w5.cell? ⟨gb160, 2, none⟩ = some (.int .i64 a0_2) := (blk_cell BK160.out 2).trans rfl
   have hcz15_3 : w5.cell? ⟨gb160, 3, none⟩ = some (.slice A0_3 l0_3.length c0_3) := (blk_cell BK160.out 3).trans rfl
   have hfz15_0 := blk_frozen BK160.out 0
   have hfz15_1 := blk_frozen BK160.out 1
   have hfz15_2 := blk_frozen BK160.out 2
   have hfz15_3 := blk_frozen BK160.out 3
   go_wp2_with (first | ((with_reducible refine gate_callee (f := 27) rfl ?_); refine goesL_ (some 6) rfl rfl Tryd.func27 (by kernel_rfl) rfl #[.pointer (some ⟨gb160, 0, none⟩)] rfl gQ ?_; (with_reducible refine (spec_l22Ok_at.calls k _ [(⟨a0_0, a0_1, a0_2, l0_3⟩ : S27)] 0 false _ ?side1 A6.out).mono ?_); (case side1 => exact RPtr.box (k27_mk _ _ (by exact HC0_3.out) (by repeat (first | exact (Kd.C_below HR0_3.out HB.out) | (with_reducible first | refine cA ?_ _ | refine cN ?_ _ | refine cD ?_)))) (by (with_reducible repeat (first | refine blk_drewN ?_ _ | refine blk_drew ?_ | refine blk_alloc ?_ _)); exact BK160.out) rfl); rintro e w16 ⟨rfl, hb⟩; refine ⟨_, rfl, ?_⟩; have n0_ := aM (blk_below (g := gb160) (o := .cells #[.int .i64 a0_0, .int .i64 a0_1, .int .i64 a0_2, .slice A0_3 l0_3.length c0_3] 27 (0, 0)) (by (with_reducible repeat (first | refine blk_drewN ?_ _ | refine blk_drew ?_ | refine blk_alloc ?_ _)); exact BK160.out) hb); have n1_ := aM (blk_below (g := gb161) (o := .cells #[.int .i64 a1_0, .int .i64 a1_1, .int .i64 a1_2, .slice A1_3 l1_3.length c1_3] 27 (0, 0)) (by (with_reducible repeat (first | refine blk_drewN ?_ _ | refine blk_drew ?_ | refine blk_alloc ?_ _)); exact BK161.out) hb); have n2_ := aM (below_step (by repeat (first | (with_reducible first | exact HB.out | apply bA | apply bN | apply bD | refine below_set ?_ GE160.out | refine below_set ?_ GE161.out) | exact HB.out)) hb); clear BK160; clear BK161; clear HB; have BK160 := n0_; have BK161 := n1_; have HB := n2_; clear n0_ n1_ n2_; (try clear hb); (try clear hb2); (try clear hk); (try clear hi)))
   go_meet
   case rel => exact ⟨_, (true), (a0_0), (a0_1), (a0_2), (a1_0), (a1_1), (a1_2), rQ, H', ⟨by first | omega | exact Nat.le_refl _⟩, ⟨by (with_reducible repeat (first | refine blk_drewN ?_ _ | refine blk_drew ?_ | refine blk_alloc ?_ _)); exact BK160.out⟩, ⟨by (with_reducible repeat (first | refine blk_drewN ?_ _ | refine blk_drew ?_ | refine blk_alloc ?_ _)); exact BK161.out⟩, ⟨by repeat (first | (with_reducible first | exact HB.out | apply bA | apply bN | apply bD | refine below_set ?_ GE160.out | refine below_set ?_ GE161.out) | exact HB.out)⟩⟩
 case rest =>
  clear HC3
  try clear c1
  try clear p2
  try clear c7
  try clear c9
  try clear c14
  try clear c16
  try clear hcz10_0
  try clear hcz10_1
  try clear hcz10_2
  try clear hcz10_3
  try clear hcz12_0
  try clear hcz12_1
  try clear hcz12_2
  try clear hcz12_3
  try clear hcz15_0
  try clear hcz15_1
  try clear hcz15_2
  try clear hcz15_3
  try clear hfz10_0
  try clear hfz10_1
  try clear hfz10_2
  try clear hfz10_3
  try clear hfz12_0
  try clear hfz12_1
  try clear hfz12_2
  try clear hfz12_3
  try clear hfz15_0
  try clear hfz15_1
  try clear hfz15_2
  try clear hfz15_3
  obtain ⟨kq, x11_2, x161000_2, x161001_2, x161002_2, x162000_2, x162001_2, x162002_2, rfl, HA, HJ2, BK160, BK161, HB⟩ := hcut
  cases kq with
  | zero => exact absurd HA.out (by simp [spec_DifferentPixels.j0])
  | succ kj2 =>
   have H := HA.out
   clear HA
   simp only [spec_DifferentPixels.j0] at H
   by_cases c17 : x11_2 = true
   ·subst c17
    have H1 : (some (0, 1)) = some (r1, r2) := by rw [if_pos rfl] at H; exact H
    clear H
    have H := H1
    clear H1
    simp only [Option.some.injEq, Prod.mk.injEq] at H
    obtain ⟨rfl, rfl⟩ := H
    go_wp2
    go_ret2
    exact ⟨eQ, by repeat (first | (with_reducible first | exact HB.out | apply bA | apply bN | apply bD | refine below_set ?_ GE160.out | refine below_set ?_ GE161.out) | exact HB.out)⟩
   ·replace c17 := Bool.eq_false_iff.mpr c17
    subst c17
    have H1 : ((spec_l22Only_at.f kj2 [(⟨x161000_2, x161001_2, x161002_2, l0_3⟩ : S27)] 0 [(⟨x162000_2, x162001_2, x162002_2, l1_3⟩ : S27)] 0).bind fun t164 => ((spec_l22Only_at.f kj2 [(⟨x162000_2, x162001_2, x162002_2, l1_3⟩ : S27)] 0 [(⟨x161000_2, x161001_2, x161002_2, l0_3⟩ : S27)] 0).bind fun t165 => (some (wrap64 (t164 + t165), 0)))) = some (r1, r2) := by rw [if_neg (show ¬ (false = true) by decide)] at H; exact H
    clear H
    have H := H1
    clear H1
    replace H := Option.bind_eq_some_iff.mp H
    obtain ⟨t164, A180, H⟩ := H
    replace H : ((spec_l22Only_at.f kj2 [(⟨x162000_2, x162001_2, x162002_2, l1_3⟩ : S27)] 0 [(⟨x161000_2, x161001_2, x161002_2, l0_3⟩ : S27)] 0).bind fun t165 => (some (wrap64 (t164 + t165), 0))) = some (r1, r2) := H
    have A18 := aM A180
    clear A180
    replace H := Option.bind_eq_some_iff.mp H
    obtain ⟨t165, A190, H⟩ := H
    replace H : (some (wrap64 (t164 + t165), 0)) = some (r1, r2) := H
    have A19 := aM A190
    clear A190
    simp only [Option.some.injEq, Prod.mk.injEq] at H
    obtain ⟨rfl, rfl⟩ := H
    have hnb20 := NB160_161.out
    have hnc20 := NB161_160.out
    have hcz21_0 : wc.cell? ⟨gb160, 0, none⟩ = some (.int .i64 x161000_2) := (blk_cell BK160.out 0).trans rfl
    have hcz21_1 : wc.cell? ⟨gb160, 1, none⟩ = some (.int .i64 x161001_2) := (blk_cell BK160.out 1).trans rfl
    have hcz21_2 : wc.cell? ⟨gb160, 2, none⟩ = some (.int .i64 x161002_2) := (blk_cell BK160.out 2).trans rfl
    have hcz21_3 : wc.cell? ⟨gb160, 3, none⟩ = some (.slice A0_3 l0_3.length c0_3) := (blk_cell BK160.out 3).trans rfl
    have hfz21_0 := blk_frozen BK160.out 0
    have hfz21_1 := blk_frozen BK160.out 1
    have hfz21_2 := blk_frozen BK160.out 2
    have hfz21_3 := blk_frozen BK160.out 3
    have hcz22_0 : wc.cell? ⟨gb161, 0, none⟩ = some (.int .i64 x162000_2) := (blk_cell BK161.out 0).trans rfl
    have hcz22_1 : wc.cell? ⟨gb161, 1, none⟩ = some (.int .i64 x162001_2) := (blk_cell BK161.out 1).trans rfl
    have hcz22_2 : wc.cell? ⟨gb161, 2, none⟩ = some (.int .i64 x162002_2) := (blk_cell BK161.out 2).trans rfl
    have hcz22_3 : wc.cell? ⟨gb161, 3, none⟩ = some (.slice A1_3 l1_3.length c1_3) := (blk_cell BK161.out 3).trans rfl
    have hfz22_0 := blk_frozen BK161.out 0
    have hfz22_1 := blk_frozen BK161.out 1
    have hfz22_2 := blk_frozen BK161.out 2
    have hfz22_3 := blk_frozen BK161.out 3
    go_wp2_with (first | ((with_reducible refine gate_callee (f := 36) rfl ?_); refine goesL_ (some 12) rfl rfl Tryd.func36 (by kernel_rfl) rfl #[.pointer (some ⟨gb160, 0, none⟩), .pointer (some ⟨gb161, 0, none⟩)] rfl gQ ?_; (with_reducible refine (spec_l22Only_at.calls kj2 _ [(⟨x161000_2, x161001_2, x161002_2, l0_3⟩ : S27)] 0 _ [(⟨x162000_2, x162001_2, x162002_2, l1_3⟩ : S27)] 0 t164 _ ?side1 ?side2 A18.out).mono ?_); (case side1 => exact RPtr.box (k27_mk _ _ (by exact HC0_3.out) (by repeat (first | exact (Kd.C_below HR0_3.out HB.out) | (with_reducible first | refine cA ?_ _ | refine cN ?_ _ | refine cD ?_)))) (by (with_reducible repeat (first | refine blk_drewN ?_ _ | refine blk_drew ?_ | refine blk_alloc ?_ _)); exact BK160.out) rfl); (case side2 => exact RPtr.box (k27_mk _ _ (by exact HC1_3.out) (by repeat (first | exact (Kd.C_below HR1_3.out HB.out) | (with_reducible first | refine cA ?_ _ | refine cN ?_ _ | refine cD ?_)))) (by (with_reducible repeat (first | refine blk_drewN ?_ _ | refine blk_drew ?_ | refine blk_alloc ?_ _)); exact BK161.out) rfl); rintro e w23 ⟨rfl, hb⟩; refine ⟨_, rfl, ?_⟩; have n0_ := aM (blk_below (g := gb160) (o := .cells #[.int .i64 x161000_2, .int .i64 x161001_2, .int .i64 x161002_2, .slice A0_3 l0_3.length c0_3] 27 (0, 0)) (by (with_reducible repeat (first | refine blk_drewN ?_ _ | refine blk_drew ?_ | refine blk_alloc ?_ _)); exact BK160.out) hb); have n1_ := aM (blk_below (g := gb161) (o := .cells #[.int .i64 x162000_2, .int .i64 x162001_2, .int .i64 x162002_2, .slice A1_3 l1_3.length c1_3] 27 (0, 0)) (by (with_reducible repeat (first | refine blk_drewN ?_ _ | refine blk_drew ?_ | refine blk_alloc ?_ _)); exact BK161.out) hb); have n2_ := aM (below_step (by repeat (first | (with_reducible first | exact HB.out | apply bA | apply bN | apply bD | refine below_set ?_ GE160.out | refine below_set ?_ GE161.out) | exact HB.out)) hb); clear BK160; clear BK161; clear HB; have BK160 := n0_; have BK161 := n1_; have HB := n2_; clear n0_ n1_ n2_; (try clear hb); (try clear hb2); (try clear hk); (try clear hi); have hcz24_0 : w23.cell? ⟨gb161, 0, none⟩ = some (.int .i64 x162000_2) := (blk_cell BK161.out 0).trans rfl; have hcz24_1 : w23.cell? ⟨gb161, 1, none⟩ = some (.int .i64 x162001_2) := (blk_cell BK161.out 1).trans rfl; have hcz24_2 : w23.cell? ⟨gb161, 2, none⟩ = some (.int .i64 x162002_2) := (blk_cell BK161.out 2).trans rfl; have hcz24_3 : w23.cell? ⟨gb161, 3, none⟩ = some (.slice A1_3 l1_3.length c1_3) := (blk_cell BK161.out 3).trans rfl; have hfz24_0 := blk_frozen BK161.out 0; have hfz24_1 := blk_frozen BK161.out 1; have hfz24_2 := blk_frozen BK161.out 2; have hfz24_3 := blk_frozen BK161.out 3; have hcz25_0 : w23.cell? ⟨gb160, 0, none⟩ = some (.int .i64 x161000_2) := (blk_cell BK160.out 0).trans rfl; have hcz25_1 : w23.cell? ⟨gb160, 1, none⟩ = some (.int .i64 x161001_2) := (blk_cell BK160.out 1).trans rfl; have hcz25_2 : w23.cell? ⟨gb160, 2, none⟩ = some (.int .i64 x161002_2) := (blk_cell BK160.out 2).trans rfl; have hcz25_3 : w23.cell? ⟨gb160, 3, none⟩ = some (.slice A0_3 l0_3.length c0_3) := (blk_cell BK160.out 3).trans rfl; have hfz25_0 := blk_frozen BK160.out 0; have hfz25_1 := blk_frozen BK160.out 1; have hfz25_2 := blk_frozen BK160.out 2; have hfz25_3 := blk_frozen BK160.out 3) | ((with_reducible refine gate_callee (f := 36) rfl ?_); refine goesL_ (some 13) rfl rfl Tryd.func36 (by kernel_rfl) rfl #[.pointer (some ⟨gb161, 0, none⟩), .pointer (some ⟨gb160, 0, none⟩)] rfl gQ ?_; (with_reducible refine (spec_l22Only_at.calls kj2 _ [(⟨x162000_2, x162001_2, x162002_2, l1_3⟩ : S27)] 0 _ [(⟨x161000_2, x161001_2, x161002_2, l0_3⟩ : S27)] 0 t165 _ ?side1 ?side2 A19.out).mono ?_); (case side1 => exact RPtr.box (k27_mk _ _ (by exact HC1_3.out) (by repeat (first | exact (Kd.C_below HR1_3.out HB.out) | (with_reducible first | refine cA ?_ _ | refine cN ?_ _ | refine cD ?_)))) (by (with_reducible repeat (first | refine blk_drewN ?_ _ | refine blk_drew ?_ | refine blk_alloc ?_ _)); exact BK161.out) rfl); (case side2 => exact RPtr.box (k27_mk _ _ (by exact HC0_3.out) (by repeat (first | exact (Kd.C_below HR0_3.out HB.out) | (with_reducible first | refine cA ?_ _ | refine cN ?_ _ | refine cD ?_)))) (by (with_reducible repeat (first | refine blk_drewN ?_ _ | refine blk_drew ?_ | refine blk_alloc ?_ _)); exact BK160.out) rfl); rintro e w26 ⟨rfl, hb⟩; refine ⟨_, rfl, ?_⟩; have n0_ := aM (blk_below (g := gb160) (o := .cells #[.int .i64 x161000_2, .int .i64 x161001_2, .int .i64 x161002_2, .slice A0_3 l0_3.length c0_3] 27 (0, 0)) (by (with_reducible repeat (first | refine blk_drewN ?_ _ | refine blk_drew ?_ | refine blk_alloc ?_ _)); exact BK160.out) hb); have n1_ := aM (blk_below (g := gb161) (o := .cells #[.int .i64 x162000_2, .int .i64 x162001_2, .int .i64 x162002_2, .slice A1_3 l1_3.length c1_3] 27 (0, 0)) (by (with_reducible repeat (first | refine blk_drewN ?_ _ | refine blk_drew ?_ | refine blk_alloc ?_ _)); exact BK161.out) hb); have n2_ := aM (below_step (by repeat (first | (with_reducible first | exact HB.out | apply bA | apply bN | apply bD | refine below_set ?_ GE160.out | refine below_set ?_ GE161.out) | exact HB.out)) hb); clear BK160; clear BK161; clear HB; have BK160 := n0_; have BK161 := n1_; have HB := n2_; clear n0_ n1_ n2_; (try clear hb); (try clear hb2); (try clear hk); (try clear hi)))
    go_ret2
    exact ⟨eQ, by repeat (first | (with_reducible first | exact HB.out | apply bA | apply bN | apply bD | refine below_set ?_ GE160.out | refine below_set ?_ GE161.out) | exact HB.out)⟩

/-! ### strings_Trim: function 31, given -/
def strings_Trim.f (a0 : ByteArray) (a1 : ByteArray) : Option (ByteArray) := Go.Proofs.YthngjfipdfckkaaDoor.Gv.trimF a0 a1
theorem strings_Trim.calls (a0 : ByteArray) (a1 : ByteArray) (r : ByteArray) (w : World) (h : strings_Trim.f a0 a1 = some r) :
  Calls Tryd.prog 31 #[.string a0, .string a1] w fun e w' => e = .returned (.string r) ∧ Below w.heap.size w w' := Go.Proofs.YthngjfipdfckkaaDoor.Gv.trimF_calls a0 a1 r w h

/-! ### impl_ValidBitmap_1_at: function 30 -/
def impl_ValidBitmap_1_at.f (a0 : ByteArray) (l1_0 : List (S27)) (a1_1 : Int) : Option (Bool) := if (a0.size : Int) = ((rd_T27 l1_0 a1_1).f2) then ((strings_Trim.f a0 (⟨#[35, 46]⟩ : ByteArray)).bind fun t168 => (some (t168.toList != ([] : List UInt8)))) else (some true)
set_option maxHeartbeats 8000000 in
set_option maxRecDepth 100000 in
theorem impl_ValidBitmap_1_at.calls (a0 : ByteArray) (p1_ : Addr) (l1_0 : List (S27)) (a1_1 : Int) (r : Bool) (w : World) (hP1_ : RPtr k27 ((a1_1 : Int).toNat * 4) w p1_ l1_0 a1_1) (h : impl_ValidBitmap_1_at.f a0 l1_0 a1_1 = some r) :
  Calls Tryd.prog 30 #[.string a0, .pointer (some p1_)] w fun e w' => e = .returned (.bool r) ∧ Below w.heap.size w w' := by
 obtain ⟨ad1_, rfl, hr1_0, hi1_, hj1_⟩ := hP1_
 have hc1_0 : l1_0.length ≤ l1_0.length := Nat.le_refl _
 replace hi1_ := decide_eq_true hi1_
 replace hj1_ := decide_eq_true hj1_
 obtain ⟨ad9010, A9010_3, c9010_3, e9010, HX9010_0, HX9010_1, HX9010_2, HX9010_3, HC9010_3, HR9010_3⟩ := at_T27 hr1_0 a1_1 (of_decide_eq_true hi1_) (of_decide_eq_true hj1_)
 obtain rfl : ad1_ = ad9010 := (by injection e9010)
 replace HX9010_0 := aM HX9010_0
 replace HX9010_1 := aM HX9010_1
 replace HX9010_2 := aM HX9010_2
 replace HX9010_3 := aM HX9010_3
 replace HC9010_3 := aM HC9010_3
 replace HR9010_3 := aM HR9010_3
 have HR1_0 := aM hr1_0
 have HC1_0 := aM hc1_0
 clear hr1_0 hc1_0
 have HB := aM (Below.refl w.heap.size w)
 have H : (if (a0.size : Int) = ((rd_T27 l1_0 a1_1).f2) then ((strings_Trim.f a0 (⟨#[35, 46]⟩ : ByteArray)).bind fun t168 => (some (t168.toList != ([] : List UInt8)))) else (some true)) = some r := h
 clear h
 by_cases c3 : (a0.size : Int) = ((rd_T27 l1_0 a1_1).f2)
 ·rw [if_pos c3] at H
  have c3b0 : ((a0.size : Int) == ((rd_T27 l1_0 a1_1).f2)) = true := beq_iff_eq.mpr c3
  have c3b1 : ((a0.size : Int) != ((rd_T27 l1_0 a1_1).f2)) = false := bne_eq_false_iff_eq.mpr c3
  clear c3
  replace H := Option.bind_eq_some_iff.mp H
  obtain ⟨t168, A40, H⟩ := H
  replace H : (some (t168.toList != ([] : List UInt8))) = some r := H
  have A4 := aM A40
  clear A40
  obtain rfl := Option.some.inj H
  have hx167_0 := HX9010_0.out
  have hx167_1 := HX9010_1.out
  have hx167_2 := HX9010_2.out
  have hx167_3 := HX9010_3.out
  have HR167_3 := HR9010_3
  have HC167_3 := HC9010_3
  go_enter Tryd.func30, Tryd.ntmps30
  go_wp2_with (first | (go_at_call 31; (with_reducible refine (strings_Trim.calls a0 (⟨#[35, 46]⟩ : ByteArray) t168 _ A4.out).mono ?_); rintro e w5 ⟨rfl, hb⟩; have n0_ := aM (below_step bQ hb); clear HB; have HB := n0_; clear n0_; (try clear hb); (try clear hb2); (try clear hk); (try clear hi)))
  go_ret
  exact ⟨eQ, bQ⟩
 ·rw [if_neg c3] at H
  have c3b0 : ((a0.size : Int) == ((rd_T27 l1_0 a1_1).f2)) = false := beq_eq_false_iff_ne.mpr c3
  have c3b1 : ((a0.size : Int) != ((rd_T27 l1_0 a1_1).f2)) = true := bne_iff_ne.mpr c3
  obtain rfl := Option.some.inj H
  have hx167_0 := HX9010_0.out
  have hx167_1 := HX9010_1.out
  have hx167_2 := HX9010_2.out
  have hx167_3 := HX9010_3.out
  have HR167_3 := HR9010_3
  have HC167_3 := HC9010_3
  go_enter Tryd.func30, Tryd.ntmps30
  go_wp2
  go_ret
  exact ⟨eQ, bQ⟩

/-! ### slices_IndexFunc_string_string_by_impl_ValidBitmap_1: function 51 -/
def slices_IndexFunc_string_string_by_impl_ValidBitmap_1.l0 : Nat → List ByteArray → Int → Int → List (S27) → Int → Option (Int)
 | 0, _, _, _, _, _ => none
 | k + 1, x0, x7, x8, x1016, x1017 => if x8 < x7 then (if 0 ≤ x8 then (if x8 < (x0.length : Int) then ((impl_ValidBitmap_1_at.f (rdOf ByteArray.empty x0 x8) x1016 x1017).bind fun t170 => (if t170 = true then (some x8) else (slices_IndexFunc_string_string_by_impl_ValidBitmap_1.l0 k x0 x7 (wrap64 (x8 + 1)) x1016 x1017))) else (none)) else (none)) else (some (-1))
def slices_IndexFunc_string_string_by_impl_ValidBitmap_1.f (k : Nat) (l0 : List ByteArray) (l1_0 : List (S27)) (a1_1 : Int) : Option (Int) := slices_IndexFunc_string_string_by_impl_ValidBitmap_1.l0 k l0 (l0.length : Int) 0 l1_0 a1_1
theorem slices_IndexFunc_string_string_by_impl_ValidBitmap_1.mono_l : ∀ k, (∀ y0 y1 y2 y3 y4, LeO (slices_IndexFunc_string_string_by_impl_ValidBitmap_1.l0 k y0 y1 y2 y3 y4) (slices_IndexFunc_string_string_by_impl_ValidBitmap_1.l0 (k + 1) y0 y1 y2 y3 y4))
 | 0 => fun _ _ _ _ _ r h => by simp [slices_IndexFunc_string_string_by_impl_ValidBitmap_1.l0] at h
 | k + 1 => by
  have ih0 := slices_IndexFunc_string_string_by_impl_ValidBitmap_1.mono_l k
  ·intro y0 y1 y2 y3 y4
   unfold slices_IndexFunc_string_string_by_impl_ValidBitmap_1.l0
   repeat' first
   | (with_reducible exact ih0 _ _ _ _ _)
   | (with_reducible exact LeO.refl _)
   | (with_reducible exact LeO.none _)
   | (with_reducible refine LeO.ite ?_ ?_)
   | (with_reducible refine LeO.bind ?_ (fun _ => ?_))
   | exact ih0 _ _ _ _ _
   | exact LeO.none _
   | refine LeO.ite ?_ ?_
   | refine LeO.bind ?_ (fun _ => ?_)
theorem slices_IndexFunc_string_string_by_impl_ValidBitmap_1.mono : ∀ a0 a1 a2 k, LeO (slices_IndexFunc_string_string_by_impl_ValidBitmap_1.f k a0 a1 a2) (slices_IndexFunc_string_string_by_impl_ValidBitmap_1.f (k + 1) a0 a1 a2) := by
 intro a0 a1 a2 k
 have ih0 := slices_IndexFunc_string_string_by_impl_ValidBitmap_1.mono_l k
 unfold slices_IndexFunc_string_string_by_impl_ValidBitmap_1.f
 repeat' first
   | (with_reducible exact ih0 _ _ _ _ _)
   | (with_reducible exact LeO.refl _)
   | (with_reducible exact LeO.none _)
   | (with_reducible refine LeO.ite ?_ ?_)
   | (with_reducible refine LeO.bind ?_ (fun _ => ?_))
   | exact ih0 _ _ _ _ _
   | exact LeO.none _
   | refine LeO.ite ?_ ?_
   | refine LeO.bind ?_ (fun _ => ?_)
set_option maxHeartbeats 8000000 in
set_option maxRecDepth 100000 in
theorem slices_IndexFunc_string_string_by_impl_ValidBitmap_1.calls (k : Nat) (A0 : Option Addr) (c0 : Nat) (l0 : List ByteArray) (p1_ : Addr) (l1_0 : List (S27)) (a1_1 : Int) (r : Int) (w : World) (hr0 : Kd.C Kd.string w A0 l0.length l0) (hc0 : l0.length ≤ c0) (hP1_ : RPtr k27 ((a1_1 : Int).toNat * 4) w p1_ l1_0 a1_1) (h : slices_IndexFunc_string_string_by_impl_ValidBitmap_1.f k l0 l1_0 a1_1 = some r) :
  Calls Tryd.prog 51 #[.slice A0 l0.length c0, .func (.func 30) #[] #[.pointer (some p1_)]] w fun e w' => e = .returned (.int .i64 r) ∧ Below w.heap.size w w' := by
 obtain ⟨ad1_, rfl, hr1_0, hi1_, hj1_⟩ := hP1_
 have hc1_0 : l1_0.length ≤ l1_0.length := Nat.le_refl _
 replace hi1_ := decide_eq_true hi1_
 replace hj1_ := decide_eq_true hj1_
 obtain ⟨ad9010, A9010_3, c9010_3, e9010, HX9010_0, HX9010_1, HX9010_2, HX9010_3, HC9010_3, HR9010_3⟩ := at_T27 hr1_0 a1_1 (of_decide_eq_true hi1_) (of_decide_eq_true hj1_)
 obtain rfl : ad1_ = ad9010 := (by injection e9010)
 replace HX9010_0 := aM HX9010_0
 replace HX9010_1 := aM HX9010_1
 replace HX9010_2 := aM HX9010_2
 replace HX9010_3 := aM HX9010_3
 replace HC9010_3 := aM HC9010_3
 replace HR9010_3 := aM HR9010_3
 have HR0 := aM hr0
 have HC0 := aM hc0
 clear hr0 hc0
 have HR1_0 := aM hr1_0
 have HC1_0 := aM hc1_0
 clear hr1_0 hc1_0
 have HB := aM (Below.refl w.heap.size w)
 have H : (slices_IndexFunc_string_string_by_impl_ValidBitmap_1.l0 k l0 (l0.length : Int) 0 l1_0 a1_1) = some r := h
 clear h
 have H' := aM H
 clear H
 go_enter Tryd.func51, Tryd.ntmps51
 go_wp2
 go_loopg [8] k (fun kq v8 w' => ∃ (x8_1 : Int), v8 = .int .i64 x8_1 ∧ Aside0 (slices_IndexFunc_string_string_by_impl_ValidBitmap_1.l0 kq l0 (l0.length : Int) x8_1 l1_0 a1_1 = some r) ∧ Aside0 (kq ≤ k) ∧ Aside0 (Below w.heap.size w w'))
 case atStart => exact ⟨(0), rQ, H', ⟨Nat.le_refl _⟩, ⟨bQ⟩⟩
 case round =>
  clear H'
  try clear c1
  try clear p2
  obtain ⟨x8_1, rfl, HA, HK1, HB⟩ := hrel
  cases gk with
  | zero => exact absurd HA.out (by simp [slices_IndexFunc_string_string_by_impl_ValidBitmap_1.l0])
  | succ k1 =>
   have H := HA.out
   clear HA
   simp only [slices_IndexFunc_string_string_by_impl_ValidBitmap_1.l0] at H
   by_cases c3 : x8_1 < (l0.length : Int)
   ·rw [if_pos c3] at H
    have c3b0 : decide (x8_1 < (l0.length : Int)) = true := decide_eq_true c3
    clear c3
    by_cases c4 : 0 ≤ x8_1
    ·rw [if_pos c4] at H
     have c4b0 : decide (0 ≤ x8_1) = true := decide_eq_true c4
     clear c4
     by_cases c5 : x8_1 < (l0.length : Int)
     ·rw [if_pos c5] at H
      have c5b0 : decide (x8_1 < (l0.length : Int)) = true := decide_eq_true c5
      clear c5
      replace H := Option.bind_eq_some_iff.mp H
      obtain ⟨t170, A60, H⟩ := H
      replace H : (if t170 = true then (some x8_1) else (slices_IndexFunc_string_string_by_impl_ValidBitmap_1.l0 k1 l0 (l0.length : Int) (wrap64 (x8_1 + 1)) l1_0 a1_1)) = some r := H
      have A6 := aM A60
      clear A60
      by_cases c7 : t170 = true
      ·subst c7
       have H1 : (some x8_1) = some r := by rw [if_pos rfl] at H; exact H
       clear H
       have H := H1
       clear H1
       obtain rfl := Option.some.inj H
       have p169 : 0 ≤ (x8_1 : Int) := dA
       have q169 : x8_1 < (l0.length : Int) := dA
       obtain ⟨ad169, e169, hx169_0⟩ := Kd.at_string HR0.out x8_1 p169 q169
       cases e169
       replace hx169_0 := cB HB.out hx169_0
       replace p169 := eq_true p169
       replace q169 := eq_true q169
       go_wp2_with (first | (go_at_call 30; (with_reducible refine (impl_ValidBitmap_1_at.calls (rdOf ByteArray.empty l0 x8_1) _ l1_0 a1_1 true _ ?side1 A6.out).mono ?_); (case side1 => refine RPtr.mk_ (by repeat (first | exact (Kd.C_below HR1_0.out HB.out) | (with_reducible first | refine cA ?_ _ | refine cN ?_ _ | refine cD ?_))) (by first | rfl | exact (Addr.add_zero' _).symm) (by first | omega | exact dA | simp_all) (by first | exact dA | omega | simp_all)); rintro e w8 ⟨rfl, hb⟩; have n0_ := aM (below_step bQ hb); clear HB; have HB := n0_; clear n0_; (try clear hb); (try clear hb2); (try clear hk); (try clear hi)))
       go_ret
       exact ⟨eQ, bQ⟩
      ·replace c7 := Bool.eq_false_iff.mpr c7
       subst c7
       have H1 : (slices_IndexFunc_string_string_by_impl_ValidBitmap_1.l0 k1 l0 (l0.length : Int) (wrap64 (x8_1 + 1)) l1_0 a1_1) = some r := by rw [if_neg (show ¬ (false = true) by decide)] at H; exact H
       clear H
       have H := H1
       clear H1
       have H' := aM H
       clear H
       have p169 : 0 ≤ (x8_1 : Int) := dA
       have q169 : x8_1 < (l0.length : Int) := dA
       obtain ⟨ad169, e169, hx169_0⟩ := Kd.at_string HR0.out x8_1 p169 q169
       cases e169
       replace hx169_0 := cB HB.out hx169_0
       replace p169 := eq_true p169
       replace q169 := eq_true q169
       go_wp2_with (first | (go_at_call 30; (with_reducible refine (impl_ValidBitmap_1_at.calls (rdOf ByteArray.empty l0 x8_1) _ l1_0 a1_1 false _ ?side1 A6.out).mono ?_); (case side1 => refine RPtr.mk_ (by repeat (first | exact (Kd.C_below HR1_0.out HB.out) | (with_reducible first | refine cA ?_ _ | refine cN ?_ _ | refine cD ?_))) (by first | rfl | exact (Addr.add_zero' _).symm) (by first | omega | exact dA | simp_all) (by first | exact dA | omega | simp_all)); rintro e w9 ⟨rfl, hb⟩; have n0_ := aM (below_step bQ hb); clear HB; have HB := n0_; clear n0_; (try clear hb); (try clear hb2); (try clear hk); (try clear hi)))
       go_roundg k1
       case measure => have := HK1.out; omega
       case rel => exact ⟨(wrap64 (x8_1 + 1)), rQ, H', ⟨by have := HK1.out; omega⟩, ⟨bQ⟩⟩
     ·rw [if_neg c5] at H
      exact absurd H (by simp)
    ·rw [if_neg c4] at H
     exact absurd H (by simp)
   ·rw [if_neg c3] at H
    have c3b0 : decide (x8_1 < (l0.length : Int)) = false := decide_eq_false c3
    clear c3
    obtain rfl := Option.some.inj H
    go_wp2
    go_ret
    exact ⟨eQ, bQ⟩

end Go.Proofs.YthngjfipdfckkaaDoor.QFnExactDifferentPixels
