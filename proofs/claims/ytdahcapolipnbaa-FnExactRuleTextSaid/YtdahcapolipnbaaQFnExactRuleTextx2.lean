/- What some Go functions answer, each as a Lean function, and that the machine answers so: written by a program of this session out of the translation. -/
import Derived.Test.YtdahcapolipnbaaQFnExactRuleTextx0
namespace Go.Proofs.Ytdahcapolipnbaa.QFnExactRuleText
open Go.RowKit Go.Proofs.YtdahcapolipnbaaW.PrintWords Go.Proofs.YtdahcapolipnbaaW.PrintLast Go.Proofs.YtdahcapolipnbaaW.PrintMore Go.Proofs.Ytdahcapolipnbaa.Rp
attribute [local go_sem] max2_int min2_int max_two min_two max_three min_three max_four min_four   -- for this text's walks alone
set_option linter.unusedVariables false
set_option linter.unusedSimpArgs false

/-! ### spec_l23Ranges: function 117 -/
abbrev mkspec_l342_0 : Array Bool := #[ff,ff,ff,ff,ff,ff,ff,ff,ff,ff,ff,ff,ff,ff,ff]
abbrev mkspec_l342_1 : Array Bool := #[tt,ff,ff,ff,ff,ff,ff,ff,ff,ff,ff,ff,ff,ff,ff]
abbrev mkspec_l342_2 : Array Bool := #[tt,tt,ff,ff,ff,ff,ff,ff,ff,ff,ff,ff,ff,ff,ff]
abbrev mkspec_l342_3 : Array Bool := #[tt,tt,tt,ff,ff,ff,ff,ff,ff,ff,ff,ff,ff,ff,ff]
abbrev mkspec_l342_4 : Array Bool := #[tt,tt,tt,tt,ff,ff,ff,ff,ff,ff,ff,ff,ff,ff,ff]
abbrev mkspec_l342_5 : Array Bool := #[tt,tt,tt,tt,tt,ff,ff,ff,ff,ff,ff,ff,ff,ff,ff]
abbrev mkspec_l342_6 : Array Bool := #[tt,tt,tt,tt,tt,tt,ff,ff,ff,ff,ff,ff,ff,ff,ff]
abbrev mkspec_l342_7 : Array Bool := #[tt,tt,tt,tt,tt,tt,ff,tt,ff,ff,ff,ff,ff,ff,ff]
abbrev mkspec_l342_8 : Array Bool := #[tt,tt,tt,tt,tt,tt,tt,ff,ff,ff,ff,ff,ff,ff,ff]
abbrev mkspec_l342_9 : Array Bool := #[tt,tt,tt,tt,tt,tt,ff,tt,tt,ff,ff,ff,ff,ff,ff]
abbrev mkspec_l342_10 : Array Bool := #[tt,tt,tt,tt,tt,tt,tt,tt,ff,ff,ff,ff,ff,ff,ff]
abbrev mkspec_l342_11 : Array Bool := #[tt,tt,tt,tt,tt,tt,ff,tt,tt,tt,ff,ff,ff,ff,ff]
abbrev mkspec_l342_12 : Array Bool := #[tt,tt,tt,tt,tt,tt,tt,tt,tt,ff,ff,ff,ff,ff,ff]
abbrev mkspec_l342_13 : Array Bool := #[tt,tt,tt,tt,tt,tt,ff,tt,tt,tt,tt,ff,ff,ff,ff]
abbrev mkspec_l342_14 : Array Bool := #[tt,tt,tt,tt,tt,tt,tt,tt,tt,tt,ff,ff,ff,ff,ff]
abbrev mkspec_l342_15 : Array Bool := #[tt,tt,tt,tt,tt,tt,tt,tt,tt,tt,tt,ff,ff,ff,ff]
abbrev mkspec_l342_16 : Array Bool := #[tt,tt,tt,tt,tt,tt,tt,tt,tt,tt,tt,tt,ff,ff,ff]
abbrev mkspec_l342_17 : Array Bool := #[tt,tt,tt,tt,tt,tt,tt,tt,tt,tt,tt,tt,tt,ff,ff]
abbrev mkspec_l342_18 : Array Bool := #[tt,tt,tt,tt,tt,tt,tt,tt,tt,tt,tt,tt,tt,tt,ff]
abbrev mkspec_l342_19 : Array Bool := #[ff,ff,ff,ff,ff,ff,ff,ff,ff,ff,ff,ff,ff]
abbrev mkspec_l342_20 : Array Bool := #[tt,tt,tt,tt,tt,tt,tt,tt,tt,tt,tt,tt,tt,tt,tt]
abbrev mkspec_l342_21 : Array Bool := #[tt,ff,ff,ff,ff,ff,ff,ff,ff,ff,ff,ff,ff]
abbrev mkspec_l342_22 : Array Bool := #[tt,tt,ff,ff,ff,ff,ff,ff,ff,ff,ff,ff,ff]
abbrev mkspec_l342_23 : Array Bool := #[tt,tt,tt,ff,ff,ff,ff,ff,ff,ff,ff,ff,ff]
abbrev mkspec_l342_24 : Array Bool := #[tt,tt,tt,tt,ff,ff,ff,ff,ff,ff,ff,ff,ff]
abbrev mkspec_l342_25 : Array Bool := #[tt,tt,tt,tt,ff,tt,ff,ff,ff,ff,ff,ff,ff]
abbrev mkspec_l342_26 : Array Bool := #[tt,tt,tt,tt,ff,tt,tt,ff,ff,ff,ff,ff,ff]
abbrev mkspec_l342_27 : Array Bool := #[tt,tt,tt,tt,ff,tt,tt,tt,ff,ff,ff,ff,ff]
abbrev mkspec_l342_28 : Array Bool := #[tt,tt,tt,tt,tt,tt,tt,tt,ff,ff,ff,ff,ff]
abbrev mkspec_l342_29 : Array Bool := #[tt,tt,tt,tt,tt,tt,tt,tt,tt,ff,ff,ff,ff]
abbrev mkspec_l342_30 : Array Bool := #[tt,tt,tt,tt,tt,tt,tt,tt,tt,tt,ff,ff,ff]
abbrev mkspec_l342_31 : Array Bool := #[tt,tt,tt,tt,tt,tt,tt,tt,tt,tt,tt,ff,ff]
abbrev mkspec_l342_32 : Array Bool := #[tt,tt,tt,tt,tt,tt,tt,tt,tt,tt,tt,tt,ff]
abbrev mkspec_l342_33 : Array Bool := #[tt,tt,tt,tt,tt,tt,tt,tt,tt,tt,tt,tt,tt]
def spec_l23Ranges.l0 : Nat → List Int → List (S92) → Int → Option ((List (S92)))
 | 0, _, _, _ => none
 | k + 1, x0, x3, x4 => if x4 < (x0.length : Int) then (if x4 > 0 then (if 0 ≤ x4 then (if 0 ≤ (wrap64 (x4 - 1)) then (if (wrap64 (x4 - 1)) < (x0.length : Int) then (if (rd x0 x4) = (wrap64 ((rd x0 (wrap64 (x4 - 1))) + 1)) then (if 0 ≤ (wrap64 ((x3.length : Int) - 1)) then (if (wrap64 ((x3.length : Int) - 1)) < (x3.length : Int) then (spec_l23Ranges.l0 k x0 (x3.set ((wrap64 ((x3.length : Int) - 1)) : Int).toNat (⟨(rd_T92 x3 (wrap64 ((x3.length : Int) - 1))).f0, rd x0 x4⟩ : S92)) (wrap64 (x4 + 1))) else (none)) else (none)) else (if x3.length < 8796093022208 then (spec_l23Ranges.l0 k x0 (x3 ++ [(⟨rd x0 x4, rd x0 x4⟩ : S92)]) (wrap64 (x4 + 1))) else (none))) else (none)) else (none)) else (none)) else (if 0 ≤ x4 then (if x3.length < 8796093022208 then (spec_l23Ranges.l0 k x0 (x3 ++ [(⟨rd x0 x4, rd x0 x4⟩ : S92)]) (wrap64 (x4 + 1))) else (none)) else (none))) else (some x3)
def spec_l23Ranges.f (k : Nat) (l0 : List Int) : Option ((List (S92))) := spec_l23Ranges.l0 k l0 (([] : List (S92))) 0
theorem spec_l23Ranges.mono_l : ∀ k, (∀ y0 y1 y2, LeO (spec_l23Ranges.l0 k y0 y1 y2) (spec_l23Ranges.l0 (k + 1) y0 y1 y2))
 | 0 => fun _ _ _ r h => by simp [spec_l23Ranges.l0] at h
 | k + 1 => by
  have ih0 := spec_l23Ranges.mono_l k
  ·intro y0 y1 y2
   unfold spec_l23Ranges.l0
   repeat' first
   | (with_reducible exact ih0 _ _ _)
   | (with_reducible exact LeO.refl _)
   | (with_reducible exact LeO.none _)
   | (with_reducible refine LeO.ite ?_ ?_)
   | (with_reducible refine LeO.bind ?_ (fun _ => ?_))
   | exact ih0 _ _ _
   | exact LeO.none _
   | refine LeO.ite ?_ ?_
   | refine LeO.bind ?_ (fun _ => ?_)
theorem spec_l23Ranges.mono : ∀ a0 k, LeO (spec_l23Ranges.f k a0) (spec_l23Ranges.f (k + 1) a0) := by
 intro a0 k
 have ih0 := spec_l23Ranges.mono_l k
 unfold spec_l23Ranges.f
 repeat' first
   | (with_reducible exact ih0 _ _ _)
   | (with_reducible exact LeO.refl _)
   | (with_reducible exact LeO.none _)
   | (with_reducible refine LeO.ite ?_ ?_)
   | (with_reducible refine LeO.bind ?_ (fun _ => ?_))
   | exact ih0 _ _ _
   | exact LeO.none _
   | refine LeO.ite ?_ ?_
   | refine LeO.bind ?_ (fun _ => ?_)
def spec_l23Ranges.T5 : Bool × List (List Nat × List Nat) := (true, [([], []), ([0], [0]), ([1], [1]), ([2], [2]), ([2], [2]), ([3, 4, 2], [2, 3, 4]), ([5, 2], [2, 5]), ([2], [2]), ([2], [2]), ([8, 2], [2, 8]), ([7, 9, 2], [2, 7, 9]), ([10, 2], [2, 10]), ([11, 2], [2, 11]), ([6, 12, 2], [2, 6, 12]), ([2, 13], [2, 13])])
def spec_l23Ranges.B5 : List Nat := [0, 1, 3, 7, 7, 31, 63, 7, 7, 263, 903, 1927, 3975, 8191, 16383]
theorem spec_l23Ranges.tab5 : rtab .any (opsOf Try.f117 5) = spec_l23Ranges.T5 := by kernel_rfl
theorem spec_l23Ranges.bits5 : waitsOk spec_l23Ranges.T5.2 spec_l23Ranges.B5 = true := by kernel_rfl
def spec_l23Ranges.T7 : Bool × List (List Nat × List Nat) := (true, [([], []), ([], []), ([], []), ([1, 2], [1, 2]), ([3], [3]), ([], []), ([], []), ([5, 6], [5, 6]), ([7], [7]), ([4, 8], [4, 8]), ([9], [9]), ([0, 10], [0, 10]), ([11, 11, 0, 1, 2, 3, 4, 5, 6, 7, 8, 9, 10, 11], [0, 11])])
def spec_l23Ranges.B7 : List Nat := [0, 0, 0, 6, 14, 0, 0, 96, 224, 510, 1022, 2047, 4095]
theorem spec_l23Ranges.tab7 : rtab .any (opsOf Try.f117 7) = spec_l23Ranges.T7 := by kernel_rfl
theorem spec_l23Ranges.bits7 : waitsOk spec_l23Ranges.T7.2 spec_l23Ranges.B7 = true := by kernel_rfl
set_option maxHeartbeats 8000000 in
set_option maxRecDepth 100000 in
theorem spec_l23Ranges.calls (k : Nat) (A0 : Option Addr) (c0 : Nat) (l0 : List Int) (r : List (S92)) (w : World) (hr0 : Kd.C (Kd.int .i64) w A0 l0.length l0) (hc0 : l0.length ≤ c0) (h : spec_l23Ranges.f k l0 = some r) :
  Calls Try.prog 117 #[.slice A0 l0.length c0] w fun e w' => ∃ v0_ : Value, e = .returned (v0_) ∧ Kd.R k92 92 w' w.heap.size (fun _ => True) v0_ r ∧ Below w.heap.size w w' := by
 have hu92 := Try.underlying92
 have HR0 := aM hr0
 have HC0 := aM hc0
 clear hr0 hc0
 have HB := aM (Below.refl w.heap.size w)
 have H : (spec_l23Ranges.l0 k l0 (([] : List (S92))) 0) = some r := h
 clear h
 obtain ⟨y121, hy121⟩ : ∃ y_ : List (S92), y_ = (([] : List (S92))) := ⟨_, rfl⟩
 replace H : (spec_l23Ranges.l0 k l0 y121 0) = some r := by first | (rw [hy121]; with_reducible exact H) | (have H2_ := bS H; rw [hy121]; with_reducible exact H2_) | (have H2_ := bS H; with_reducible exact H2_) | with_reducible exact H | (rw [hy121]; exact H) | exact H
 have Ny121 := aM hy121
 clear hy121
 have H' := aM H
 clear H
 go_enter Try.func117, Try.ntmps117
 go_wp2_with (first | ((with_reducible refine gate_dst (N := 5) rfl ?_); refine Kd.R_lit k92 _ 92 ?hg (N := 5) ?hd (xs := ([] : List (S92))) (inner := []) (ok := fun _ => True) (okp := fun _ => True) ?hr ?hp (fun _ hk => hk) trivial (Below.refl _ _) (Nat.le_refl _) (by simp) ?_; (case hd => rfl); (case hg => rfl); (case hr => first | (go_simp; done) | (go_simp; rfl)); (case hp => exact (Reps.none _ _)); intro v122 w2 ho3 hb hg_ hnew_; clear hg_ hnew_; (first | rw [← Ny121.out] at ho3 | (simp only [Int.reduceToNat] at ho3; rw [← Ny121.out] at ho3)); have n0_ := aM (Kd.R_lower ho3 (below_size bQ)); have n1_ := aM (below_step bQ hb); clear HB; have HO123 := n0_; have HB := n1_; clear n0_ n1_; clear hb ho3))
 go_loopg [3, 4] k (fun kq v3 v4 w' => ∃ (x3_1 : List (S92)) (x4_1 : Int), v4 = .int .i64 x4_1 ∧ Aside0 (spec_l23Ranges.l0 kq l0 x3_1 x4_1 = some r) ∧ Aside0 (kq ≤ k) ∧ Aside0 (Kd.R k92 92 w' w.heap.size (fun _ => True) v3 x3_1) ∧ Aside0 (Below w.heap.size w w'))
 case atStart => exact ⟨(y121), (0), rQ, H', ⟨Nat.le_refl _⟩, ⟨by (with_reducible repeat (first | apply rA | apply rN | apply rD)); exact HO123.out⟩, ⟨bQ⟩⟩
 case round =>
  clear H'
  try clear c1
  try clear p2
  obtain ⟨x3_1, x4_1, rfl, HA, HK1, HO_3, HB⟩ := hrel
  cases gk with
  | zero => exact absurd HA.out (by simp [spec_l23Ranges.l0])
  | succ k1 =>
   have H := HA.out
   clear HA
   simp only [spec_l23Ranges.l0] at H
   by_cases c4 : x4_1 < (l0.length : Int)
   ·rw [if_pos c4] at H
    have c4b0 : decide (x4_1 < (l0.length : Int)) = true := decide_eq_true c4
    clear c4
    by_cases c5 : x4_1 > 0
    ·rw [if_pos c5] at H
     have c5b0 : decide (0 < x4_1) = true := decide_eq_true c5
     clear c5
     by_cases c6 : 0 ≤ x4_1
     ·rw [if_pos c6] at H
      have c6b0 : decide (0 ≤ x4_1) = true := decide_eq_true c6
      clear c6
      obtain ⟨ji7, hji7⟩ : ∃ j_ : Int, (wrap64 (x4_1 - 1)) = j_ := ⟨_, rfl⟩
      replace H : (if 0 ≤ (ji7) then (if (ji7) < (l0.length : Int) then (if (rd l0 x4_1) = (wrap64 ((rd l0 (ji7)) + 1)) then (if 0 ≤ (wrap64 ((x3_1.length : Int) - 1)) then (if (wrap64 ((x3_1.length : Int) - 1)) < (x3_1.length : Int) then (spec_l23Ranges.l0 k1 l0 (x3_1.set ((wrap64 ((x3_1.length : Int) - 1)) : Int).toNat (⟨(rd_T92 x3_1 (wrap64 ((x3_1.length : Int) - 1))).f0, rd l0 x4_1⟩ : S92)) (wrap64 (x4_1 + 1))) else (none)) else (none)) else (if x3_1.length < 8796093022208 then (spec_l23Ranges.l0 k1 l0 (x3_1 ++ [(⟨rd l0 x4_1, rd l0 x4_1⟩ : S92)]) (wrap64 (x4_1 + 1))) else (none))) else (none)) else (none)) = some r := by first | (rw [hji7] at H; exact H) | (simp only [hji7] at H ⊢; exact H)
      have hji7w : (IntKind.i64.wrap (x4_1 - 1)) = ji7 := (i64_w _).trans hji7
      by_cases c8 : 0 ≤ (ji7)
      ·rw [if_pos c8] at H
       have c8b0 : decide (0 ≤ (ji7)) = true := decide_eq_true c8
       clear c8
       by_cases c9 : (ji7) < (l0.length : Int)
       ·rw [if_pos c9] at H
        have c9b0 : decide ((ji7) < (l0.length : Int)) = true := decide_eq_true c9
        clear c9
        by_cases c10 : (rd l0 x4_1) = (wrap64 ((rd l0 (ji7)) + 1))
        ·rw [if_pos c10] at H
         have c10b0 : ((rd l0 x4_1) == (wrap64 ((rd l0 (ji7)) + 1))) = true := beq_iff_eq.mpr c10
         have c10b1 : ((rd l0 x4_1) != (wrap64 ((rd l0 (ji7)) + 1))) = false := bne_eq_false_iff_eq.mpr c10
         clear c10
         obtain ⟨ji11, hji11⟩ : ∃ j_ : Int, (wrap64 ((x3_1.length : Int) - 1)) = j_ := ⟨_, rfl⟩
         replace H : (if 0 ≤ (ji11) then (if (ji11) < (x3_1.length : Int) then (spec_l23Ranges.l0 k1 l0 (x3_1.set ((ji11) : Int).toNat (⟨(rd_T92 x3_1 (ji11)).f0, rd l0 x4_1⟩ : S92)) (wrap64 (x4_1 + 1))) else (none)) else (none)) = some r := by first | (rw [hji11] at H; exact H) | (simp only [hji11] at H ⊢; exact H)
         have hji11w : (IntKind.i64.wrap ((x3_1.length : Int) - 1)) = ji11 := (i64_w _).trans hji11
         by_cases c12 : 0 ≤ (ji11)
         ·rw [if_pos c12] at H
          have c12b0 : decide (0 ≤ (ji11)) = true := decide_eq_true c12
          clear c12
          by_cases c13 : (ji11) < (x3_1.length : Int)
          ·rw [if_pos c13] at H
           have c13b0 : decide ((ji11) < (x3_1.length : Int)) = true := decide_eq_true c13
           clear c13
           obtain ⟨y127, hy127⟩ : ∃ y_ : List (S92), y_ = (x3_1.set ((ji11) : Int).toNat (⟨(rd_T92 x3_1 (ji11)).f0, rd l0 x4_1⟩ : S92)) := ⟨_, rfl⟩
           replace H : (spec_l23Ranges.l0 k1 l0 y127 (wrap64 (x4_1 + 1))) = some r := by first | (rw [hy127]; with_reducible exact H) | (have H2_ := bS H; rw [hy127]; with_reducible exact H2_) | (have H2_ := bS H; with_reducible exact H2_) | with_reducible exact H | (rw [hy127]; exact H) | exact H
           have Ny127 := aM hy127
           clear hy127
           have H' := aM H
           clear H
           try go_wp2
           have n0_ := aM (Kd.R_drew HO_3.out)
           have n1_ := aM (below_drew1 HB.out)
           clear HO_3
           clear HB
           have HO_3 := n0_
           have HB := n1_
           clear n0_ n1_
           have p124 : 0 ≤ (x4_1 : Int) := dA
           have q124 : x4_1 < (l0.length : Int) := dA
           obtain ⟨ad124, e124, hx124_0⟩ := Kd.at_int HR0.out x4_1 p124 q124
           have hw124_0 := hx124_0
           cases e124
           replace hx124_0 := cB HB.out hx124_0
           replace p124 := eq_true p124
           replace q124 := eq_true q124
           have p125 : 0 ≤ ((ji7) : Int) := dA
           have q125 : (ji7) < (l0.length : Int) := dA
           obtain ⟨ad125, e125, hx125_0⟩ := Kd.at_int HR0.out (ji7) p125 q125
           have hw125_0 := hx125_0
           obtain rfl : ad124 = ad125 := (by injection e125)
           replace hx125_0 := cB HB.out hx125_0
           replace p125 := eq_true p125
           replace q125 := eq_true q125
           refine start_ (n := 15) (S := fun w' => w'.cell? (ad124.add (x4_1).toNat) = some (.int .i64 (rd l0 x4_1)) ∧ w'.cell? (ad124.add ((ji7)).toNat) = some (.int .i64 (rd l0 (ji7)))) (ds := []) mkspec_l342_0 (by kernel_rfl) rfl rfl ⟨(cB HB.out hw124_0), (cB HB.out hw125_0)⟩ (fun hHeld => ?_); refine with_tabW spec_l23Ranges.tab5 spec_l23Ranges.bits5 (fun HT_ HW_ => ?_)
           generalize wr.drew = w15 at HO_3 HB hx124_0 hx125_0 hHeld ⊢
           refine pQ (i := 0) (N := some 12) mkspec_l342_1 ?_
           refine pQ (i := 1) (N := some 13) mkspec_l342_2 ?_
           refine pQ (i := 2) (N := some 14) mkspec_l342_3 ?_
           refine pQ (i := 3) (N := some 15) mkspec_l342_4 ?_
           refine pQ (i := 4) (N := some 16) mkspec_l342_5 ?_
           refine pQ (i := 5) (N := some 17) mkspec_l342_6 ?_
           refine pQ (i := 7) (N := some 19) mkspec_l342_7 ?_
           refine pQ (i := 8) (N := some 20) mkspec_l342_9 ?_
           refine pQ (i := 9) (N := some 21) mkspec_l342_11 ?_
           refine pQ (i := 10) (N := some 22) mkspec_l342_13 ?_
           refine tQ (i := 6) (N := some 18) mkspec_l342_15 rfl hHeld (Or.inl ⟨by rfl, by rintro w' ⟨s0, s1⟩; go_simp; with_reducible rfl⟩) ?_
           refine tQ (i := 11) (N := some 23) mkspec_l342_16 rfl hHeld (Or.inl ⟨by rfl, by rintro w' ⟨s0, s1⟩; go_simp; with_reducible rfl⟩) ?_
           refine pQ (i := 12) (N := some 24) mkspec_l342_17 ?_
           refine pQ (i := 13) (N := some 25) mkspec_l342_18 ?_
           refine pQ (i := 14) (N := some 26) mkspec_l342_20 ?_
           refine done_ (done_of HT_.out (by kernel_rfl)) ?_
           obtain ⟨Ao16, co16, eo16⟩ := Kd.R_slice HO_3.out
           subst eo16
           have p126 : 0 ≤ (x4_1 : Int) := dA
           have q126 : x4_1 < (l0.length : Int) := dA
           obtain ⟨ad126, e126, hx126_0⟩ := Kd.at_int HR0.out x4_1 p126 q126
           obtain rfl : ad124 = ad126 := (by injection e126)
           replace hx126_0 := cB HB.out hx126_0
           replace p126 := eq_true p126
           replace q126 := eq_true q126
           have p14 : 0 ≤ ((ji11) : Int) := dA
           have q14 : ((ji11) : Int) < ((x3_1.length : Int) : Int) := dA
           obtain ⟨go14, co14, eo14, gb14, gl14, cl14, HG14⟩ := Kd.R_form HO_3.out (by omega)
           (first | cases eo14 | (injection eo14 with ea_ en_ ec_; (first | subst ea_ | (injection ea_ with ea_; subst ea_)); subst ec_; clear en_))
           have GB14 := aM gb14
           have GG14 := aM HG14
           clear gb14 gl14 HG14
           obtain ⟨ce14, hcl14, hM14, hcc14, hfr14⟩ := Kd.R_elem HO_3.out z92 ((ji11) : Int) p14 q14
           obtain rfl := k92_openM hM14
           have hx14_0 : w15.cell? ⟨go14, ((ji11) : Int).toNat * 2, none⟩ = some (.int .i64 ((rd_T92 x3_1 (ji11)).f0)) := hcc14 0 _ rfl
           have hx14_1 : w15.cell? ⟨go14, ((ji11) : Int).toNat * 2 + 1, none⟩ = some (.int .i64 ((rd_T92 x3_1 (ji11)).f1)) := hcc14 1 _ rfl
           have hf14_0 : w15.frozen? ⟨go14, ((ji11) : Int).toNat * 2, none⟩ = false := hfr14 0
           have hf14_1 : w15.frozen? ⟨go14, ((ji11) : Int).toNat * 2 + 1, none⟩ = false := hfr14 1
           clear hcl14 hcc14 hfr14; (try clear hM14)
           replace p14 := eq_true p14
           replace q14 := eq_true q14
           have HX17 := aM (show Kd.R k92 92 w15 w.heap.size (fun _ => True) (.slice (some ⟨go14, 0, none⟩) x3_1.length co16) x3_1 from (by (with_reducible repeat (first | apply rA | apply rN | apply rD)); exact HO_3.out))
           obtain ⟨ce17, hcl17, hM17, hcc17, hfr17⟩ := Kd.R_elem HX17.out z92 ((ji11) : Int) (dA) (by have h_ : ((ji11) : Int) < ((x3_1.length : Int) : Int) := dA; first | exact h_ | (have e_ := (Kd.R_reads' HO_3.out).1; omega) | simpa using h_)
           obtain rfl := k92_openM hM17
           have HP17 := Kd.R_seg HX17.out ((ji11) : Int) (dA) (by have h_ : ((ji11) : Int) < ((x3_1.length : Int) : Int) := dA; first | exact h_ | (have e_ := (Kd.R_reads' HO_3.out).1; omega) | simpa using h_) (seg := [.int .i64 (rd l0 x4_1)]) (j := 1) hcl17 hcc17 (show 2 ≤ 2 from by decide) (x' := (⟨(rd_T92 x3_1 (ji11)).f0, rd l0 x4_1⟩ : S92)) (k92_mkM _ _ _ (⟨(rd_T92 x3_1 (ji11)).f0, rd l0 x4_1⟩ : S92) ) (fun _ hk => hk)
           have hx17_1 := hcc17 1 _ rfl
           (try simp only [show (k92).sz = 2 from rfl, Nat.mul_one, Nat.add_zero] at hx17_1)
           have hf17_1 := hfr17 1
           (try simp only [show (k92).sz = 2 from rfl, Nat.mul_one, Nat.add_zero] at hf17_1)
           clear hcl17 hcc17 hfr17; (try clear hM17)
           try go_wp2_with (first | ((with_reducible refine gate_store (t := 2) (p := 36) rfl ?_); refine store_event (t := 2) (p := 36) (v := ?vo_w18) (w1 := (w15.setCell ⟨go14, ((ji11) : Int).toNat * 2 + 1, none⟩ (.int .i64 (rd l0 x4_1)))) ?hg ?ho ?hn ?hr ?_; (case ho => rfl); (case hg => rfl); (case hn => rfl); (case hr => first | (go_simp; done) | (go_simp; rfl)); intro w18 hw; have hg : w15.grownBy w18 (some go14) := (by rw [hw]; exact HP17.2); have hp_ : Kd.R k92 92 w18 w.heap.size (fun _ => True) (.slice (some ⟨go14, 0, none⟩) x3_1.length co16) y127 := (by rw [hw, Ny127.out]; exact HP17.1); clear HP17; have n0_ := aM (hp_); have n1_ := aM ((by rw [hw]; exact below_set (HB.out) GB14.out : Below w.heap.size w w18)); clear HO_3; clear HB; have HO_3 := n0_; have HB := n1_; clear n0_ n1_; clear hg hw hp_))
           go_roundg k1
           case measure => have := HK1.out; omega
           case rel => exact ⟨(y127), (wrap64 (x4_1 + 1)), rQ, H', ⟨by have := HK1.out; omega⟩, ⟨by (with_reducible repeat (first | apply rA | apply rN | apply rD)); exact HO_3.out⟩, ⟨bQ⟩⟩
          ·rw [if_neg c13] at H
           exact absurd H (by simp)
         ·rw [if_neg c12] at H
          exact absurd H (by simp)
        ·rw [if_neg c10] at H
         have c10b0 : ((rd l0 x4_1) == (wrap64 ((rd l0 (ji7)) + 1))) = false := beq_eq_false_iff_ne.mpr c10
         have c10b1 : ((rd l0 x4_1) != (wrap64 ((rd l0 (ji7)) + 1))) = true := bne_iff_ne.mpr c10
         by_cases c19 : x3_1.length < 8796093022208
         ·rw [if_pos c19] at H
          have LMc19 := aM c19
          clear c19
          obtain ⟨y130, hy130⟩ : ∃ y_ : List (S92), y_ = (x3_1 ++ [(⟨rd l0 x4_1, rd l0 x4_1⟩ : S92)]) := ⟨_, rfl⟩
          replace H : (spec_l23Ranges.l0 k1 l0 y130 (wrap64 (x4_1 + 1))) = some r := by first | (rw [hy130]; with_reducible exact H) | (have H2_ := bS H; rw [hy130]; with_reducible exact H2_) | (have H2_ := bS H; with_reducible exact H2_) | with_reducible exact H | (rw [hy130]; exact H) | exact H
          have Ny130 := aM hy130
          clear hy130
          have H' := aM H
          clear H
          try go_wp2
          have n0_ := aM (Kd.R_drew HO_3.out)
          have n1_ := aM (below_drew1 HB.out)
          clear HO_3
          clear HB
          have HO_3 := n0_
          have HB := n1_
          clear n0_ n1_
          have p124 : 0 ≤ (x4_1 : Int) := dA
          have q124 : x4_1 < (l0.length : Int) := dA
          obtain ⟨ad124, e124, hx124_0⟩ := Kd.at_int HR0.out x4_1 p124 q124
          have hw124_0 := hx124_0
          cases e124
          replace hx124_0 := cB HB.out hx124_0
          replace p124 := eq_true p124
          replace q124 := eq_true q124
          have p125 : 0 ≤ ((ji7) : Int) := dA
          have q125 : (ji7) < (l0.length : Int) := dA
          obtain ⟨ad125, e125, hx125_0⟩ := Kd.at_int HR0.out (ji7) p125 q125
          have hw125_0 := hx125_0
          obtain rfl : ad124 = ad125 := (by injection e125)
          replace hx125_0 := cB HB.out hx125_0
          replace p125 := eq_true p125
          replace q125 := eq_true q125
          refine start_ (n := 15) (S := fun w' => w'.cell? (ad124.add (x4_1).toNat) = some (.int .i64 (rd l0 x4_1)) ∧ w'.cell? (ad124.add ((ji7)).toNat) = some (.int .i64 (rd l0 (ji7)))) (ds := []) mkspec_l342_0 (by kernel_rfl) rfl rfl ⟨(cB HB.out hw124_0), (cB HB.out hw125_0)⟩ (fun hHeld => ?_); refine with_tabW spec_l23Ranges.tab5 spec_l23Ranges.bits5 (fun HT_ HW_ => ?_)
          generalize wr.drew = w20 at HO_3 HB hx124_0 hx125_0 hHeld ⊢
          refine pQ (i := 0) (N := some 12) mkspec_l342_1 ?_
          refine pQ (i := 1) (N := some 13) mkspec_l342_2 ?_
          refine pQ (i := 2) (N := some 14) mkspec_l342_3 ?_
          refine pQ (i := 3) (N := some 15) mkspec_l342_4 ?_
          refine pQ (i := 4) (N := some 16) mkspec_l342_5 ?_
          refine pQ (i := 5) (N := some 17) mkspec_l342_6 ?_
          refine pQ (i := 7) (N := some 19) mkspec_l342_7 ?_
          refine pQ (i := 8) (N := some 20) mkspec_l342_9 ?_
          refine pQ (i := 9) (N := some 21) mkspec_l342_11 ?_
          refine pQ (i := 10) (N := some 22) mkspec_l342_13 ?_
          refine tQ (i := 6) (N := some 18) mkspec_l342_15 rfl hHeld (Or.inl ⟨by rfl, by rintro w' ⟨s0, s1⟩; go_simp; with_reducible rfl⟩) ?_
          refine tQ (i := 11) (N := some 23) mkspec_l342_16 rfl hHeld (Or.inl ⟨by rfl, by rintro w' ⟨s0, s1⟩; go_simp; with_reducible rfl⟩) ?_
          refine pQ (i := 12) (N := some 24) mkspec_l342_17 ?_
          refine pQ (i := 13) (N := some 25) mkspec_l342_18 ?_
          refine pQ (i := 14) (N := some 26) mkspec_l342_20 ?_
          refine done_ (done_of HT_.out (by kernel_rfl)) ?_
          try go_wp2
          have n0_ := aM (Kd.R_drew HO_3.out)
          have n1_ := aM (below_drew1 HB.out)
          clear HO_3
          clear HB
          have HO_3 := n0_
          have HB := n1_
          clear n0_ n1_
          have p128 : 0 ≤ (x4_1 : Int) := dA
          have q128 : x4_1 < (l0.length : Int) := dA
          obtain ⟨ad128, e128, hx128_0⟩ := Kd.at_int HR0.out x4_1 p128 q128
          have hw128_0 := hx128_0
          obtain rfl : ad124 = ad128 := (by injection e128)
          replace hx128_0 := cB HB.out hx128_0
          replace p128 := eq_true p128
          replace q128 := eq_true q128
          have p129 : 0 ≤ (x4_1 : Int) := dA
          have q129 : x4_1 < (l0.length : Int) := dA
          obtain ⟨ad129, e129, hx129_0⟩ := Kd.at_int HR0.out x4_1 p129 q129
          have hw129_0 := hx129_0
          obtain rfl : ad124 = ad129 := (by injection e129)
          replace hx129_0 := cB HB.out hx129_0
          replace p129 := eq_true p129
          replace q129 := eq_true q129
          refine start_ (n := 13) (S := fun w' => w'.cell? (ad124.add (x4_1).toNat) = some (.int .i64 (rd l0 x4_1)) ∧ w'.cell? (ad124.add (x4_1).toNat) = some (.int .i64 (rd l0 x4_1))) (ds := []) mkspec_l342_19 (by kernel_rfl) rfl rfl ⟨(cB HB.out hw128_0), (cB HB.out hw129_0)⟩ (fun hHeld => ?_); refine with_tabW spec_l23Ranges.tab7 spec_l23Ranges.bits7 (fun HT_ HW_ => ?_)
          generalize w20.drew = w21 at HO_3 HB hx128_0 hx129_0 hHeld ⊢
          refine pQ (i := 0) (N := some 37) mkspec_l342_21 ?_
          refine pQ (i := 1) (N := some 38) mkspec_l342_22 ?_
          refine pQ (i := 2) (N := some 39) mkspec_l342_23 ?_
          refine pQ (i := 3) (N := some 40) mkspec_l342_24 ?_
          refine pQ (i := 5) (N := some 42) mkspec_l342_25 ?_
          refine pQ (i := 6) (N := some 43) mkspec_l342_26 ?_
          refine pQ (i := 7) (N := some 44) mkspec_l342_27 ?_
          refine tQ (i := 4) (N := some 41) mkspec_l342_28 rfl hHeld (Or.inl ⟨by rfl, by rintro w' ⟨s0, s1⟩; go_simp; with_reducible rfl⟩) ?_
          refine tQ (i := 8) (N := some 45) mkspec_l342_29 rfl hHeld (Or.inl ⟨by rfl, by rintro w' ⟨s0, s1⟩; go_simp; with_reducible rfl⟩) ?_
          refine pQ (i := 9) (N := some 46) mkspec_l342_30 ?_
          refine one_ (i := 10) (N := some 47) mkspec_l342_31 rfl rfl (one_of HT_.out (by kernel_rfl)) (by decide) (fun K hK => ?_)
          refine value_ (w1 := ?_) (v := ?_) (by rfl) rfl ?_ ?_
          rotate_left 2
          ·go_simp
           constructor
           ·rfl
           ·rfl
          refine hK.out _ _ ⟨(World.cell?_alloc_lt _ _ _ (World.block_lt_of_cell? _ _ ((cB HB.out hw128_0)))).trans ((cB HB.out hw128_0)), (World.cell?_alloc_lt _ _ _ (World.block_lt_of_cell? _ _ ((cB HB.out hw129_0)))).trans ((cB HB.out hw129_0))⟩ (fun hHeld => ?_)
          clear hK K
          refine norm_ (a' := ?_) ?_ ?_
          rotate_left
          ·show Act.put _ (some 47) _ = _
           simp only [Act.put, sI, sZ, sS, i64_w, i32_w]
           rfl
          refine one_ (i := 11) (N := some 48) mkspec_l342_32 rfl rfl (one_of HT_.out (by kernel_rfl)) (by decide) (fun K hK => ?_)
          refine Kd.R_append_step k92 (w0 := w) w.heap.size (by rfl) (.tmp 37) (.tmp 47) 90 92 (.agg #[(.int .i64 0), (.int .i64 0)]) 16 rfl Try.underlying90 info92 rfl (by decide) (by omega) u3 x3_1 (⟨rd l0 x4_1, rd l0 x4_1⟩ : S92) [.int .i64 (rd l0 x4_1), .int .i64 (rd l0 x4_1)] (fun _ => True) (fun _ => False) rfl rfl ?aP (fun _ hk => hk.elim) ?aF ?aO ?aB ?aS ?aL ?_
          (case aP => exact k92_mkM _ _ _ (⟨rd l0 x4_1, rd l0 x4_1⟩ : S92))
          (case aB => exact bQ)
          (case aF => exact (fun _ _ => trivial))
          (case aO => exact (by (with_reducible repeat (first | apply rA | apply rN | apply rD)); exact HO_3.out))
          (case aS => exact (below_size bQ))
          (case aL => have := LMc19.out; omega)
          intro v131 w22 ho hb hg hat
          rw [← Ny130.out] at ho
          have n0_ := aM (hb)
          have n1_ := aM (ho)
          clear HB
          clear HO_3
          have HB := n0_
          have HO132 := n1_
          clear n0_ n1_
          clear ho hb hg hat
          refine hK.out _ _ ⟨(cB HB.out hw128_0), (cB HB.out hw129_0)⟩ (fun hHeld => ?_)
          clear hK K
          refine norm_ (a' := ?_) ?_ ?_
          rotate_left
          ·show Act.put _ (some 48) _ = _
           simp only [Act.put, sI, sZ, sS, i64_w, i32_w]
           rfl
          refine pQ (i := 12) (N := some 3) mkspec_l342_33 ?_
          refine done_ (done_of HT_.out (by kernel_rfl)) ?_
          try go_wp2
          go_roundg k1
          case measure => have := HK1.out; omega
          case rel => exact ⟨(y130), (wrap64 (x4_1 + 1)), rQ, H', ⟨by have := HK1.out; omega⟩, ⟨by (with_reducible repeat (first | apply rA | apply rN | apply rD)); exact HO132.out⟩, ⟨bQ⟩⟩
         ·rw [if_neg c19] at H
          exact absurd H (by simp)
       ·rw [if_neg c9] at H
        exact absurd H (by simp)
      ·rw [if_neg c8] at H
       exact absurd H (by simp)
     ·rw [if_neg c6] at H
      exact absurd H (by simp)
    ·rw [if_neg c5] at H
     have c5b0 : decide (0 < x4_1) = false := decide_eq_false c5
     clear c5
     by_cases c23 : 0 ≤ x4_1
     ·rw [if_pos c23] at H
      have c23b0 : decide (0 ≤ x4_1) = true := decide_eq_true c23
      clear c23
      by_cases c24 : x3_1.length < 8796093022208
      ·rw [if_pos c24] at H
       have LMc24 := aM c24
       clear c24
       obtain ⟨y135, hy135⟩ : ∃ y_ : List (S92), y_ = (x3_1 ++ [(⟨rd l0 x4_1, rd l0 x4_1⟩ : S92)]) := ⟨_, rfl⟩
       replace H : (spec_l23Ranges.l0 k1 l0 y135 (wrap64 (x4_1 + 1))) = some r := by first | (rw [hy135]; with_reducible exact H) | (have H2_ := bS H; rw [hy135]; with_reducible exact H2_) | (have H2_ := bS H; with_reducible exact H2_) | with_reducible exact H | (rw [hy135]; exact H) | exact H
       have Ny135 := aM hy135
       clear hy135
       have H' := aM H
       clear H
       try go_wp2
       have n0_ := aM (Kd.R_drew HO_3.out)
       have n1_ := aM (below_drew1 HB.out)
       clear HO_3
       clear HB
       have HO_3 := n0_
       have HB := n1_
       clear n0_ n1_
       refine start_ (n := 15) (S := fun w' => True) (ds := []) mkspec_l342_0 (by kernel_rfl) rfl rfl trivial (fun hHeld => ?_); refine with_tabW spec_l23Ranges.tab5 spec_l23Ranges.bits5 (fun HT_ HW_ => ?_)
       generalize wr.drew = w25 at HO_3 HB hHeld ⊢
       refine pQ (i := 0) (N := some 12) mkspec_l342_1 ?_
       refine pQ (i := 1) (N := some 13) mkspec_l342_2 ?_
       refine pQ (i := 2) (N := some 14) mkspec_l342_3 ?_
       refine uQ (i := 3) (N := some 15) mkspec_l342_4 ?_
       refine uQ (i := 4) (N := some 16) mkspec_l342_5 ?_
       refine uQ (i := 5) (N := some 17) mkspec_l342_6 ?_
       refine uQ (i := 6) (N := some 18) mkspec_l342_8 ?_
       refine uQ (i := 7) (N := some 19) mkspec_l342_10 ?_
       refine uQ (i := 8) (N := some 20) mkspec_l342_12 ?_
       refine uQ (i := 9) (N := some 21) mkspec_l342_14 ?_
       refine uQ (i := 10) (N := some 22) mkspec_l342_15 ?_
       refine uQ (i := 11) (N := some 23) mkspec_l342_16 ?_
       refine uQ (i := 12) (N := some 24) mkspec_l342_17 ?_
       refine uQ (i := 13) (N := some 25) mkspec_l342_18 ?_
       refine pQ (i := 14) (N := some 26) mkspec_l342_20 ?_
       refine done_ (done_of HT_.out (by kernel_rfl)) ?_
       try go_wp2
       have n0_ := aM (Kd.R_drew HO_3.out)
       have n1_ := aM (below_drew1 HB.out)
       clear HO_3
       clear HB
       have HO_3 := n0_
       have HB := n1_
       clear n0_ n1_
       have p133 : 0 ≤ (x4_1 : Int) := dA
       have q133 : x4_1 < (l0.length : Int) := dA
       obtain ⟨ad133, e133, hx133_0⟩ := Kd.at_int HR0.out x4_1 p133 q133
       have hw133_0 := hx133_0
       cases e133
       replace hx133_0 := cB HB.out hx133_0
       replace p133 := eq_true p133
       replace q133 := eq_true q133
       have p134 : 0 ≤ (x4_1 : Int) := dA
       have q134 : x4_1 < (l0.length : Int) := dA
       obtain ⟨ad134, e134, hx134_0⟩ := Kd.at_int HR0.out x4_1 p134 q134
       have hw134_0 := hx134_0
       obtain rfl : ad133 = ad134 := (by injection e134)
       replace hx134_0 := cB HB.out hx134_0
       replace p134 := eq_true p134
       replace q134 := eq_true q134
       refine start_ (n := 13) (S := fun w' => w'.cell? (ad133.add (x4_1).toNat) = some (.int .i64 (rd l0 x4_1)) ∧ w'.cell? (ad133.add (x4_1).toNat) = some (.int .i64 (rd l0 x4_1))) (ds := []) mkspec_l342_19 (by kernel_rfl) rfl rfl ⟨(cB HB.out hw133_0), (cB HB.out hw134_0)⟩ (fun hHeld => ?_); refine with_tabW spec_l23Ranges.tab7 spec_l23Ranges.bits7 (fun HT_ HW_ => ?_)
       generalize w25.drew = w26 at HO_3 HB hx133_0 hx134_0 hHeld ⊢
       refine pQ (i := 0) (N := some 37) mkspec_l342_21 ?_
       refine pQ (i := 1) (N := some 38) mkspec_l342_22 ?_
       refine pQ (i := 2) (N := some 39) mkspec_l342_23 ?_
       refine pQ (i := 3) (N := some 40) mkspec_l342_24 ?_
       refine pQ (i := 5) (N := some 42) mkspec_l342_25 ?_
       refine pQ (i := 6) (N := some 43) mkspec_l342_26 ?_
       refine pQ (i := 7) (N := some 44) mkspec_l342_27 ?_
       refine tQ (i := 4) (N := some 41) mkspec_l342_28 rfl hHeld (Or.inl ⟨by rfl, by rintro w' ⟨s0, s1⟩; go_simp; with_reducible rfl⟩) ?_
       refine tQ (i := 8) (N := some 45) mkspec_l342_29 rfl hHeld (Or.inl ⟨by rfl, by rintro w' ⟨s0, s1⟩; go_simp; with_reducible rfl⟩) ?_
       refine pQ (i := 9) (N := some 46) mkspec_l342_30 ?_
       refine one_ (i := 10) (N := some 47) mkspec_l342_31 rfl rfl (one_of HT_.out (by kernel_rfl)) (by decide) (fun K hK => ?_)
       refine value_ (w1 := ?_) (v := ?_) (by rfl) rfl ?_ ?_
       rotate_left 2
       ·go_simp
        constructor
        ·rfl
        ·rfl
       refine hK.out _ _ ⟨(World.cell?_alloc_lt _ _ _ (World.block_lt_of_cell? _ _ ((cB HB.out hw133_0)))).trans ((cB HB.out hw133_0)), (World.cell?_alloc_lt _ _ _ (World.block_lt_of_cell? _ _ ((cB HB.out hw134_0)))).trans ((cB HB.out hw134_0))⟩ (fun hHeld => ?_)
       clear hK K
       refine norm_ (a' := ?_) ?_ ?_
       rotate_left
       ·show Act.put _ (some 47) _ = _
        simp only [Act.put, sI, sZ, sS, i64_w, i32_w]
        rfl
       refine one_ (i := 11) (N := some 48) mkspec_l342_32 rfl rfl (one_of HT_.out (by kernel_rfl)) (by decide) (fun K hK => ?_)
       refine Kd.R_append_step k92 (w0 := w) w.heap.size (by rfl) (.tmp 37) (.tmp 47) 90 92 (.agg #[(.int .i64 0), (.int .i64 0)]) 16 rfl Try.underlying90 info92 rfl (by decide) (by omega) u3 x3_1 (⟨rd l0 x4_1, rd l0 x4_1⟩ : S92) [.int .i64 (rd l0 x4_1), .int .i64 (rd l0 x4_1)] (fun _ => True) (fun _ => False) rfl rfl ?aP (fun _ hk => hk.elim) ?aF ?aO ?aB ?aS ?aL ?_
       (case aP => exact k92_mkM _ _ _ (⟨rd l0 x4_1, rd l0 x4_1⟩ : S92))
       (case aB => exact bQ)
       (case aF => exact (fun _ _ => trivial))
       (case aO => exact (by (with_reducible repeat (first | apply rA | apply rN | apply rD)); exact HO_3.out))
       (case aS => exact (below_size bQ))
       (case aL => have := LMc24.out; omega)
       intro v136 w27 ho hb hg hat
       rw [← Ny135.out] at ho
       have n0_ := aM (hb)
       have n1_ := aM (ho)
       clear HB
       clear HO_3
       have HB := n0_
       have HO137 := n1_
       clear n0_ n1_
       clear ho hb hg hat
       refine hK.out _ _ ⟨(cB HB.out hw133_0), (cB HB.out hw134_0)⟩ (fun hHeld => ?_)
       clear hK K
       refine norm_ (a' := ?_) ?_ ?_
       rotate_left
       ·show Act.put _ (some 48) _ = _
        simp only [Act.put, sI, sZ, sS, i64_w, i32_w]
        rfl
       refine pQ (i := 12) (N := some 3) mkspec_l342_33 ?_
       refine done_ (done_of HT_.out (by kernel_rfl)) ?_
       try go_wp2
       go_roundg k1
       case measure => have := HK1.out; omega
       case rel => exact ⟨(y135), (wrap64 (x4_1 + 1)), rQ, H', ⟨by have := HK1.out; omega⟩, ⟨by (with_reducible repeat (first | apply rA | apply rN | apply rD)); exact HO137.out⟩, ⟨bQ⟩⟩
      ·rw [if_neg c24] at H
       exact absurd H (by simp)
     ·rw [if_neg c23] at H
      exact absurd H (by simp)
   ·rw [if_neg c4] at H
    have c4b0 : decide (x4_1 < (l0.length : Int)) = false := decide_eq_false c4
    clear c4
    obtain rfl := Option.some.inj H
    go_wp2
    go_ret
    exact ⟨_, eQ, by (with_reducible repeat (first | apply rA | apply rN | apply rD)); exact HO_3.out, bQ⟩

/-! ### spec_l01Dec: function 118 -/
def spec_l01Dec.l0 : Nat → Int → List Int → Int → Option (ByteArray)
 | 0, _, _, _ => none
 | k + 1, x0, x3, x4 => if x4 = 0 then (if (x3.length : Int) = 0 then (some (⟨#[48]⟩ : ByteArray)) else (if x0 < 0 then (if 1 + (strOfNums x3).size ≤ 9223372036854775807 then (some ((⟨#[45]⟩ : ByteArray) ++ (strOfNums x3))) else (none)) else (some (strOfNums x3)))) else (if (Int.tmod x4 10) < 0 then ((some (([(wrap64 (48 + (wrap64 (-(Int.tmod x4 10))))) % 256] : List Int) : List Int)).bind fun y141 => (if y141.length + x3.length < 140737488355328 then (spec_l01Dec.l0 k x0 (y141 ++ x3) (wrap64 (Int.tdiv x4 10))) else (none))) else ((some (([(wrap64 (48 + (Int.tmod x4 10))) % 256] : List Int) : List Int)).bind fun y147 => (if y147.length + x3.length < 140737488355328 then (spec_l01Dec.l0 k x0 (y147 ++ x3) (wrap64 (Int.tdiv x4 10))) else (none))))
def spec_l01Dec.f (k : Nat) (a0 : Int) : Option (ByteArray) := spec_l01Dec.l0 k a0 (([] : List Int)) a0
theorem spec_l01Dec.mono_l : ∀ k, (∀ y0 y1 y2, LeO (spec_l01Dec.l0 k y0 y1 y2) (spec_l01Dec.l0 (k + 1) y0 y1 y2))
 | 0 => fun _ _ _ r h => by simp [spec_l01Dec.l0] at h
 | k + 1 => by
  have ih0 := spec_l01Dec.mono_l k
  ·intro y0 y1 y2
   unfold spec_l01Dec.l0
   repeat' first
   | (with_reducible exact ih0 _ _ _)
   | (with_reducible exact LeO.refl _)
   | (with_reducible exact LeO.none _)
   | (with_reducible refine LeO.ite ?_ ?_)
   | (with_reducible refine LeO.bind ?_ (fun _ => ?_))
   | exact ih0 _ _ _
   | exact LeO.none _
   | refine LeO.ite ?_ ?_
   | refine LeO.bind ?_ (fun _ => ?_)
theorem spec_l01Dec.mono : ∀ a0 k, LeO (spec_l01Dec.f k a0) (spec_l01Dec.f (k + 1) a0) := by
 intro a0 k
 have ih0 := spec_l01Dec.mono_l k
 unfold spec_l01Dec.f
 repeat' first
   | (with_reducible exact ih0 _ _ _)
   | (with_reducible exact LeO.refl _)
   | (with_reducible exact LeO.none _)
   | (with_reducible refine LeO.ite ?_ ?_)
   | (with_reducible refine LeO.bind ?_ (fun _ => ?_))
   | exact ih0 _ _ _
   | exact LeO.none _
   | refine LeO.ite ?_ ?_
   | refine LeO.bind ?_ (fun _ => ?_)
set_option maxHeartbeats 8000000 in
set_option maxRecDepth 100000 in
theorem spec_l01Dec.calls (k : Nat) (a0 : Int) (r : ByteArray) (w : World) (h : spec_l01Dec.f k a0 = some r) :
  Calls Try.prog 118 #[.int .i64 a0] w fun e w' => e = .returned (.string r) ∧ Below w.heap.size w w' := by
 have HB := aM (Below.refl w.heap.size w)
 have H : (spec_l01Dec.l0 k a0 (([] : List Int)) a0) = some r := h
 clear h
 obtain ⟨y138, hy138⟩ : ∃ y_ : List Int, y_ = (([] : List Int)) := ⟨_, rfl⟩
 replace H : (spec_l01Dec.l0 k a0 y138 a0) = some r := by first | (rw [hy138]; with_reducible exact H) | (have H2_ := bS H; rw [hy138]; with_reducible exact H2_) | (have H2_ := bS H; with_reducible exact H2_) | with_reducible exact H | (rw [hy138]; exact H) | exact H
 have Ny138 := aM hy138
 clear hy138
 have H' := aM H
 clear H
 go_enter Try.func118, Try.ntmps118
 go_wp2_with (first | ((with_reducible refine gate_dst (N := 6) rfl ?_); refine Kd.R_lit (Kd.int .u8) _ 5 ?hg (N := 6) ?hd (xs := ([] : List Int)) (inner := []) (ok := fun _ => True) (okp := fun _ => True) ?hr ?hp (fun _ hk => hk) trivial (Below.refl _ _) (Nat.le_refl _) (by simp) ?_; (case hd => rfl); (case hg => rfl); (case hr => first | (go_simp; done) | (go_simp; rfl)); (case hp => exact (Reps.none _ _)); intro v139 w2 ho3 hb hg_ hnew_; clear hg_ hnew_; (first | rw [← Ny138.out] at ho3 | (simp only [Int.reduceToNat] at ho3; rw [← Ny138.out] at ho3)); have n0_ := aM (Kd.R_lower ho3 (below_size bQ)); have n1_ := aM (below_step bQ hb); clear HB; have HO140 := n0_; have HB := n1_; clear n0_ n1_; clear hb ho3))
 go_loopg [3, 4] k (fun kq v3 v4 w' => ∃ (x3_1 : List Int) (x4_1 : Int), v4 = .int .i64 x4_1 ∧ Aside0 (spec_l01Dec.l0 kq a0 x3_1 x4_1 = some r) ∧ Aside0 (kq ≤ k) ∧ Aside0 (Kd.R (Kd.int .u8) 5 w' w.heap.size (fun _ => True) v3 x3_1) ∧ Aside0 (Below w.heap.size w w'))
 case atStart => exact ⟨(y138), (a0), rQ, H', ⟨Nat.le_refl _⟩, ⟨by (with_reducible repeat (first | apply rA | apply rN | apply rD)); exact HO140.out⟩, ⟨bQ⟩⟩
 case round =>
  clear H'
  try clear c1
  try clear p2
  obtain ⟨x3_1, x4_1, rfl, HA, HK1, HO_3, HB⟩ := hrel
  cases gk with
  | zero => exact absurd HA.out (by simp [spec_l01Dec.l0])
  | succ k1 =>
   have H := HA.out
   clear HA
   simp only [spec_l01Dec.l0] at H
   by_cases c4 : x4_1 = 0
   ·rw [if_pos c4] at H
    have c4b0 : (x4_1 == 0) = true := beq_iff_eq.mpr c4
    have c4b1 : (x4_1 != 0) = false := bne_eq_false_iff_eq.mpr c4
    clear c4
    by_cases c5 : (x3_1.length : Int) = 0
    ·rw [if_pos c5] at H
     have c5b0 : ((x3_1.length : Int) == 0) = true := beq_iff_eq.mpr c5
     have c5b1 : ((x3_1.length : Int) != 0) = false := bne_eq_false_iff_eq.mpr c5
     clear c5
     obtain rfl := Option.some.inj H
     obtain ⟨Ao6, co6, eo6⟩ := Kd.R_slice HO_3.out
     subst eo6
     go_wp2
     go_ret
     exact ⟨eQ, bQ⟩
    ·rw [if_neg c5] at H
     have c5b0 : ((x3_1.length : Int) == 0) = false := beq_eq_false_iff_ne.mpr c5
     have c5b1 : ((x3_1.length : Int) != 0) = true := bne_iff_ne.mpr c5
     have c5b2 : ¬ (x3_1 = []) := fun h_ => c5 (by rw [h_]; rfl)
     by_cases c7 : a0 < 0
     ·rw [if_pos c7] at H
      have c7b0 : decide (a0 < 0) = true := decide_eq_true c7
      clear c7
      by_cases c8 : 1 + (strOfNums x3_1).size ≤ 9223372036854775807
      ·rw [if_pos c8] at H
       have c8b0 := eq_true c8
       have c8b1 : decide (1 + (strOfNums x3_1).size ≤ 9223372036854775807) = true := decide_eq_true c8
       try have c8b2 : (9223372036854775807 < 1 + (strOfNums x3_1).size) = False := eq_false (Nat.not_lt.2 c8)
       obtain rfl := Option.some.inj H
       obtain ⟨Ao9, co9, eo9⟩ := Kd.R_slice HO_3.out
       subst eo9
       have hcv10 := own_string (P := Try.prog) Try.underlying184 Try.underlying5 Try.underlying9 (Kd.own_of_R HO_3.out)
       go_wp2
       go_ret
       exact ⟨eQ, bQ⟩
      ·rw [if_neg c8] at H
       exact absurd H (by simp)
     ·rw [if_neg c7] at H
      have c7b0 : decide (a0 < 0) = false := decide_eq_false c7
      clear c7
      obtain rfl := Option.some.inj H
      obtain ⟨Ao11, co11, eo11⟩ := Kd.R_slice HO_3.out
      subst eo11
      have hcv12 := own_string (P := Try.prog) Try.underlying184 Try.underlying5 Try.underlying9 (Kd.own_of_R HO_3.out)
      go_wp2
      go_ret
      exact ⟨eQ, bQ⟩
   ·rw [if_neg c4] at H
    have c4b0 : (x4_1 == 0) = false := beq_eq_false_iff_ne.mpr c4
    have c4b1 : (x4_1 != 0) = true := bne_iff_ne.mpr c4
    by_cases c13 : (Int.tmod x4_1 10) < 0
    ·rw [if_pos c13] at H
     have c13b0 : decide ((Int.tmod x4_1 10) < 0) = true := decide_eq_true c13
     clear c13
     obtain ⟨y141, hy141⟩ : ∃ y_ : List Int, y_ = (([(wrap64 (48 + (wrap64 (-(Int.tmod x4_1 10))))) % 256] : List Int)) := ⟨_, rfl⟩
     replace H : (if y141.length + x3_1.length < 140737488355328 then (spec_l01Dec.l0 k1 a0 (y141 ++ x3_1) (wrap64 (Int.tdiv x4_1 10))) else (none)) = some r := by first | (rw [hy141]; with_reducible exact H) | (have H2_ := bS H; rw [hy141]; with_reducible exact H2_) | (have H2_ := bS H; with_reducible exact H2_) | with_reducible exact H | (rw [hy141]; exact H) | exact H
     have Ny141 := aM hy141
     clear hy141
     by_cases c14 : y141.length + x3_1.length < 140737488355328
     ·rw [if_pos c14] at H
      have LMc14 := aM c14
      clear c14
      obtain ⟨y144, hy144⟩ : ∃ y_ : List Int, y_ = (y141 ++ x3_1) := ⟨_, rfl⟩
      replace H : (spec_l01Dec.l0 k1 a0 y144 (wrap64 (Int.tdiv x4_1 10))) = some r := by first | (rw [hy144]; with_reducible exact H) | (have H2_ := bS H; rw [hy144]; with_reducible exact H2_) | (have H2_ := bS H; with_reducible exact H2_) | with_reducible exact H | (rw [hy144]; exact H) | exact H
      have Ny144 := aM hy144
      clear hy144
      have H' := aM H
      clear H
      go_wp2_with (first | ((with_reducible refine gate_dst (N := 21) rfl ?_); refine Kd.R_lit (Kd.int .u8) _ 5 ?hg (N := 21) ?hd (xs := ([(wrap64 (48 + (wrap64 (-(Int.tmod x4_1 10))))) % 256] : List Int)) (inner := [.int .u8 ((wrap64 (48 + (wrap64 (-(Int.tmod x4_1 10))))) % 256)]) (ok := fun _ => True) (okp := fun _ => True) ?hr ?hp (fun _ hk => hk) trivial (Below.refl _ _) (Nat.le_refl _) (by simp) ?_; (case hd => rfl); (case hg => rfl); (case hr => first | (go_simp; done) | (go_simp; rfl)); (case hp => exact (Reps.one (show Kd.M (Kd.int .u8) _ _ _ ((wrap64 (48 + (wrap64 (-(Int.tmod x4_1 10))))) % 256) [.int .u8 ((wrap64 (48 + (wrap64 (-(Int.tmod x4_1 10))))) % 256)] from rfl) (Reps.none _ _))); intro v142 w15 ho16 hb hg_ hnew_; clear hg_ hnew_; (first | rw [← Ny141.out] at ho16 | (simp only [Int.reduceToNat] at ho16; rw [← Ny141.out] at ho16)); have n0_ := aM (Kd.R_elder' (by (with_reducible repeat (first | apply rA | apply rN | apply rD)); exact HO_3.out) (Kd.R_base ho16) hb); have n1_ := aM (Kd.R_lower (Kd.R_new' ho16 (Kd.R_lt (by (with_reducible repeat (first | apply rA | apply rN | apply rD)); exact HO_3.out))) (below_size bQ)); have n2_ := aM (below_step bQ hb); clear HO_3; clear HB; have HO_3 := n0_; have HO143 := n1_; have HB := n2_; clear n0_ n1_ n2_; clear hb ho16; obtain ⟨Ao18, co18, eo18⟩ := Kd.R_slice HO_3.out; subst eo18) | ((with_reducible refine gate_builtin (b := .append) (xs := #[.tmp 21, .tmp 22]) rfl ?_); at_builtin; refine Kd.R_append_rows (Kd.int .u8) (w0 := w) w.heap.size rfl (.tmp 21) (.tmp 22) 184 5 (.int .u8 0) 1 rfl Try.underlying184 info5 rfl (by decide) (by omega) v142 y141 x3_1 _ _ _ (fun k_ => some k_ ≠ (.slice Ao18 x3_1.length co18 : Value).ownBlock) (fun _ => False) rfl rfl ?aO ?aR (fun _ _ h => h) (fun _ h => h.elim) ?aF ?aB ?aS ?aL ?_; (case aR => repeat (first | exact (Kd.R_reads' HO_3.out).2.2 | (with_reducible first | refine cA ?_ _ | refine cN ?_ _ | refine cD ?_))); (case aB => exact bQ); (case aF => exact (fun k_ hk => Kd.fresh' (Kd.R_lt (by (with_reducible repeat (first | apply rA | apply rN | apply rD)); exact HO_3.out)) k_ hk)); (case aO => exact (by (with_reducible repeat (first | apply rA | apply rN | apply rD)); exact Kd.R_mono HO143.out h2_)); (case aS => exact (below_size bQ)); (case aL => have := LMc14.out; omega); intro v145 w17 ho hb hg hat; rw [← Ny144.out] at ho; have n0_ := aM (Kd.R_after (ok := (fun _ => True)) (by (with_reducible repeat (first | apply rA | apply rN | apply rD)); exact HO_3.out) hg hat); have n1_ := aM (hb); have n2_ := aM (ho); clear HO_3; clear HB; clear HO143; have HO_3 := n0_; have HB := n1_; have HO146 := n2_; clear n0_ n1_ n2_; clear ho hb hg hat))
      go_roundg k1
      case measure => have := HK1.out; omega
      case rel => exact ⟨(y144), (wrap64 (Int.tdiv x4_1 10)), rQ, H', ⟨by have := HK1.out; omega⟩, ⟨by (with_reducible repeat (first | apply rA | apply rN | apply rD)); exact Kd.R_mono HO146.out (fun _ hk => trivial)⟩, ⟨bQ⟩⟩
     ·rw [if_neg c14] at H
      exact absurd H (by simp)
    ·rw [if_neg c13] at H
     have c13b0 : decide ((Int.tmod x4_1 10) < 0) = false := decide_eq_false c13
     clear c13
     obtain ⟨y147, hy147⟩ : ∃ y_ : List Int, y_ = (([(wrap64 (48 + (Int.tmod x4_1 10))) % 256] : List Int)) := ⟨_, rfl⟩
     replace H : (if y147.length + x3_1.length < 140737488355328 then (spec_l01Dec.l0 k1 a0 (y147 ++ x3_1) (wrap64 (Int.tdiv x4_1 10))) else (none)) = some r := by first | (rw [hy147]; with_reducible exact H) | (have H2_ := bS H; rw [hy147]; with_reducible exact H2_) | (have H2_ := bS H; with_reducible exact H2_) | with_reducible exact H | (rw [hy147]; exact H) | exact H
     have Ny147 := aM hy147
     clear hy147
     by_cases c19 : y147.length + x3_1.length < 140737488355328
     ·rw [if_pos c19] at H
      have LMc19 := aM c19
      clear c19
      obtain ⟨y150, hy150⟩ : ∃ y_ : List Int, y_ = (y147 ++ x3_1) := ⟨_, rfl⟩
      replace H : (spec_l01Dec.l0 k1 a0 y150 (wrap64 (Int.tdiv x4_1 10))) = some r := by first | (rw [hy150]; with_reducible exact H) | (have H2_ := bS H; rw [hy150]; with_reducible exact H2_) | (have H2_ := bS H; with_reducible exact H2_) | with_reducible exact H | (rw [hy150]; exact H) | exact H
      have Ny150 := aM hy150
      clear hy150
      have H' := aM H
      clear H
      go_wp2_with (first | ((with_reducible refine gate_dst (N := 21) rfl ?_); refine Kd.R_lit (Kd.int .u8) _ 5 ?hg (N := 21) ?hd (xs := ([(wrap64 (48 + (Int.tmod x4_1 10))) % 256] : List Int)) (inner := [.int .u8 ((wrap64 (48 + (Int.tmod x4_1 10))) % 256)]) (ok := fun _ => True) (okp := fun _ => True) ?hr ?hp (fun _ hk => hk) trivial (Below.refl _ _) (Nat.le_refl _) (by simp) ?_; (case hd => rfl); (case hg => rfl); (case hr => first | (go_simp; done) | (go_simp; rfl)); (case hp => exact (Reps.one (show Kd.M (Kd.int .u8) _ _ _ ((wrap64 (48 + (Int.tmod x4_1 10))) % 256) [.int .u8 ((wrap64 (48 + (Int.tmod x4_1 10))) % 256)] from rfl) (Reps.none _ _))); intro v148 w20 ho21 hb hg_ hnew_; clear hg_ hnew_; (first | rw [← Ny147.out] at ho21 | (simp only [Int.reduceToNat] at ho21; rw [← Ny147.out] at ho21)); have n0_ := aM (Kd.R_elder' (by (with_reducible repeat (first | apply rA | apply rN | apply rD)); exact HO_3.out) (Kd.R_base ho21) hb); have n1_ := aM (Kd.R_lower (Kd.R_new' ho21 (Kd.R_lt (by (with_reducible repeat (first | apply rA | apply rN | apply rD)); exact HO_3.out))) (below_size bQ)); have n2_ := aM (below_step bQ hb); clear HO_3; clear HB; have HO_3 := n0_; have HO149 := n1_; have HB := n2_; clear n0_ n1_ n2_; clear hb ho21; obtain ⟨Ao23, co23, eo23⟩ := Kd.R_slice HO_3.out; subst eo23) | ((with_reducible refine gate_builtin (b := .append) (xs := #[.tmp 21, .tmp 22]) rfl ?_); at_builtin; refine Kd.R_append_rows (Kd.int .u8) (w0 := w) w.heap.size rfl (.tmp 21) (.tmp 22) 184 5 (.int .u8 0) 1 rfl Try.underlying184 info5 rfl (by decide) (by omega) v148 y147 x3_1 _ _ _ (fun k_ => some k_ ≠ (.slice Ao23 x3_1.length co23 : Value).ownBlock) (fun _ => False) rfl rfl ?aO ?aR (fun _ _ h => h) (fun _ h => h.elim) ?aF ?aB ?aS ?aL ?_; (case aR => repeat (first | exact (Kd.R_reads' HO_3.out).2.2 | (with_reducible first | refine cA ?_ _ | refine cN ?_ _ | refine cD ?_))); (case aB => exact bQ); (case aF => exact (fun k_ hk => Kd.fresh' (Kd.R_lt (by (with_reducible repeat (first | apply rA | apply rN | apply rD)); exact HO_3.out)) k_ hk)); (case aO => exact (by (with_reducible repeat (first | apply rA | apply rN | apply rD)); exact Kd.R_mono HO149.out h2_)); (case aS => exact (below_size bQ)); (case aL => have := LMc19.out; omega); intro v151 w22 ho hb hg hat; rw [← Ny150.out] at ho; have n0_ := aM (Kd.R_after (ok := (fun _ => True)) (by (with_reducible repeat (first | apply rA | apply rN | apply rD)); exact HO_3.out) hg hat); have n1_ := aM (hb); have n2_ := aM (ho); clear HO_3; clear HB; clear HO149; have HO_3 := n0_; have HB := n1_; have HO152 := n2_; clear n0_ n1_ n2_; clear ho hb hg hat))
      go_roundg k1
      case measure => have := HK1.out; omega
      case rel => exact ⟨(y150), (wrap64 (Int.tdiv x4_1 10)), rQ, H', ⟨by have := HK1.out; omega⟩, ⟨by (with_reducible repeat (first | apply rA | apply rN | apply rD)); exact Kd.R_mono HO152.out (fun _ hk => trivial)⟩, ⟨bQ⟩⟩
     ·rw [if_neg c19] at H
      exact absurd H (by simp)

end Go.Proofs.Ytdahcapolipnbaa.QFnExactRuleText
