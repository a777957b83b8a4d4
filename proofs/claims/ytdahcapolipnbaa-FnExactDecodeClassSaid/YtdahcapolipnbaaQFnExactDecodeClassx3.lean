/- What some Go functions answer, each as a Lean function, and that the machine answers so: written by a program of this session out of the translation. -/
import Derived.Test.YtdahcapolipnbaaQFnExactDecodeClassx0
namespace Go.Proofs.Ytdahcapolipnbaa.QFnExactDecodeClass
open Go.RowKit Go.Proofs.YtdahcapolipnbaaW.PrintWords Go.Proofs.YtdahcapolipnbaaW.PrintLast Go.Proofs.YtdahcapolipnbaaW.PrintMore Go.Proofs.Ytdahcapolipnbaa.Rp
attribute [local go_sem] max2_int min2_int max_two min_two max_three min_three max_four min_four   -- for this text's walks alone
set_option linter.unusedVariables false
set_option linter.unusedSimpArgs false

/-! ### spec_l23Ranges: function 117 -/
abbrev mkspec_l342_0 : Array Bool := #[ff,ff,ff,ff,ff,ff,ff,ff,ff,ff,ff,ff,ff,ff,ff]
abbrev mkspec_l342_1 : Array Bool := #[tt,ff,ff,ff,ff,ff,ff,ff,ff,ff,ff,ff,ff,ff,ff]
abbrev mkspec_l342_2 : Array Bool := #[tt,tt,ff,ff,ff,ff,ff,ff,ff,ff,ff,ff,ff,ff,ff]
abbrev mkspec_l342_3 : Array Bool := #[tt,tt,tt,ff,ff,ff,ff,ff,ff,ff,ff,ff,ff,ff,ff]
abbrev mkspec_l342_4 : Array Bool := #[tt,tt,tt,tt,ff,ff,ff,ff,ff,ff,ff,ff,ff,ff,ff]
abbrev mkspec_l342_5 : Array Bool := #[tt,tt,tt,tt,tt,ff,ff,ff,ff,ff,ff,ff,ff,ff,ff]
abbrev mkspec_l342_6 : Array Bool := #[tt,tt,tt,tt,tt,tt,ff,ff,ff,ff,ff,ff,ff,ff,ff]
abbrev mkspec_l342_7 : Array Bool := #[tt,tt,tt,tt,tt,tt,ff,tt,ff,ff,ff,ff,ff,ff,ff]
abbrev mkspec_l342_8 : Array Bool := #[tt,tt,tt,tt,tt,tt,tt,ff,ff,ff,ff,ff,ff,ff,ff]
abbrev mkspec_l342_9 : Array Bool := #[tt,tt,tt,tt,tt,tt,ff,tt,tt,ff,ff,ff,ff,ff,ff]
abbrev mkspec_l342_10 : Array Bool := #[tt,tt,tt,tt,tt,tt,tt,tt,ff,ff,ff,ff,ff,ff,ff]
abbrev mkspec_l342_11 : Array Bool := #[tt,tt,tt,tt,tt,tt,ff,tt,tt,tt,ff,ff,ff,ff,ff]
abbrev mkspec_l342_12 : Array Bool := #[tt,tt,tt,tt,tt,tt,tt,tt,tt,ff,ff,ff,ff,ff,ff]
abbrev mkspec_l342_13 : Array Bool := #[tt,tt,tt,tt,tt,tt,ff,tt,tt,tt,tt,ff,ff,ff,ff]
abbrev mkspec_l342_14 : Array Bool := #[tt,tt,tt,tt,tt,tt,tt,tt,tt,tt,ff,ff,ff,ff,ff]
abbrev mkspec_l342_15 : Array Bool := #[tt,tt,tt,tt,tt,tt,tt,tt,tt,tt,tt,ff,ff,ff,ff]
abbrev mkspec_l342_16 : Array Bool := #[tt,tt,tt,tt,tt,tt,tt,tt,tt,tt,tt,tt,ff,ff,ff]
abbrev mkspec_l342_17 : Array Bool := #[tt,tt,tt,tt,tt,tt,tt,tt,tt,tt,tt,tt,tt,ff,ff]
abbrev mkspec_l342_18 : Array Bool := #[tt,tt,tt,tt,tt,tt,tt,tt,tt,tt,tt,tt,tt,tt,ff]
abbrev mkspec_l342_19 : Array Bool := #[ff,ff,ff,ff,ff,ff,ff,ff,ff,ff,ff,ff,ff]
abbrev mkspec_l342_20 : Array Bool := #[tt,tt,tt,tt,tt,tt,tt,tt,tt,tt,tt,tt,tt,tt,tt]
abbrev mkspec_l342_21 : Array Bool := #[tt,ff,ff,ff,ff,ff,ff,ff,ff,ff,ff,ff,ff]
abbrev mkspec_l342_22 : Array Bool := #[tt,tt,ff,ff,ff,ff,ff,ff,ff,ff,ff,ff,ff]
abbrev mkspec_l342_23 : Array Bool := #[tt,tt,tt,ff,ff,ff,ff,ff,ff,ff,ff,ff,ff]
abbrev mkspec_l342_24 : Array Bool := #[tt,tt,tt,tt,ff,ff,ff,ff,ff,ff,ff,ff,ff]
abbrev mkspec_l342_25 : Array Bool := #[tt,tt,tt,tt,ff,tt,ff,ff,ff,ff,ff,ff,ff]
abbrev mkspec_l342_26 : Array Bool := #[tt,tt,tt,tt,ff,tt,tt,ff,ff,ff,ff,ff,ff]
abbrev mkspec_l342_27 : Array Bool := #[tt,tt,tt,tt,ff,tt,tt,tt,ff,ff,ff,ff,ff]
abbrev mkspec_l342_28 : Array Bool := #[tt,tt,tt,tt,tt,tt,tt,tt,ff,ff,ff,ff,ff]
abbrev mkspec_l342_29 : Array Bool := #[tt,tt,tt,tt,tt,tt,tt,tt,tt,ff,ff,ff,ff]
abbrev mkspec_l342_30 : Array Bool := #[tt,tt,tt,tt,tt,tt,tt,tt,tt,tt,ff,ff,ff]
abbrev mkspec_l342_31 : Array Bool := #[tt,tt,tt,tt,tt,tt,tt,tt,tt,tt,tt,ff,ff]
abbrev mkspec_l342_32 : Array Bool := #[tt,tt,tt,tt,tt,tt,tt,tt,tt,tt,tt,tt,ff]
abbrev mkspec_l342_33 : Array Bool := #[tt,tt,tt,tt,tt,tt,tt,tt,tt,tt,tt,tt,tt]
def spec_l23Ranges.l0 : Nat → List Int → List (S92) → Int → Option ((List (S92)))
 | 0, _, _, _ => none
 | k + 1, x0, x3, x4 => if x4 < (x0.length : Int) then (if x4 > 0 then (if 0 ≤ x4 then (if 0 ≤ (wrap64 (x4 - 1)) then (if (wrap64 (x4 - 1)) < (x0.length : Int) then (if (rd x0 x4) = (wrap64 ((rd x0 (wrap64 (x4 - 1))) + 1)) then (if 0 ≤ (wrap64 ((x3.length : Int) - 1)) then (if (wrap64 ((x3.length : Int) - 1)) < (x3.length : Int) then (spec_l23Ranges.l0 k x0 (x3.set ((wrap64 ((x3.length : Int) - 1)) : Int).toNat (⟨(rd_T92 x3 (wrap64 ((x3.length : Int) - 1))).f0, rd x0 x4⟩ : S92)) (wrap64 (x4 + 1))) else (none)) else (none)) else (if x3.length < 8796093022208 then (spec_l23Ranges.l0 k x0 (x3 ++ [(⟨rd x0 x4, rd x0 x4⟩ : S92)]) (wrap64 (x4 + 1))) else (none))) else (none)) else (none)) else (none)) else (if 0 ≤ x4 then (if x3.length < 8796093022208 then (spec_l23Ranges.l0 k x0 (x3 ++ [(⟨rd x0 x4, rd x0 x4⟩ : S92)]) (wrap64 (x4 + 1))) else (none)) else (none))) else (some x3)
def spec_l23Ranges.f (k : Nat) (l0 : List Int) : Option ((List (S92))) := spec_l23Ranges.l0 k l0 (([] : List (S92))) 0
theorem spec_l23Ranges.mono_l : ∀ k, (∀ y0 y1 y2, LeO (spec_l23Ranges.l0 k y0 y1 y2) (spec_l23Ranges.l0 (k + 1) y0 y1 y2))
 | 0 => fun _ _ _ r h => by simp [spec_l23Ranges.l0] at h
 | k + 1 => by
  have ih0 := spec_l23Ranges.mono_l k
  ·intro y0 y1 y2
   unfold spec_l23Ranges.l0
   repeat' first
   | (with_reducible exact ih0 _ _ _)
   | (with_reducible exact LeO.refl _)
   | (with_reducible exact LeO.none _)
   | (with_reducible refine LeO.ite ?_ ?_)
   | (with_reducible refine LeO.bind ?_ (fun _ => ?_))
   | exact ih0 _ _ _
   | exact LeO.none _
   | refine LeO.ite ?_ ?_
   | refine LeO.bind ?_ (fun _ => ?_)
theorem spec_l23Ranges.mono : ∀ a0 k, LeO (spec_l23Ranges.f k a0) (spec_l23Ranges.f (k + 1) a0) := by
 intro a0 k
 have ih0 := spec_l23Ranges.mono_l k
 unfold spec_l23Ranges.f
 repeat' first
   | (with_reducible exact ih0 _ _ _)
   | (with_reducible exact LeO.refl _)
   | (with_reducible exact LeO.none _)
   | (with_reducible refine LeO.ite ?_ ?_)
   | (with_reducible refine LeO.bind ?_ (fun _ => ?_))
   | exact ih0 _ _ _
   | exact LeO.none _
   | refine LeO.ite ?_ ?_
   | refine LeO.bind ?_ (fun _ => ?_)
def spec_l23Ranges.T5 : Bool × List (List Nat × List Nat) := (true, [([], []), ([0], [0]), ([1], [1]), ([2], [2]), ([2], [2]), ([3, 4, 2], [2, 3, 4]), ([5, 2], [2, 5]), ([2], [2]), ([2], [2]), ([8, 2], [2, 8]), ([7, 9, 2], [2, 7, 9]), ([10, 2], [2, 10]), ([11, 2], [2, 11]), ([6, 12, 2], [2, 6, 12]), ([2, 13], [2, 13])])
def spec_l23Ranges.B5 : List Nat := [0, 1, 3, 7, 7, 31, 63, 7, 7, 263, 903, 1927, 3975, 8191, 16383]
theorem spec_l23Ranges.tab5 : rtab .any (opsOf Try.f117 5) = spec_l23Ranges.T5 := by kernel_rfl
theorem spec_l23Ranges.bits5 : waitsOk spec_l23Ranges.T5.2 spec_l23Ranges.B5 = true := by kernel_rfl
def spec_l23Ranges.T7 : Bool × List (List Nat × List Nat) := (true, [([], []), ([], []), ([], []), ([1, 2], [1, 2]), ([3], [3]), ([], []), ([], []), ([5, 6], [5, 6]), ([7], [7]), ([4, 8], [4, 8]), ([9], [9]), ([0, 10], [0, 10]), ([11, 11, 0, 1, 2, 3, 4, 5, 6, 7, 8, 9, 10, 11], [0, 11])])
def spec_l23Ranges.B7 : List Nat := [0, 0, 0, 6, 14, 0, 0, 96, 224, 510, 1022, 2047, 4095]
theorem spec_l23Ranges.tab7 : rtab .any (opsOf Try.f117 7) = spec_l23Ranges.T7 := by kernel_rfl
theorem spec_l23Ranges.bits7 : waitsOk spec_l23Ranges.T7.2 spec_l23Ranges.B7 = true := by kernel_rfl
set_option maxHeartbeats 8000000 in
set_option maxRecDepth 100000 in
theorem spec_l23Ranges.calls (k : Nat) (A0 : Option Addr) (c0 : Nat) (l0 : List Int) (r : List (S92)) (w : World) (hr0 : Kd.C (Kd.int .i64) w A0 l0.length l0) (hc0 : l0.length ≤ c0) (h : spec_l23Ranges.f k l0 = some r) :
  Calls Try.prog 117 #[.slice A0 l0.length c0] w fun e w' => ∃ v0_ : Value, e = .returned (v0_) ∧ Kd.R k92 92 w' w.heap.size (fun _ => True) v0_ r ∧ Below w.heap.size w w' := by
 have hu92 := Try.underlying92
 have HR0 := aM hr0
 have HC0 := aM hc0
 clear hr0 hc0
 have HB := aM (Below.refl w.heap.size w)
 have H : (spec_l23Ranges.l0 k l0 (([] : List (S92))) 0) = some r := h
 clear h
 obtain ⟨y133, hy133⟩ : ∃ y_ : List (S92), y_ = (([] : List (S92))) := ⟨_, rfl⟩
 replace H : (spec_l23Ranges.l0 k l0 y133 0) = some r := by first | (rw [hy133]; with_reducible exact H) | (have H2_ := bS H; rw [hy133]; with_reducible exact H2_) | (have H2_ := bS H; with_reducible exact H2_) | with_reducible exact H | (rw [hy133]; exact H) | exact H
 have Ny133 := aM hy133
 clear hy133
 have H' := aM H
 clear H
 go_enter Try.func117, Try.ntmps117
 go_wp2_with (first | ((with_reducible refine gate_dst (N := 5) rfl ?_); refine Kd.R_lit k92 _ 92 ?hg (N := 5) ?hd (xs := ([] : List (S92))) (inner := []) (ok := fun _ => True) (okp := fun _ => True) ?hr ?hp (fun _ hk => hk) trivial (Below.refl _ _) (Nat.le_refl _) (by simp) ?_; (case hd => rfl); (case hg => rfl); (case hr => first | (go_simp; done) | (go_simp; rfl)); (case hp => exact (Reps.none _ _)); intro v134 w2 ho3 hb hg_ hnew_; clear hg_ hnew_; (first | rw [← Ny133.out] at ho3 | (simp only [Int.reduceToNat] at ho3; rw [← Ny133.out] at ho3)); have n0_ := aM (Kd.R_lower ho3 (below_size bQ)); have n1_ := aM (below_step bQ hb); clear HB; have HO135 := n0_; have HB := n1_; clear n0_ n1_; clear hb ho3))
 go_loopg [3, 4] k (fun kq v3 v4 w' => ∃ (x3_1 : List (S92)) (x4_1 : Int), v4 = .int .i64 x4_1 ∧ Aside0 (spec_l23Ranges.l0 kq l0 x3_1 x4_1 = some r) ∧ Aside0 (kq ≤ k) ∧ Aside0 (Kd.R k92 92 w' w.heap.size (fun _ => True) v3 x3_1) ∧ Aside0 (Below w.heap.size w w'))
 case atStart => exact ⟨(y133), (0), rQ, H', ⟨Nat.le_refl _⟩, ⟨by (with_reducible repeat (first | apply rA | apply rN | apply rD)); exact HO135.out⟩, ⟨bQ⟩⟩
 case round =>
  clear H'
  try clear c1
  try clear p2
  obtain ⟨x3_1, x4_1, rfl, HA, HK1, HO_3, HB⟩ := hrel
  cases gk with
  | zero => exact absurd HA.out (by simp [spec_l23Ranges.l0])
  | succ k1 =>
   have H := HA.out
   clear HA
   simp only [spec_l23Ranges.l0] at H
   by_cases c4 : x4_1 < (l0.length : Int)
   ·rw [if_pos c4] at H
    have c4b0 : decide (x4_1 < (l0.length : Int)) = true := decide_eq_true c4
    clear c4
    by_cases c5 : x4_1 > 0
    ·rw [if_pos c5] at H
     have c5b0 : decide (0 < x4_1) = true := decide_eq_true c5
     clear c5
     by_cases c6 : 0 ≤ x4_1
     ·rw [if_pos c6] at H
      have c6b0 : decide (0 ≤ x4_1) = true := decide_eq_true c6
      clear c6
      obtain ⟨ji7, hji7⟩ : ∃ j_ : Int, (wrap64 (x4_1 - 1)) = j_ := ⟨_, rfl⟩
      replace H : (if 0 ≤ (ji7) then (if (ji7) < (l0.length : Int) then (if (rd l0 x4_1) = (wrap64 ((rd l0 (ji7)) + 1)) then (if 0 ≤ (wrap64 ((x3_1.length : Int) - 1)) then (if (wrap64 ((x3_1.length : Int) - 1)) < (x3_1.length : Int) then (spec_l23Ranges.l0 k1 l0 (x3_1.set ((wrap64 ((x3_1.length : Int) - 1)) : Int).toNat (⟨(rd_T92 x3_1 (wrap64 ((x3_1.length : Int) - 1))).f0, rd l0 x4_1⟩ : S92)) (wrap64 (x4_1 + 1))) else (none)) else (none)) else (if x3_1.length < 8796093022208 then (spec_l23Ranges.l0 k1 l0 (x3_1 ++ [(⟨rd l0 x4_1, rd l0 x4_1⟩ : S92)]) (wrap64 (x4_1 + 1))) else (none))) else (none)) else (none)) = some r := by first | (rw [hji7] at H; exact H) | (simp only [hji7] at H ⊢; exact H)
      have hji7w : (IntKind.i64.wrap (x4_1 - 1)) = ji7 := (i64_w _).trans hji7
      by_cases c8 : 0 ≤ (ji7)
      ·rw [if_pos c8] at H
       have c8b0 : decide (0 ≤ (ji7)) = true := decide_eq_true c8
       clear c8
       by_cases c9 : (ji7) < (l0.length : Int)
       ·rw [if_pos c9] at H
        have c9b0 : decide ((ji7) < (l0.length : Int)) = true := decide_eq_true c9
        clear c9
        by_cases c10 : (rd l0 x4_1) = (wrap64 ((rd l0 (ji7)) + 1))
        ·rw [if_pos c10] at H
         have c10b0 : ((rd l0 x4_1) == (wrap64 ((rd l0 (ji7)) + 1))) = true := beq_iff_eq.mpr c10
         have c10b1 : ((rd l0 x4_1) != (wrap64 ((rd l0 (ji7)) + 1))) = false := bne_eq_false_iff_eq.mpr c10
         clear c10
         obtain ⟨ji11, hji11⟩ : ∃ j_ : Int, (wrap64 ((x3_1.length : Int) - 1)) = j_ := ⟨_, rfl⟩
         replace H : (if 0 ≤ (ji11) then (if (ji11) < (x3_1.length : Int) then (spec_l23Ranges.l0 k1 l0 (x3_1.set ((ji11) : Int).toNat (⟨(rd_T92 x3_1 (ji11)).f0, rd l0 x4_1⟩ : S92)) (wrap64 (x4_1 + 1))) else (none)) else (none)) = some r := by first | (rw [hji11] at H; exact H) | (simp only [hji11] at H ⊢; exact H)
         have hji11w : (IntKind.i64.wrap ((x3_1.length : Int) - 1)) = ji11 := (i64_w _).trans hji11
         by_cases c12 : 0 ≤ (ji11)
         ·rw [if_pos c12] at H
          have c12b0 : decide (0 ≤ (ji11)) = true := decide_eq_true c12
          clear c12
          by_cases c13 : (ji11) < (x3_1.length : Int)
          ·rw [if_pos c13] at H
           have c13b0 : decide ((ji11) < (x3_1.length : Int)) = true := decide_eq_true c13
           clear c13
           obtain ⟨y139, hy139⟩ : ∃ y_ : List (S92), y_ = (x3_1.set ((ji11) : Int).toNat (⟨(rd_T92 x3_1 (ji11)).f0, rd l0 x4_1⟩ : S92)) := ⟨_, rfl⟩
           replace H : (spec_l23Ranges.l0 k1 l0 y139 (wrap64 (x4_1 + 1))) = some r := by first | (rw [hy139]; with_reducible exact H) | (have H2_ := bS H; rw [hy139]; with_reducible exact H2_) | (have H2_ := bS H; with_reducible exact H2_) | with_reducible exact H | (rw [hy139]; exact H) | exact H
           have Ny139 := aM hy139
           clear hy139
           have H' := aM H
           clear H
           try go_wp2
           have n0_ := aM (Kd.R_drew HO_3.out)
           have n1_ := aM (below_drew1 HB.out)
           clear HO_3
           clear HB
           have HO_3 := n0_
           have HB := n1_
           clear n0_ n1_
           have p136 : 0 ≤ (x4_1 : Int) := dA
           have q136 : x4_1 < (l0.length : Int) := dA
           obtain ⟨ad136, e136, hx136_0⟩ := Kd.at_int HR0.out x4_1 p136 q136
           have hw136_0 := hx136_0
           cases e136
           replace hx136_0 := cB HB.out hx136_0
           replace p136 := eq_true p136
           replace q136 := eq_true q136
           have p137 : 0 ≤ ((ji7) : Int) := dA
           have q137 : (ji7) < (l0.length : Int) := dA
           obtain ⟨ad137, e137, hx137_0⟩ := Kd.at_int HR0.out (ji7) p137 q137
           have hw137_0 := hx137_0
           obtain rfl : ad136 = ad137 := (by injection e137)
           replace hx137_0 := cB HB.out hx137_0
           replace p137 := eq_true p137
           replace q137 := eq_true q137
           refine start_ (n := 15) (S := fun w' => w'.cell? (ad136.add (x4_1).toNat) = some (.int .i64 (rd l0 x4_1)) ∧ w'.cell? (ad136.add ((ji7)).toNat) = some (.int .i64 (rd l0 (ji7)))) (ds := []) mkspec_l342_0 (by kernel_rfl) rfl rfl ⟨(cB HB.out hw136_0), (cB HB.out hw137_0)⟩ (fun hHeld => ?_); refine with_tabW spec_l23Ranges.tab5 spec_l23Ranges.bits5 (fun HT_ HW_ => ?_)
           generalize wr.drew = w15 at HO_3 HB hx136_0 hx137_0 hHeld ⊢
           refine pQ (i := 0) (N := some 12) mkspec_l342_1 ?_
           refine pQ (i := 1) (N := some 13) mkspec_l342_2 ?_
           refine pQ (i := 2) (N := some 14) mkspec_l342_3 ?_
           refine pQ (i := 3) (N := some 15) mkspec_l342_4 ?_
           refine pQ (i := 4) (N := some 16) mkspec_l342_5 ?_
           refine pQ (i := 5) (N := some 17) mkspec_l342_6 ?_
           refine pQ (i := 7) (N := some 19) mkspec_l342_7 ?_
           refine pQ (i := 8) (N := some 20) mkspec_l342_9 ?_
           refine pQ (i := 9) (N := some 21) mkspec_l342_11 ?_
           refine pQ (i := 10) (N := some 22) mkspec_l342_13 ?_
           refine tQ (i := 6) (N := some 18) mkspec_l342_15 rfl hHeld (Or.inl ⟨by rfl, by rintro w' ⟨s0, s1⟩; go_simp; with_reducible rfl⟩) ?_
           refine tQ (i := 11) (N := some 23) mkspec_l342_16 rfl hHeld (Or.inl ⟨by rfl, by rintro w' ⟨s0, s1⟩; go_simp; with_reducible rfl⟩) ?_
           refine pQ (i := 12) (N := some 24) mkspec_l342_17 ?_
           refine pQ (i := 13) (N := some 25) mkspec_l342_18 ?_
           refine pQ (i := 14) (N := some 26) mkspec_l342_20 ?_
           refine done_ (done_of HT_.out (by kernel_rfl)) ?_
           obtain ⟨Ao16, co16, eo16⟩ := Kd.R_slice HO_3.out
           subst eo16
           have p138 : 0 ≤ (x4_1 : Int) := dA
           have q138 : x4_1 < (l0.length : Int) := dA
           obtain ⟨ad138, e138, hx138_0⟩ := Kd.at_int HR0.out x4_1 p138 q138
           obtain rfl : ad136 = ad138 := (by injection e138)
           replace hx138_0 := cB HB.out hx138_0
           replace p138 := eq_true p138
           replace q138 := eq_true q138
           have p14 : 0 ≤ ((ji11) : Int) := dA
           have q14 : ((ji11) : Int) < ((x3_1.length : Int) : Int) := dA
           obtain ⟨go14, co14, eo14, gb14, gl14, cl14, HG14⟩ := Kd.R_form HO_3.out (by omega)
           (first | cases eo14 | (injection eo14 with ea_ en_ ec_; (first | subst ea_ | (injection ea_ with ea_; subst ea_)); subst ec_; clear en_))
           have GB14 := aM gb14
           have GG14 := aM HG14
           clear gb14 gl14 HG14
           obtain ⟨ce14, hcl14, hM14, hcc14, hfr14⟩ := Kd.R_elem HO_3.out z92 ((ji11) : Int) p14 q14
           obtain rfl := k92_openM hM14
           have hx14_0 : w15.cell? ⟨go14, ((ji11) : Int).toNat * 2, none⟩ = some (.int .i64 ((rd_T92 x3_1 (ji11)).f0)) := hcc14 0 _ rfl
           have hx14_1 : w15.cell? ⟨go14, ((ji11) : Int).toNat * 2 + 1, none⟩ = some (.int .i64 ((rd_T92 x3_1 (ji11)).f1)) := hcc14 1 _ rfl
           have hf14_0 : w15.frozen? ⟨go14, ((ji11) : Int).toNat * 2, none⟩ = false := hfr14 0
           have hf14_1 : w15.frozen? ⟨go14, ((ji11) : Int).toNat * 2 + 1, none⟩ = false := hfr14 1
           clear hcl14 hcc14 hfr14; (try clear hM14)
           replace p14 := eq_true p14
           replace q14 := eq_true q14
           have HX17 := aM (show Kd.R k92 92 w15 w.heap.size (fun _ => True) (.slice (some ⟨go14, 0, none⟩) x3_1.length co16) x3_1 from (by (with_reducible repeat (first | apply rA | apply rN | apply rD)); exact HO_3.out))
           obtain ⟨ce17, hcl17, hM17, hcc17, hfr17⟩ := Kd.R_elem HX17.out z92 ((ji11) : Int) (dA) (by have h_ : ((ji11) : Int) < ((x3_1.length : Int) : Int) := dA; first | exact h_ | (have e_ := (Kd.R_reads' HO_3.out).1; omega) | simpa using h_)
           obtain rfl := k92_openM hM17
           have HP17 := Kd.R_seg HX17.out ((ji11) : Int) (dA) (by have h_ : ((ji11) : Int) < ((x3_1.length : Int) : Int) := dA; first | exact h_ | (have e_ := (Kd.R_reads' HO_3.out).1; omega) | simpa using h_) (seg := [.int .i64 (rd l0 x4_1)]) (j := 1) hcl17 hcc17 (show 2 ≤ 2 from by decide) (x' := (⟨(rd_T92 x3_1 (ji11)).f0, rd l0 x4_1⟩ : S92)) (k92_mkM _ _ _ (⟨(rd_T92 x3_1 (ji11)).f0, rd l0 x4_1⟩ : S92) ) (fun _ hk => hk)
           have hx17_1 := hcc17 1 _ rfl
           (try simp only [show (k92).sz = 2 from rfl, Nat.mul_one, Nat.add_zero] at hx17_1)
           have hf17_1 := hfr17 1
           (try simp only [show (k92).sz = 2 from rfl, Nat.mul_one, Nat.add_zero] at hf17_1)
           clear hcl17 hcc17 hfr17; (try clear hM17)
           try go_wp2_with (first | ((with_reducible refine gate_store (t := 2) (p := 36) rfl ?_); refine store_event (t := 2) (p := 36) (v := ?vo_w18) (w1 := (w15.setCell ⟨go14, ((ji11) : Int).toNat * 2 + 1, none⟩ (.int .i64 (rd l0 x4_1)))) ?hg ?ho ?hn ?hr ?_; (case ho => rfl); (case hg => rfl); (case hn => rfl); (case hr => first | (go_simp; done) | (go_simp; rfl)); intro w18 hw; have hg : w15.grownBy w18 (some go14) := (by rw [hw]; exact HP17.2); have hp_ : Kd.R k92 92 w18 w.heap.size (fun _ => True) (.slice (some ⟨go14, 0, none⟩) x3_1.length co16) y139 := (by rw [hw, Ny139.out]; exact HP17.1); clear HP17; have n0_ := aM (hp_); have n1_ := aM ((by rw [hw]; exact below_set (HB.out) GB14.out : Below w.heap.size w w18)); clear HO_3; clear HB; have HO_3 := n0_; have HB := n1_; clear n0_ n1_; clear hg hw hp_))
           go_roundg k1
           case measure => have := HK1.out; omega
           case rel => exact ⟨(y139), (wrap64 (x4_1 + 1)), rQ, H', ⟨by have := HK1.out; omega⟩, ⟨by (with_reducible repeat (first | apply rA | apply rN | apply rD)); exact HO_3.out⟩, ⟨bQ⟩⟩
          ·rw [if_neg c13] at H
           exact absurd H (by simp)
         ·rw [if_neg c12] at H
          exact absurd H (by simp)
        ·rw [if_neg c10] at H
         have c10b0 : ((rd l0 x4_1) == (wrap64 ((rd l0 (ji7)) + 1))) = false := beq_eq_false_iff_ne.mpr c10
         have c10b1 : ((rd l0 x4_1) != (wrap64 ((rd l0 (ji7)) + 1))) = true := bne_iff_ne.mpr c10
         by_cases c19 : x3_1.length < 8796093022208
         ·rw [if_pos c19] at H
          have LMc19 := aM c19
          clear c19
          obtain ⟨y142, hy142⟩ : ∃ y_ : List (S92), y_ = (x3_1 ++ [(⟨rd l0 x4_1, rd l0 x4_1⟩ : S92)]) := ⟨_, rfl⟩
          replace H : (spec_l23Ranges.l0 k1 l0 y142 (wrap64 (x4_1 + 1))) = some r := by first | (rw [hy142]; with_reducible exact H) | (have H2_ := bS H; rw [hy142]; with_reducible exact H2_) | (have H2_ := bS H; with_reducible exact H2_) | with_reducible exact H | (rw [hy142]; exact H) | exact H
          have Ny142 := aM hy142
          clear hy142
          have H' := aM H
          clear H
          try go_wp2
          have n0_ := aM (Kd.R_drew HO_3.out)
          have n1_ := aM (below_drew1 HB.out)
          clear HO_3
          clear HB
          have HO_3 := n0_
          have HB := n1_
          clear n0_ n1_
          have p136 : 0 ≤ (x4_1 : Int) := dA
          have q136 : x4_1 < (l0.length : Int) := dA
          obtain ⟨ad136, e136, hx136_0⟩ := Kd.at_int HR0.out x4_1 p136 q136
          have hw136_0 := hx136_0
          cases e136
          replace hx136_0 := cB HB.out hx136_0
          replace p136 := eq_true p136
          replace q136 := eq_true q136
          have p137 : 0 ≤ ((ji7) : Int) := dA
          have q137 : (ji7) < (l0.length : Int) := dA
          obtain ⟨ad137, e137, hx137_0⟩ := Kd.at_int HR0.out (ji7) p137 q137
          have hw137_0 := hx137_0
          obtain rfl : ad136 = ad137 := (by injection e137)
          replace hx137_0 := cB HB.out hx137_0
          replace p137 := eq_true p137
          replace q137 := eq_true q137
          refine start_ (n := 15) (S := fun w' => w'.cell? (ad136.add (x4_1).toNat) = some (.int .i64 (rd l0 x4_1)) ∧ w'.cell? (ad136.add ((ji7)).toNat) = some (.int .i64 (rd l0 (ji7)))) (ds := []) mkspec_l342_0 (by kernel_rfl) rfl rfl ⟨(cB HB.out hw136_0), (cB HB.out hw137_0)⟩ (fun hHeld => ?_); refine with_tabW spec_l23Ranges.tab5 spec_l23Ranges.bits5 (fun HT_ HW_ => ?_)
          generalize wr.drew = w20 at HO_3 HB hx136_0 hx137_0 hHeld ⊢
          refine pQ (i := 0) (N := some 12) mkspec_l342_1 ?_
          refine pQ (i := 1) (N := some 13) mkspec_l342_2 ?_
          refine pQ (i := 2) (N := some 14) mkspec_l342_3 ?_
          refine pQ (i := 3) (N := some 15) mkspec_l342_4 ?_
          refine pQ (i := 4) (N := some 16) mkspec_l342_5 ?_
          refine pQ (i := 5) (N := some 17) mkspec_l342_6 ?_
          refine pQ (i := 7) (N := some 19) mkspec_l342_7 ?_
          refine pQ (i := 8) (N := some 20) mkspec_l342_9 ?_
          refine pQ (i := 9) (N := some 21) mkspec_l342_11 ?_
          refine pQ (i := 10) (N := some 22) mkspec_l342_13 ?_
          refine tQ (i := 6) (N := some 18) mkspec_l342_15 rfl hHeld (Or.inl ⟨by rfl, by rintro w' ⟨s0, s1⟩; go_simp; with_reducible rfl⟩) ?_
          refine tQ (i := 11) (N := some 23) mkspec_l342_16 rfl hHeld (Or.inl ⟨by rfl, by rintro w' ⟨s0, s1⟩; go_simp; with_reducible rfl⟩) ?_
          refine pQ (i := 12) (N := some 24) mkspec_l342_17 ?_
          refine pQ (i := 13) (N := some 25) mkspec_l342_18 ?_
          refine pQ (i := 14) (N := some 26) mkspec_l342_20 ?_
          refine done_ (done_of HT_.out (by kernel_rfl)) ?_
          try go_wp2
          have n0_ := aM (Kd.R_drew HO_3.out)
          have n1_ := aM (below_drew1 HB.out)
          clear HO_3
          clear HB
          have HO_3 := n0_
          have HB := n1_
          clear n0_ n1_
          have p140 : 0 ≤ (x4_1 : Int) := dA
          have q140 : x4_1 < (l0.length : Int) := dA
          obtain ⟨ad140, e140, hx140_0⟩ := Kd.at_int HR0.out x4_1 p140 q140
          have hw140_0 := hx140_0
          obtain rfl : ad136 = ad140 := (by injection e140)
          replace hx140_0 := cB HB.out hx140_0
          replace p140 := eq_true p140
          replace q140 := eq_true q140
          have p141 : 0 ≤ (x4_1 : Int) := dA
          have q141 : x4_1 < (l0.length : Int) := dA
          obtain ⟨ad141, e141, hx141_0⟩ := Kd.at_int HR0.out x4_1 p141 q141
          have hw141_0 := hx141_0
          obtain rfl : ad136 = ad141 := (by injection e141)
          replace hx141_0 := cB HB.out hx141_0
          replace p141 := eq_true p141
          replace q141 := eq_true q141
          refine start_ (n := 13) (S := fun w' => w'.cell? (ad136.add (x4_1).toNat) = some (.int .i64 (rd l0 x4_1)) ∧ w'.cell? (ad136.add (x4_1).toNat) = some (.int .i64 (rd l0 x4_1))) (ds := []) mkspec_l342_19 (by kernel_rfl) rfl rfl ⟨(cB HB.out hw140_0), (cB HB.out hw141_0)⟩ (fun hHeld => ?_); refine with_tabW spec_l23Ranges.tab7 spec_l23Ranges.bits7 (fun HT_ HW_ => ?_)
          generalize w20.drew = w21 at HO_3 HB hx140_0 hx141_0 hHeld ⊢
          refine pQ (i := 0) (N := some 37) mkspec_l342_21 ?_
          refine pQ (i := 1) (N := some 38) mkspec_l342_22 ?_
          refine pQ (i := 2) (N := some 39) mkspec_l342_23 ?_
          refine pQ (i := 3) (N := some 40) mkspec_l342_24 ?_
          refine pQ (i := 5) (N := some 42) mkspec_l342_25 ?_
          refine pQ (i := 6) (N := some 43) mkspec_l342_26 ?_
          refine pQ (i := 7) (N := some 44) mkspec_l342_27 ?_
          refine tQ (i := 4) (N := some 41) mkspec_l342_28 rfl hHeld (Or.inl ⟨by rfl, by rintro w' ⟨s0, s1⟩; go_simp; with_reducible rfl⟩) ?_
          refine tQ (i := 8) (N := some 45) mkspec_l342_29 rfl hHeld (Or.inl ⟨by rfl, by rintro w' ⟨s0, s1⟩; go_simp; with_reducible rfl⟩) ?_
          refine pQ (i := 9) (N := some 46) mkspec_l342_30 ?_
          refine one_ (i := 10) (N := some 47) mkspec_l342_31 rfl rfl (one_of HT_.out (by kernel_rfl)) (by decide) (fun K hK => ?_)
          refine value_ (w1 := ?_) (v := ?_) (by rfl) rfl ?_ ?_
          rotate_left 2
          ·go_simp
           constructor
           ·rfl
           ·rfl
          refine hK.out _ _ ⟨(World.cell?_alloc_lt _ _ _ (World.block_lt_of_cell? _ _ ((cB HB.out hw140_0)))).trans ((cB HB.out hw140_0)), (World.cell?_alloc_lt _ _ _ (World.block_lt_of_cell? _ _ ((cB HB.out hw141_0)))).trans ((cB HB.out hw141_0))⟩ (fun hHeld => ?_)
          clear hK K
          refine norm_ (a' := ?_) ?_ ?_
          rotate_left
          ·show Act.put _ (some 47) _ = _
           simp only [Act.put, sI, sZ, sS, i64_w, i32_w]
           rfl
          refine one_ (i := 11) (N := some 48) mkspec_l342_32 rfl rfl (one_of HT_.out (by kernel_rfl)) (by decide) (fun K hK => ?_)
          refine Kd.R_append_step k92 (w0 := w) w.heap.size (by rfl) (.tmp 37) (.tmp 47) 90 92 (.agg #[(.int .i64 0), (.int .i64 0)]) 16 rfl Try.underlying90 info92 rfl (by decide) (by omega) u3 x3_1 (⟨rd l0 x4_1, rd l0 x4_1⟩ : S92) [.int .i64 (rd l0 x4_1), .int .i64 (rd l0 x4_1)] (fun _ => True) (fun _ => False) rfl rfl ?aP (fun _ hk => hk.elim) ?aF ?aO ?aB ?aS ?aL ?_
          (case aP => exact k92_mkM _ _ _ (⟨rd l0 x4_1, rd l0 x4_1⟩ : S92))
          (case aB => exact bQ)
          (case aF => exact (fun _ _ => trivial))
          (case aO => exact (by (with_reducible repeat (first | apply rA | apply rN | apply rD)); exact HO_3.out))
          (case aS => exact (below_size bQ))
          (case aL => have := LMc19.out; omega)
          intro v143 w22 ho hb hg hat
          rw [← Ny142.out] at ho
          have n0_ := aM (hb)
          have n1_ := aM (ho)
          clear HB
          clear HO_3
          have HB := n0_
          have HO144 := n1_
          clear n0_ n1_
          clear ho hb hg hat
          refine hK.out _ _ ⟨(cB HB.out hw140_0), (cB HB.out hw141_0)⟩ (fun hHeld => ?_)
          clear hK K
          refine norm_ (a' := ?_) ?_ ?_
          rotate_left
          ·show Act.put _ (some 48) _ = _
           simp only [Act.put, sI, sZ, sS, i64_w, i32_w]
           rfl
          refine pQ (i := 12) (N := some 3) mkspec_l342_33 ?_
          refine done_ (done_of HT_.out (by kernel_rfl)) ?_
          try go_wp2
          go_roundg k1
          case measure => have := HK1.out; omega
          case rel => exact ⟨(y142), (wrap64 (x4_1 + 1)), rQ, H', ⟨by have := HK1.out; omega⟩, ⟨by (with_reducible repeat (first | apply rA | apply rN | apply rD)); exact HO144.out⟩, ⟨bQ⟩⟩
         ·rw [if_neg c19] at H
          exact absurd H (by simp)
       ·rw [if_neg c9] at H
        exact absurd H (by simp)
      ·rw [if_neg c8] at H
       exact absurd H (by simp)
     ·rw [if_neg c6] at H
      exact absurd H (by simp)
    ·rw [if_neg c5] at H
     have c5b0 : decide (0 < x4_1) = false := decide_eq_false c5
     clear c5
     by_cases c23 : 0 ≤ x4_1
     ·rw [if_pos c23] at H
      have c23b0 : decide (0 ≤ x4_1) = true := decide_eq_true c23
      clear c23
      by_cases c24 : x3_1.length < 8796093022208
      ·rw [if_pos c24] at H
       have LMc24 := aM c24
       clear c24
       obtain ⟨y147, hy147⟩ : ∃ y_ : List (S92), y_ = (x3_1 ++ [(⟨rd l0 x4_1, rd l0 x4_1⟩ : S92)]) := ⟨_, rfl⟩
       replace H : (spec_l23Ranges.l0 k1 l0 y147 (wrap64 (x4_1 + 1))) = some r := by first | (rw [hy147]; with_reducible exact H) | (have H2_ := bS H; rw [hy147]; with_reducible exact H2_) | (have H2_ := bS H; with_reducible exact H2_) | with_reducible exact H | (rw [hy147]; exact H) | exact H
       have Ny147 := aM hy147
       clear hy147
       have H' := aM H
       clear H
       try go_wp2
       have n0_ := aM (Kd.R_drew HO_3.out)
       have n1_ := aM (below_drew1 HB.out)
       clear HO_3
       clear HB
       have HO_3 := n0_
       have HB := n1_
       clear n0_ n1_
       refine start_ (n := 15) (S := fun w' => True) (ds := []) mkspec_l342_0 (by kernel_rfl) rfl rfl trivial (fun hHeld => ?_); refine with_tabW spec_l23Ranges.tab5 spec_l23Ranges.bits5 (fun HT_ HW_ => ?_)
       generalize wr.drew = w25 at HO_3 HB hHeld ⊢
       refine pQ (i := 0) (N := some 12) mkspec_l342_1 ?_
       refine pQ (i := 1) (N := some 13) mkspec_l342_2 ?_
       refine pQ (i := 2) (N := some 14) mkspec_l342_3 ?_
       refine uQ (i := 3) (N := some 15) mkspec_l342_4 ?_
       refine uQ (i := 4) (N := some 16) mkspec_l342_5 ?_
       refine uQ (i := 5) (N := some 17) mkspec_l342_6 ?_
       refine uQ (i := 6) (N := some 18) mkspec_l342_8 ?_
       refine uQ (i := 7) (N := some 19) mkspec_l342_10 ?_
       refine uQ (i := 8) (N := some 20) mkspec_l342_12 ?_
       refine uQ (i := 9) (N := some 21) mkspec_l342_14 ?_
       refine uQ (i := 10) (N := some 22) mkspec_l342_15 ?_
       refine uQ (i := 11) (N := some 23) mkspec_l342_16 ?_
       refine uQ (i := 12) (N := some 24) mkspec_l342_17 ?_
       refine uQ (i := 13) (N := some 25) mkspec_l342_18 ?_
       refine pQ (i := 14) (N := some 26) mkspec_l342_20 ?_
       refine done_ (done_of HT_.out (by kernel_rfl)) ?_
       try go_wp2
       have n0_ := aM (Kd.R_drew HO_3.out)
       have n1_ := aM (below_drew1 HB.out)
       clear HO_3
       clear HB
       have HO_3 := n0_
       have HB := n1_
       clear n0_ n1_
       have p145 : 0 ≤ (x4_1 : Int) := dA
       have q145 : x4_1 < (l0.length : Int) := dA
       obtain ⟨ad145, e145, hx145_0⟩ := Kd.at_int HR0.out x4_1 p145 q145
       have hw145_0 := hx145_0
       cases e145
       replace hx145_0 := cB HB.out hx145_0
       replace p145 := eq_true p145
       replace q145 := eq_true q145
       have p146 : 0 ≤ (x4_1 : Int) := dA
       have q146 : x4_1 < (l0.length : Int) := dA
       obtain ⟨ad146, e146, hx146_0⟩ := Kd.at_int HR0.out x4_1 p146 q146
       have hw146_0 := hx146_0
       obtain rfl : ad145 = ad146 := (by injection e146)
       replace hx146_0 := cB HB.out hx146_0
       replace p146 := eq_true p146
       replace q146 := eq_true q146
       refine start_ (n := 13) (S := fun w' => w'.cell? (ad145.add (x4_1).toNat) = some (.int .i64 (rd l0 x4_1)) ∧ w'.cell? (ad145.add (x4_1).toNat) = some (.int .i64 (rd l0 x4_1))) (ds := []) mkspec_l342_19 (by kernel_rfl) rfl rfl ⟨(cB HB.out hw145_0), (cB HB.out hw146_0)⟩ (fun hHeld => ?_); refine with_tabW spec_l23Ranges.tab7 spec_l23Ranges.bits7 (fun HT_ HW_ => ?_)
       generalize w25.drew = w26 at HO_3 HB hx145_0 hx146_0 hHeld ⊢
       refine pQ (i := 0) (N := some 37) mkspec_l342_21 ?_
       refine pQ (i := 1) (N := some 38) mkspec_l342_22 ?_
       refine pQ (i := 2) (N := some 39) mkspec_l342_23 ?_
       refine pQ (i := 3) (N := some 40) mkspec_l342_24 ?_
       refine pQ (i := 5) (N := some 42) mkspec_l342_25 ?_
       refine pQ (i := 6) (N := some 43) mkspec_l342_26 ?_
       refine pQ (i := 7) (N := some 44) mkspec_l342_27 ?_
       refine tQ (i := 4) (N := some 41) mkspec_l342_28 rfl hHeld (Or.inl ⟨by rfl, by rintro w' ⟨s0, s1⟩; go_simp; with_reducible rfl⟩) ?_
       refine tQ (i := 8) (N := some 45) mkspec_l342_29 rfl hHeld (Or.inl ⟨by rfl, by rintro w' ⟨s0, s1⟩; go_simp; with_reducible rfl⟩) ?_
       refine pQ (i := 9) (N := some 46) mkspec_l342_30 ?_
       refine one_ (i := 10) (N := some 47) mkspec_l342_31 rfl rfl (one_of HT_.out (by kernel_rfl)) (by decide) (fun K hK => ?_)
       refine value_ (w1 := ?_) (v := ?_) (by rfl) rfl ?_ ?_
       rotate_left 2
       ·go_simp
        constructor
        ·rfl
        ·rfl
       refine hK.out _ _ ⟨(World.cell?_alloc_lt _ _ _ (World.block_lt_of_cell? _ _ ((cB HB.out hw145_0)))).trans ((cB HB.out hw145_0)), (World.cell?_alloc_lt _ _ _ (World.block_lt_of_cell? _ _ ((cB HB.out hw146_0)))).trans ((cB HB.out hw146_0))⟩ (fun hHeld => ?_)
       clear hK K
       refine norm_ (a' := ?_) ?_ ?_
       rotate_left
       ·show Act.put _ (some 47) _ = _
        simp only [Act.put, sI, sZ, sS, i64_w, i32_w]
        rfl
       refine one_ (i := 11) (N := some 48) mkspec_l342_32 rfl rfl (one_of HT_.out (by kernel_rfl)) (by decide) (fun K hK => ?_)
       refine Kd.R_append_step k92 (w0 := w) w.heap.size (by rfl) (.tmp 37) (.tmp 47) 90 92 (.agg #[(.int .i64 0), (.int .i64 0)]) 16 rfl Try.underlying90 info92 rfl (by decide) (by omega) u3 x3_1 (⟨rd l0 x4_1, rd l0 x4_1⟩ : S92) [.int .i64 (rd l0 x4_1), .int .i64 (rd l0 x4_1)] (fun _ => True) (fun _ => False) rfl rfl ?aP (fun _ hk => hk.elim) ?aF ?aO ?aB ?aS ?aL ?_
       (case aP => exact k92_mkM _ _ _ (⟨rd l0 x4_1, rd l0 x4_1⟩ : S92))
       (case aB => exact bQ)
       (case aF => exact (fun _ _ => trivial))
       (case aO => exact (by (with_reducible repeat (first | apply rA | apply rN | apply rD)); exact HO_3.out))
       (case aS => exact (below_size bQ))
       (case aL => have := LMc24.out; omega)
       intro v148 w27 ho hb hg hat
       rw [← Ny147.out] at ho
       have n0_ := aM (hb)
       have n1_ := aM (ho)
       clear HB
       clear HO_3
       have HB := n0_
       have HO149 := n1_
       clear n0_ n1_
       clear ho hb hg hat
       refine hK.out _ _ ⟨(cB HB.out hw145_0), (cB HB.out hw146_0)⟩ (fun hHeld => ?_)
       clear hK K
       refine norm_ (a' := ?_) ?_ ?_
       rotate_left
       ·show Act.put _ (some 48) _ = _
        simp only [Act.put, sI, sZ, sS, i64_w, i32_w]
        rfl
       refine pQ (i := 12) (N := some 3) mkspec_l342_33 ?_
       refine done_ (done_of HT_.out (by kernel_rfl)) ?_
       try go_wp2
       go_roundg k1
       case measure => have := HK1.out; omega
       case rel => exact ⟨(y147), (wrap64 (x4_1 + 1)), rQ, H', ⟨by have := HK1.out; omega⟩, ⟨by (with_reducible repeat (first | apply rA | apply rN | apply rD)); exact HO149.out⟩, ⟨bQ⟩⟩
      ·rw [if_neg c24] at H
       exact absurd H (by simp)
     ·rw [if_neg c23] at H
      exact absurd H (by simp)
   ·rw [if_neg c4] at H
    have c4b0 : decide (x4_1 < (l0.length : Int)) = false := decide_eq_false c4
    clear c4
    obtain rfl := Option.some.inj H
    go_wp2
    go_ret
    exact ⟨_, eQ, by (with_reducible repeat (first | apply rA | apply rN | apply rD)); exact HO_3.out, bQ⟩

/-! ### spec_l01Word: function 161 -/
def spec_l01Word.l0 : Nat → Int → List Int → Int → Option (ByteArray)
 | 0, _, _, _ => none
 | k + 1, x0, x5, x6 => if x6 ≥ 0 then (if 0 ≤ x6 then (if x6 < (x5.length : Int) then (spec_l01Word.l0 k (x0 / 256) (x5.set (x6 : Int).toNat ((Go.bits .and .i64 x0 255) % 256)) (wrap64 (x6 - 1))) else (none)) else (none)) else (some (strOfNums x5))
def spec_l01Word.f (k : Nat) (a0 : Int) (a1 : Int) : Option (ByteArray) := if 0 ≤ a1 then (if (a1 : Int).toNat ≤ 281474976710656 then (spec_l01Word.l0 k a0 (List.replicate (a1 : Int).toNat 0) (wrap64 (a1 - 1))) else (none)) else (none)
theorem spec_l01Word.mono_l : ∀ k, (∀ y0 y1 y2, LeO (spec_l01Word.l0 k y0 y1 y2) (spec_l01Word.l0 (k + 1) y0 y1 y2))
 | 0 => fun _ _ _ r h => by simp [spec_l01Word.l0] at h
 | k + 1 => by
  have ih0 := spec_l01Word.mono_l k
  ·intro y0 y1 y2
   unfold spec_l01Word.l0
   repeat' first
   | (with_reducible exact ih0 _ _ _)
   | (with_reducible exact LeO.refl _)
   | (with_reducible exact LeO.none _)
   | (with_reducible refine LeO.ite ?_ ?_)
   | (with_reducible refine LeO.bind ?_ (fun _ => ?_))
   | exact ih0 _ _ _
   | exact LeO.none _
   | refine LeO.ite ?_ ?_
   | refine LeO.bind ?_ (fun _ => ?_)
theorem spec_l01Word.mono : ∀ a0 a1 k, LeO (spec_l01Word.f k a0 a1) (spec_l01Word.f (k + 1) a0 a1) := by
 intro a0 a1 k
 have ih0 := spec_l01Word.mono_l k
 unfold spec_l01Word.f
 repeat' first
   | (with_reducible exact ih0 _ _ _)
   | (with_reducible exact LeO.refl _)
   | (with_reducible exact LeO.none _)
   | (with_reducible refine LeO.ite ?_ ?_)
   | (with_reducible refine LeO.bind ?_ (fun _ => ?_))
   | exact ih0 _ _ _
   | exact LeO.none _
   | refine LeO.ite ?_ ?_
   | refine LeO.bind ?_ (fun _ => ?_)
set_option maxHeartbeats 8000000 in
set_option maxRecDepth 100000 in
theorem spec_l01Word.calls (k : Nat) (a0 : Int) (a1 : Int) (r : ByteArray) (w : World) (h : spec_l01Word.f k a0 a1 = some r) :
  Calls Try.prog 161 #[.int .i64 a0, .int .i64 a1] w fun e w' => e = .returned (.string r) ∧ Below w.heap.size w w' := by
 have HB := aM (Below.refl w.heap.size w)
 have H : (if 0 ≤ a1 then (if (a1 : Int).toNat ≤ 281474976710656 then (spec_l01Word.l0 k a0 (List.replicate (a1 : Int).toNat 0) (wrap64 (a1 - 1))) else (none)) else (none)) = some r := h
 clear h
 by_cases c3 : 0 ≤ a1
 ·rw [if_pos c3] at H
  have c3b0 := eq_true c3
  have c3b1 : decide (0 ≤ a1) = true := decide_eq_true c3
  clear c3
  by_cases c4 : (a1 : Int).toNat ≤ 281474976710656
  ·rw [if_pos c4] at H
   have c4b0 := eq_true c4
   have c4b1 : decide ((a1 : Int).toNat ≤ 281474976710656) = true := decide_eq_true c4
   clear c4
   obtain ⟨y150, hy150⟩ : ∃ y_ : List Int, y_ = (List.replicate (a1 : Int).toNat 0) := ⟨_, rfl⟩
   replace H : (spec_l01Word.l0 k a0 y150 (wrap64 (a1 - 1))) = some r := by first | (rw [hy150]; with_reducible exact H) | (have H2_ := bS H; rw [hy150]; with_reducible exact H2_) | (have H2_ := bS H; with_reducible exact H2_) | with_reducible exact H | (rw [hy150]; exact H) | exact H
   have Ny150 := aM hy150
   clear hy150
   have H' := aM H
   clear H
   go_enter Try.func161, Try.ntmps161
   go_wp2_with (first | ((with_reducible refine gate_dst (N := 8) rfl ?_); refine Kd.R_make (Kd.int .u8) _ 5 rfl (N := 8) rfl 184 _ _ rfl a1 rfl rfl Try.underlying184 (.int .u8 0) 1 info5 rfl (by decide) (by omega) 0 (ok := fun _ => True) (okp := fun _ => True) rfl (fun _ hk => hk) trivial (dA) (Nat.le_trans (Nat.mul_le_mul_right _ (dA : a1.toNat ≤ 281474976710656)) (by omega)) (Below.refl _ _) (Nat.le_refl _) ?_; intro v151 w5 ho6 hb hg_ hnew_; clear hg_ hnew_; (first | rw [← Ny150.out] at ho6 | (simp only [Int.reduceToNat] at ho6; rw [← Ny150.out] at ho6)); have n0_ := aM (Kd.R_lower ho6 (below_size bQ)); have n1_ := aM (below_step bQ hb); clear HB; have HO152 := n0_; have HB := n1_; clear n0_ n1_; clear hb ho6))
   go_loopg [0, 6] k (fun kq v0 v6 w' => ∃ (x0_1 : Int) (x5_1 : List Int) (x6_1 : Int), v0 = .int .i64 x0_1 ∧ v6 = .int .i64 x6_1 ∧ Aside0 (spec_l01Word.l0 kq x0_1 x5_1 x6_1 = some r) ∧ Aside0 (kq ≤ k) ∧ Aside0 (Kd.R (Kd.int .u8) 5 w' w.heap.size (fun _ => True) v151 x5_1) ∧ Aside0 (Below w.heap.size w w'))
   case atStart => exact ⟨(a0), (y150), (wrap64 (a1 - 1)), rQ, rQ, H', ⟨Nat.le_refl _⟩, ⟨by (with_reducible repeat (first | apply rA | apply rN | apply rD)); exact HO152.out⟩, ⟨bQ⟩⟩
   case round =>
    clear H'
    try clear c1
    try clear p2
    try clear c3
    try clear c3b0
    try clear c3b1
    try clear c4
    try clear c4b0
    try clear c4b1
    try clear p6
    obtain ⟨x0_1, x5_1, x6_1, rfl, rfl, HA, HK1, HO_5, HB⟩ := hrel
    cases gk with
    | zero => exact absurd HA.out (by simp [spec_l01Word.l0])
    | succ k1 =>
     have H := HA.out
     clear HA
     simp only [spec_l01Word.l0] at H
     by_cases c7 : x6_1 ≥ 0
     ·rw [if_pos c7] at H
      have c7b0 : decide (0 ≤ x6_1) = true := decide_eq_true c7
      clear c7
      by_cases c8 : 0 ≤ x6_1
      ·rw [if_pos c8] at H
       have c8b0 : decide (0 ≤ x6_1) = true := decide_eq_true c8
       clear c8
       by_cases c9 : x6_1 < (x5_1.length : Int)
       ·rw [if_pos c9] at H
        have c9b0 : decide (x6_1 < (x5_1.length : Int)) = true := decide_eq_true c9
        clear c9
        obtain ⟨y153, hy153⟩ : ∃ y_ : List Int, y_ = (x5_1.set (x6_1 : Int).toNat ((Go.bits .and .i64 x0_1 255) % 256)) := ⟨_, rfl⟩
        replace H : (spec_l01Word.l0 k1 (x0_1 / 256) y153 (wrap64 (x6_1 - 1))) = some r := by first | (rw [hy153]; with_reducible exact H) | (have H2_ := bS H; rw [hy153]; with_reducible exact H2_) | (have H2_ := bS H; with_reducible exact H2_) | with_reducible exact H | (rw [hy153]; exact H) | exact H
        have Ny153 := aM hy153
        clear hy153
        have H' := aM H
        clear H
        have p10 : 0 ≤ (x6_1 : Int) := dA
        have q10 : (x6_1 : Int) < ((x5_1.length : Int) : Int) := dA
        obtain ⟨go10, co10, eo10, gb10, gl10, cl10, HG10⟩ := Kd.R_form HO_5.out (by omega)
        (first | cases eo10 | (injection eo10 with ea_ en_ ec_; (first | subst ea_ | (injection ea_ with ea_; subst ea_)); subst ec_; clear en_))
        have GB10 := aM gb10
        have GG10 := aM HG10
        clear gb10 gl10 HG10
        obtain ⟨hx10_0, hf10_0⟩ := Kd.R_celln 0 HO_5.out (x6_1 : Int) p10 q10
        replace p10 := eq_true p10
        replace q10 := eq_true q10
        have HP11 := Kd.R_putg HO_5.out (x6_1 : Int) ((Go.bits .and .i64 x0_1 255) % 256)
        go_wp2_with (first | ((with_reducible refine gate_store (t := 5) (p := 20) rfl ?_); refine store_event (t := 5) (p := 20) (v := ?vo_w12) (w1 := (wr.setCell ⟨go10, (x6_1 : Int).toNat, none⟩ (.int .u8 ((Go.bits .and .i64 x0_1 255) % 256)))) ?hg ?ho ?hn ?hr ?_; (case ho => rfl); (case hg => rfl); (case hn => rfl); (case hr => first | (go_simp; done) | (go_simp; rfl)); intro w12 hw; have hg : wr.grownBy w12 (some go10) := (by rw [hw]; exact HP11.2); have hp_ : Kd.R (Kd.int .u8) 5 w12 w.heap.size (fun _ => True) (.slice (some ⟨go10, 0, none⟩) x5_1.length co10) y153 := (by rw [hw, Ny153.out]; exact HP11.1); clear HP11; have n0_ := aM (hp_); have n1_ := aM ((by rw [hw]; exact below_set (HB.out) GB10.out : Below w.heap.size w w12)); clear HO_5; clear HB; have HO_5 := n0_; have HB := n1_; clear n0_ n1_; clear hg hw hp_))
        go_roundg k1
        case measure => have := HK1.out; omega
        case rel => exact ⟨(x0_1 / 256), (y153), (wrap64 (x6_1 - 1)), rQ, rQ, H', ⟨by have := HK1.out; omega⟩, ⟨by (with_reducible repeat (first | apply rA | apply rN | apply rD)); exact HO_5.out⟩, ⟨bQ⟩⟩
       ·rw [if_neg c9] at H
        exact absurd H (by simp)
      ·rw [if_neg c8] at H
       exact absurd H (by simp)
     ·rw [if_neg c7] at H
      have c7b0 : decide (0 ≤ x6_1) = false := decide_eq_false c7
      clear c7
      obtain rfl := Option.some.inj H
      have hcv13 := own_string (P := Try.prog) Try.underlying184 Try.underlying5 Try.underlying9 (Kd.own_of_R HO_5.out)
      go_wp2
      go_ret
      exact ⟨eQ, bQ⟩
  ·rw [if_neg c4] at H
   exact absurd H (by simp)
 ·rw [if_neg c3] at H
  exact absurd H (by simp)

/-! ### spec_l23Words: function 124 -/
def spec_l23Words.l0 : Nat → List Int → ByteArray → Int → Option (ByteArray)
 | 0, _, _, _ => none
 | k + 1, x0, x3, x4 => if x4 < (x0.length : Int) then (if 0 ≤ x4 then ((spec_l01Word.f k (rd x0 x4) 2).bind fun t155 => (if x3.size + t155.size ≤ 9223372036854775807 then (spec_l23Words.l0 k x0 (x3 ++ t155) (wrap64 (x4 + 1))) else (none))) else (none)) else (some x3)
def spec_l23Words.f (k : Nat) (l0 : List Int) : Option (ByteArray) := spec_l23Words.l0 k l0 (⟨#[]⟩ : ByteArray) 0
theorem spec_l23Words.mono_l : ∀ k, (∀ y0 y1 y2, LeO (spec_l23Words.l0 k y0 y1 y2) (spec_l23Words.l0 (k + 1) y0 y1 y2))
 | 0 => fun _ _ _ r h => by simp [spec_l23Words.l0] at h
 | k + 1 => by
  have ih0 := spec_l23Words.mono_l k
  ·intro y0 y1 y2
   unfold spec_l23Words.l0
   repeat' first
   | (with_reducible exact ih0 _ _ _)
   | (with_reducible exact spec_l01Word.mono _ _ _)
   | (with_reducible exact LeO.refl _)
   | (with_reducible exact LeO.none _)
   | (with_reducible refine LeO.ite ?_ ?_)
   | (with_reducible refine LeO.bind ?_ (fun _ => ?_))
   | exact ih0 _ _ _
   | exact spec_l01Word.mono _ _ _
   | exact LeO.none _
   | refine LeO.ite ?_ ?_
   | refine LeO.bind ?_ (fun _ => ?_)
theorem spec_l23Words.mono : ∀ a0 k, LeO (spec_l23Words.f k a0) (spec_l23Words.f (k + 1) a0) := by
 intro a0 k
 have ih0 := spec_l23Words.mono_l k
 unfold spec_l23Words.f
 repeat' first
   | (with_reducible exact ih0 _ _ _)
   | (with_reducible exact spec_l01Word.mono _ _ _)
   | (with_reducible exact LeO.refl _)
   | (with_reducible exact LeO.none _)
   | (with_reducible refine LeO.ite ?_ ?_)
   | (with_reducible refine LeO.bind ?_ (fun _ => ?_))
   | exact ih0 _ _ _
   | exact spec_l01Word.mono _ _ _
   | exact LeO.none _
   | refine LeO.ite ?_ ?_
   | refine LeO.bind ?_ (fun _ => ?_)
set_option maxHeartbeats 8000000 in
set_option maxRecDepth 100000 in
theorem spec_l23Words.calls (k : Nat) (A0 : Option Addr) (c0 : Nat) (l0 : List Int) (r : ByteArray) (w : World) (hr0 : Kd.C (Kd.int .i64) w A0 l0.length l0) (hc0 : l0.length ≤ c0) (h : spec_l23Words.f k l0 = some r) :
  Calls Try.prog 124 #[.slice A0 l0.length c0] w fun e w' => e = .returned (.string r) ∧ Below w.heap.size w w' := by
 have HR0 := aM hr0
 have HC0 := aM hc0
 clear hr0 hc0
 have HB := aM (Below.refl w.heap.size w)
 have H : (spec_l23Words.l0 k l0 (⟨#[]⟩ : ByteArray) 0) = some r := h
 clear h
 have H' := aM H
 clear H
 go_enter Try.func124, Try.ntmps124
 go_wp2
 go_loopg [3, 4] k (fun kq v3 v4 w' => ∃ (x3_1 : ByteArray) (x4_1 : Int), v3 = .string x3_1 ∧ v4 = .int .i64 x4_1 ∧ Aside0 (spec_l23Words.l0 kq l0 x3_1 x4_1 = some r) ∧ Aside0 (kq ≤ k) ∧ Aside0 (Below w.heap.size w w'))
 case atStart => exact ⟨((⟨#[]⟩ : ByteArray)), (0), rQ, rQ, H', ⟨Nat.le_refl _⟩, ⟨bQ⟩⟩
 case round =>
  clear H'
  try clear c1
  obtain ⟨x3_1, x4_1, rfl, rfl, HA, HK1, HB⟩ := hrel
  cases gk with
  | zero => exact absurd HA.out (by simp [spec_l23Words.l0])
  | succ k1 =>
   have H := HA.out
   clear HA
   simp only [spec_l23Words.l0] at H
   by_cases c2 : x4_1 < (l0.length : Int)
   ·rw [if_pos c2] at H
    have c2b0 : decide (x4_1 < (l0.length : Int)) = true := decide_eq_true c2
    clear c2
    by_cases c3 : 0 ≤ x4_1
    ·rw [if_pos c3] at H
     have c3b0 : decide (0 ≤ x4_1) = true := decide_eq_true c3
     clear c3
     replace H := Option.bind_eq_some_iff.mp H
     obtain ⟨t155, A40, H⟩ := H
     replace H : (if x3_1.size + t155.size ≤ 9223372036854775807 then (spec_l23Words.l0 k1 l0 (x3_1 ++ t155) (wrap64 (x4_1 + 1))) else (none)) = some r := H
     have A4 := aM A40
     clear A40
     by_cases c5 : x3_1.size + t155.size ≤ 9223372036854775807
     ·rw [if_pos c5] at H
      have c5b0 := eq_true c5
      have c5b1 : decide (x3_1.size + t155.size ≤ 9223372036854775807) = true := decide_eq_true c5
      try have c5b2 : (9223372036854775807 < x3_1.size + t155.size) = False := eq_false (Nat.not_lt.2 c5)
      have H' := aM H
      clear H
      have p154 : 0 ≤ (x4_1 : Int) := dA
      have q154 : x4_1 < (l0.length : Int) := dA
      obtain ⟨ad154, e154, hx154_0⟩ := Kd.at_int HR0.out x4_1 p154 q154
      cases e154
      replace hx154_0 := cB HB.out hx154_0
      replace p154 := eq_true p154
      replace q154 := eq_true q154
      go_wp2_with (first | ((with_reducible refine gate_callee (f := 161) rfl ?_); refine goesL_ (some 16) rfl rfl Try.func161 (by kernel_rfl) rfl #[.int .i64 (rd l0 x4_1), .int .i64 2] rfl gQ ?_; (with_reducible refine (spec_l01Word.calls k1 (rd l0 x4_1) 2 t155 _ A4.out).mono ?_); rintro e w6 ⟨rfl, hb⟩; refine ⟨_, rfl, ?_⟩; have n0_ := aM (below_step bQ hb); clear HB; have HB := n0_; clear n0_; (try clear hb); (try clear hb2); (try clear hk); (try clear hi)))
      go_roundg k1
      case measure => have := HK1.out; omega
      case rel => exact ⟨(x3_1 ++ t155), (wrap64 (x4_1 + 1)), rQ, rQ, H', ⟨by have := HK1.out; omega⟩, ⟨bQ⟩⟩
     ·rw [if_neg c5] at H
      exact absurd H (by simp)
    ·rw [if_neg c3] at H
     exact absurd H (by simp)
   ·rw [if_neg c2] at H
    have c2b0 : decide (x4_1 < (l0.length : Int)) = false := decide_eq_false c2
    clear c2
    obtain rfl := Option.some.inj H
    go_wp2
    go_ret
    exact ⟨eQ, bQ⟩

end Go.Proofs.Ytdahcapolipnbaa.QFnExactDecodeClass
