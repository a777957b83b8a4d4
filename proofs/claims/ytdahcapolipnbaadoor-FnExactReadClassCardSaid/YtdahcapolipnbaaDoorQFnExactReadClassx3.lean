/- What some Go functions answer, each as a Lean function, and that the machine answers so: written by a program of this session out of the translation. -/
import Derived.Test.YtdahcapolipnbaaDoorQFnExactReadClassx0
import Derived.Test.YtdahcapolipnbaaDoorQFnExactReadClassx1
namespace Go.Proofs.YtdahcapolipnbaaDoor.QFnExactReadClass
open Go.RowKit Go.Proofs.YtdahcapolipnbaaDoorW.PrintWords Go.Proofs.YtdahcapolipnbaaDoorW.PrintLast Go.Proofs.YtdahcapolipnbaaDoorW.PrintMore Go.Proofs.YtdahcapolipnbaaDoor.Rp
attribute [local go_sem] max2_int min2_int max_two min_two max_three min_three max_four min_four   -- for this text's walks alone
set_option linter.unusedVariables false
set_option linter.unusedSimpArgs false

/-! ### spec_l23Ranges: function 80 -/
abbrev mkspec_l342_0 : Array Bool := #[ff,ff,ff,ff,ff,ff,ff,ff,ff,ff,ff,ff,ff,ff,ff]
abbrev mkspec_l342_1 : Array Bool := #[tt,ff,ff,ff,ff,ff,ff,ff,ff,ff,ff,ff,ff,ff,ff]
abbrev mkspec_l342_2 : Array Bool := #[tt,tt,ff,ff,ff,ff,ff,ff,ff,ff,ff,ff,ff,ff,ff]
abbrev mkspec_l342_3 : Array Bool := #[tt,tt,tt,ff,ff,ff,ff,ff,ff,ff,ff,ff,ff,ff,ff]
abbrev mkspec_l342_4 : Array Bool := #[tt,tt,tt,tt,ff,ff,ff,ff,ff,ff,ff,ff,ff,ff,ff]
abbrev mkspec_l342_5 : Array Bool := #[tt,tt,tt,tt,tt,ff,ff,ff,ff,ff,ff,ff,ff,ff,ff]
abbrev mkspec_l342_6 : Array Bool := #[tt,tt,tt,tt,tt,tt,ff,ff,ff,ff,ff,ff,ff,ff,ff]
abbrev mkspec_l342_7 : Array Bool := #[tt,tt,tt,tt,tt,tt,ff,tt,ff,ff,ff,ff,ff,ff,ff]
abbrev mkspec_l342_8 : Array Bool := #[tt,tt,tt,tt,tt,tt,tt,ff,ff,ff,ff,ff,ff,ff,ff]
abbrev mkspec_l342_9 : Array Bool := #[tt,tt,tt,tt,tt,tt,ff,tt,tt,ff,ff,ff,ff,ff,ff]
abbrev mkspec_l342_10 : Array Bool := #[tt,tt,tt,tt,tt,tt,tt,tt,ff,ff,ff,ff,ff,ff,ff]
abbrev mkspec_l342_11 : Array Bool := #[tt,tt,tt,tt,tt,tt,ff,tt,tt,tt,ff,ff,ff,ff,ff]
abbrev mkspec_l342_12 : Array Bool := #[tt,tt,tt,tt,tt,tt,tt,tt,tt,ff,ff,ff,ff,ff,ff]
abbrev mkspec_l342_13 : Array Bool := #[tt,tt,tt,tt,tt,tt,ff,tt,tt,tt,tt,ff,ff,ff,ff]
abbrev mkspec_l342_14 : Array Bool := #[tt,tt,tt,tt,tt,tt,tt,tt,tt,tt,ff,ff,ff,ff,ff]
abbrev mkspec_l342_15 : Array Bool := #[tt,tt,tt,tt,tt,tt,tt,tt,tt,tt,tt,ff,ff,ff,ff]
abbrev mkspec_l342_16 : Array Bool := #[tt,tt,tt,tt,tt,tt,tt,tt,tt,tt,tt,tt,ff,ff,ff]
abbrev mkspec_l342_17 : Array Bool := #[tt,tt,tt,tt,tt,tt,tt,tt,tt,tt,tt,tt,tt,ff,ff]
abbrev mkspec_l342_18 : Array Bool := #[tt,tt,tt,tt,tt,tt,tt,tt,tt,tt,tt,tt,tt,tt,ff]
abbrev mkspec_l342_19 : Array Bool := #[ff,ff,ff,ff,ff,ff,ff,ff,ff,ff,ff,ff,ff]
abbrev mkspec_l342_20 : Array Bool := #[tt,tt,tt,tt,tt,tt,tt,tt,tt,tt,tt,tt,tt,tt,tt]
abbrev mkspec_l342_21 : Array Bool := #[tt,ff,ff,ff,ff,ff,ff,ff,ff,ff,ff,ff,ff]
abbrev mkspec_l342_22 : Array Bool := #[tt,tt,ff,ff,ff,ff,ff,ff,ff,ff,ff,ff,ff]
abbrev mkspec_l342_23 : Array Bool := #[tt,tt,tt,ff,ff,ff,ff,ff,ff,ff,ff,ff,ff]
abbrev mkspec_l342_24 : Array Bool := #[tt,tt,tt,tt,ff,ff,ff,ff,ff,ff,ff,ff,ff]
abbrev mkspec_l342_25 : Array Bool := #[tt,tt,tt,tt,ff,tt,ff,ff,ff,ff,ff,ff,ff]
abbrev mkspec_l342_26 : Array Bool := #[tt,tt,tt,tt,ff,tt,tt,ff,ff,ff,ff,ff,ff]
abbrev mkspec_l342_27 : Array Bool := #[tt,tt,tt,tt,ff,tt,tt,tt,ff,ff,ff,ff,ff]
abbrev mkspec_l342_28 : Array Bool := #[tt,tt,tt,tt,tt,tt,tt,tt,ff,ff,ff,ff,ff]
abbrev mkspec_l342_29 : Array Bool := #[tt,tt,tt,tt,tt,tt,tt,tt,tt,ff,ff,ff,ff]
abbrev mkspec_l342_30 : Array Bool := #[tt,tt,tt,tt,tt,tt,tt,tt,tt,tt,ff,ff,ff]
abbrev mkspec_l342_31 : Array Bool := #[tt,tt,tt,tt,tt,tt,tt,tt,tt,tt,tt,ff,ff]
abbrev mkspec_l342_32 : Array Bool := #[tt,tt,tt,tt,tt,tt,tt,tt,tt,tt,tt,tt,ff]
abbrev mkspec_l342_33 : Array Bool := #[tt,tt,tt,tt,tt,tt,tt,tt,tt,tt,tt,tt,tt]
def spec_l23Ranges.l0 : Nat → List Int → List (S63) → Int → Option ((List (S63)))
 | 0, _, _, _ => none
 | k + 1, x0, x3, x4 => if x4 < (x0.length : Int) then (if x4 > 0 then (if 0 ≤ x4 then (if 0 ≤ (wrap64 (x4 - 1)) then (if (wrap64 (x4 - 1)) < (x0.length : Int) then (if (rd x0 x4) = (wrap64 ((rd x0 (wrap64 (x4 - 1))) + 1)) then (if 0 ≤ (wrap64 ((x3.length : Int) - 1)) then (if (wrap64 ((x3.length : Int) - 1)) < (x3.length : Int) then (spec_l23Ranges.l0 k x0 (x3.set ((wrap64 ((x3.length : Int) - 1)) : Int).toNat (⟨(rd_T63 x3 (wrap64 ((x3.length : Int) - 1))).f0, rd x0 x4⟩ : S63)) (wrap64 (x4 + 1))) else (none)) else (none)) else (if x3.length < 8796093022208 then (spec_l23Ranges.l0 k x0 (x3 ++ [(⟨rd x0 x4, rd x0 x4⟩ : S63)]) (wrap64 (x4 + 1))) else (none))) else (none)) else (none)) else (none)) else (if 0 ≤ x4 then (if x3.length < 8796093022208 then (spec_l23Ranges.l0 k x0 (x3 ++ [(⟨rd x0 x4, rd x0 x4⟩ : S63)]) (wrap64 (x4 + 1))) else (none)) else (none))) else (some x3)
def spec_l23Ranges.f (k : Nat) (l0 : List Int) : Option ((List (S63))) := spec_l23Ranges.l0 k l0 (([] : List (S63))) 0
theorem spec_l23Ranges.mono_l : ∀ k, (∀ y0 y1 y2, LeO (spec_l23Ranges.l0 k y0 y1 y2) (spec_l23Ranges.l0 (k + 1) y0 y1 y2))
 | 0 => fun _ _ _ r h => by simp [spec_l23Ranges.l0] at h
 | k + 1 => by
  have ih0 := spec_l23Ranges.mono_l k
  ·intro y0 y1 y2
   unfold spec_l23Ranges.l0
   repeat' first
   | (with_reducible exact ih0 _ _ _)
   | (with_reducible exact LeO.refl _)
   | (with_reducible exact LeO.none _)
   | (with_reducible refine LeO.ite ?_ ?_)
   | (with_reducible refine LeO.bind ?_ (fun _ => ?_))
   | exact ih0 _ _ _
   | exact LeO.none _
   | refine LeO.ite ?_ ?_
   | refine LeO.bind ?_ (fun _ => ?_)
theorem spec_l23Ranges.mono : ∀ a0 k, LeO (spec_l23Ranges.f k a0) (spec_l23Ranges.f (k + 1) a0) := by
 intro a0 k
 have ih0 := spec_l23Ranges.mono_l k
 unfold spec_l23Ranges.f
 repeat' first
   | (with_reducible exact ih0 _ _ _)
   | (with_reducible exact LeO.refl _)
   | (with_reducible exact LeO.none _)
   | (with_reducible refine LeO.ite ?_ ?_)
   | (with_reducible refine LeO.bind ?_ (fun _ => ?_))
   | exact ih0 _ _ _
   | exact LeO.none _
   | refine LeO.ite ?_ ?_
   | refine LeO.bind ?_ (fun _ => ?_)
def spec_l23Ranges.T5 : Bool × List (List Nat × List Nat) := (true, [([], []), ([0], [0]), ([1], [1]), ([2], [2]), ([2], [2]), ([3, 4, 2], [2, 3, 4]), ([5, 2], [2, 5]), ([2], [2]), ([2], [2]), ([8, 2], [2, 8]), ([7, 9, 2], [2, 7, 9]), ([10, 2], [2, 10]), ([11, 2], [2, 11]), ([6, 12, 2], [2, 6, 12]), ([2, 13], [2, 13])])
def spec_l23Ranges.B5 : List Nat := [0, 1, 3, 7, 7, 31, 63, 7, 7, 263, 903, 1927, 3975, 8191, 16383]
theorem spec_l23Ranges.tab5 : rtab .any (opsOf Tryd.f80 5) = spec_l23Ranges.T5 := by kernel_rfl
theorem spec_l23Ranges.bits5 : waitsOk spec_l23Ranges.T5.2 spec_l23Ranges.B5 = true := by kernel_rfl
def spec_l23Ranges.T7 : Bool × List (List Nat × List Nat) := (true, [([], []), ([], []), ([], []), ([1, 2], [1, 2]), ([3], [3]), ([], []), ([], []), ([5, 6], [5, 6]), ([7], [7]), ([4, 8], [4, 8]), ([9], [9]), ([0, 10], [0, 10]), ([11, 11, 0, 1, 2, 3, 4, 5, 6, 7, 8, 9, 10, 11], [0, 11])])
def spec_l23Ranges.B7 : List Nat := [0, 0, 0, 6, 14, 0, 0, 96, 224, 510, 1022, 2047, 4095]
theorem spec_l23Ranges.tab7 : rtab .any (opsOf Tryd.f80 7) = spec_l23Ranges.T7 := by kernel_rfl
theorem spec_l23Ranges.bits7 : waitsOk spec_l23Ranges.T7.2 spec_l23Ranges.B7 = true := by kernel_rfl
set_option maxHeartbeats 8000000 in
set_option maxRecDepth 100000 in
theorem spec_l23Ranges.calls (k : Nat) (A0 : Option Addr) (c0 : Nat) (l0 : List Int) (r : List (S63)) (w : World) (hr0 : Kd.C (Kd.int .i64) w A0 l0.length l0) (hc0 : l0.length ≤ c0) (h : spec_l23Ranges.f k l0 = some r) :
  Calls Tryd.prog 80 #[.slice A0 l0.length c0] w fun e w' => ∃ v0_ : Value, e = .returned (v0_) ∧ Kd.R k63 63 w' w.heap.size (fun _ => True) v0_ r ∧ Below w.heap.size w w' := by
 have hu63 := Tryd.underlying63
 have HR0 := aM hr0
 have HC0 := aM hc0
 clear hr0 hc0
 have HB := aM (Below.refl w.heap.size w)
 have H : (spec_l23Ranges.l0 k l0 (([] : List (S63))) 0) = some r := h
 clear h
 obtain ⟨y141, hy141⟩ : ∃ y_ : List (S63), y_ = (([] : List (S63))) := ⟨_, rfl⟩
 replace H : (spec_l23Ranges.l0 k l0 y141 0) = some r := by first | (rw [hy141]; with_reducible exact H) | (have H2_ := bS H; rw [hy141]; with_reducible exact H2_) | (have H2_ := bS H; with_reducible exact H2_) | with_reducible exact H | (rw [hy141]; exact H) | exact H
 have Ny141 := aM hy141
 clear hy141
 have H' := aM H
 clear H
 go_enter Tryd.func80, Tryd.ntmps80
 go_wp2_with (first | ((with_reducible refine gate_dst (N := 5) rfl ?_); refine Kd.R_lit k63 _ 63 ?hg (N := 5) ?hd (xs := ([] : List (S63))) (inner := []) (ok := fun _ => True) (okp := fun _ => True) ?hr ?hp (fun _ hk => hk) trivial (Below.refl _ _) (Nat.le_refl _) (by simp) ?_; (case hd => rfl); (case hg => rfl); (case hr => first | (go_simp; done) | (go_simp; rfl)); (case hp => exact (Reps.none _ _)); intro v142 w2 ho3 hb hg_ hnew_; clear hg_ hnew_; (first | rw [← Ny141.out] at ho3 | (simp only [Int.reduceToNat] at ho3; rw [← Ny141.out] at ho3)); have n0_ := aM (Kd.R_lower ho3 (below_size bQ)); have n1_ := aM (below_step bQ hb); clear HB; have HO143 := n0_; have HB := n1_; clear n0_ n1_; clear hb ho3))
 go_loopg [3, 4] k (fun kq v3 v4 w' => ∃ (x3_1 : List (S63)) (x4_1 : Int), v4 = .int .i64 x4_1 ∧ Aside0 (spec_l23Ranges.l0 kq l0 x3_1 x4_1 = some r) ∧ Aside0 (kq ≤ k) ∧ Aside0 (Kd.R k63 63 w' w.heap.size (fun _ => True) v3 x3_1) ∧ Aside0 (Below w.heap.size w w'))
 case atStart => exact ⟨(y141), (0), rQ, H', ⟨Nat.le_refl _⟩, ⟨by (with_reducible repeat (first | apply rA | apply rN | apply rD)); exact HO143.out⟩, ⟨bQ⟩⟩
 case round =>
  clear H'
  try clear p2
  obtain ⟨x3_1, x4_1, rfl, HA, HK1, HO_3, HB⟩ := hrel
  cases gk with
  | zero => exact absurd HA.out (by simp [spec_l23Ranges.l0])
  | succ k1 =>
   have H := HA.out
   clear HA
   simp only [spec_l23Ranges.l0] at H
   by_cases c4 : x4_1 < (l0.length : Int)
   ·rw [if_pos c4] at H
    have c4b0 : decide (x4_1 < (l0.length : Int)) = true := decide_eq_true c4
    clear c4
    by_cases c5 : x4_1 > 0
    ·rw [if_pos c5] at H
     have c5b0 : decide (0 < x4_1) = true := decide_eq_true c5
     clear c5
     by_cases c6 : 0 ≤ x4_1
     ·rw [if_pos c6] at H
      have c6b0 : decide (0 ≤ x4_1) = true := decide_eq_true c6
      clear c6
      obtain ⟨ji7, hji7⟩ : ∃ j_ : Int, (wrap64 (x4_1 - 1)) = j_ := ⟨_, rfl⟩
      replace H : (if 0 ≤ (ji7) then (if (ji7) < (l0.length : Int) then (if (rd l0 x4_1) = (wrap64 ((rd l0 (ji7)) + 1)) then (if 0 ≤ (wrap64 ((x3_1.length : Int) - 1)) then (if (wrap64 ((x3_1.length : Int) - 1)) < (x3_1.length : Int) then (spec_l23Ranges.l0 k1 l0 (x3_1.set ((wrap64 ((x3_1.length : Int) - 1)) : Int).toNat (⟨(rd_T63 x3_1 (wrap64 ((x3_1.length : Int) - 1))).f0, rd l0 x4_1⟩ : S63)) (wrap64 (x4_1 + 1))) else (none)) else (none)) else (if x3_1.length < 8796093022208 then (spec_l23Ranges.l0 k1 l0 (x3_1 ++ [(⟨rd l0 x4_1, rd l0 x4_1⟩ : S63)]) (wrap64 (x4_1 + 1))) else (none))) else (none)) else (none)) = some r := by first | (rw [hji7] at H; exact H) | (simp only [hji7] at H ⊢; exact H)
      have hji7w : (IntKind.i64.wrap (x4_1 - 1)) = ji7 := (i64_w _).trans hji7
      by_cases c8 : 0 ≤ (ji7)
      ·rw [if_pos c8] at H
       have c8b0 : decide (0 ≤ (ji7)) = true := decide_eq_true c8
       clear c8
       by_cases c9 : (ji7) < (l0.length : Int)
       ·rw [if_pos c9] at H
        have c9b0 : decide ((ji7) < (l0.length : Int)) = true := decide_eq_true c9
        clear c9
        by_cases c10 : (rd l0 x4_1) = (wrap64 ((rd l0 (ji7)) + 1))
        ·rw [if_pos c10] at H
         have c10b0 : ((rd l0 x4_1) == (wrap64 ((rd l0 (ji7)) + 1))) = true := beq_iff_eq.mpr c10
         have c10b1 : ((rd l0 x4_1) != (wrap64 ((rd l0 (ji7)) + 1))) = false := bne_eq_false_iff_eq.mpr c10
         clear c10
         obtain ⟨ji11, hji11⟩ : ∃ j_ : Int, (wrap64 ((x3_1.length : Int) - 1)) = j_ := ⟨_, rfl⟩
         replace H : (if 0 ≤ (ji11) then (if (ji11) < (x3_1.length : Int) then (spec_l23Ranges.l0 k1 l0 (x3_1.set ((ji11) : Int).toNat (⟨(rd_T63 x3_1 (ji11)).f0, rd l0 x4_1⟩ : S63)) (wrap64 (x4_1 + 1))) else (none)) else (none)) = some r := by first | (rw [hji11] at H; exact H) | (simp only [hji11] at H ⊢; exact H)
         have hji11w : (IntKind.i64.wrap ((x3_1.length : Int) - 1)) = ji11 := (i64_w _).trans hji11
         by_cases c12 : 0 ≤ (ji11)
         ·rw [if_pos c12] at H
          have c12b0 : decide (0 ≤ (ji11)) = true := decide_eq_true c12
          clear c12
          by_cases c13 : (ji11) < (x3_1.length : Int)
          ·rw [if_pos c13] at H
           have c13b0 : decide ((ji11) < (x3_1.length : Int)) = true := decide_eq_true c13
           clear c13
           obtain ⟨y147, hy147⟩ : ∃ y_ : List (S63), y_ = (x3_1.set ((ji11) : Int).toNat (⟨(rd_T63 x3_1 (ji11)).f0, rd l0 x4_1⟩ : S63)) := ⟨_, rfl⟩
           replace H : (spec_l23Ranges.l0 k1 l0 y147 (wrap64 (x4_1 + 1))) = some r := by first | (rw [hy147]; with_reducible exact H) | (have H2_ := bS H; rw [hy147]; with_reducible exact H2_) | (have H2_ := bS H; with_reducible exact H2_) | with_reducible exact H | (rw [hy147]; exact H) | exact H
           have Ny147 := aM hy147
           clear hy147
           have H' := aM H
           clear H
           try go_wp2
           have n0_ := aM (Kd.R_drew HO_3.out)
           have n1_ := aM (below_drew1 HB.out)
           clear HO_3
           clear HB
           have HO_3 := n0_
           have HB := n1_
           clear n0_ n1_
           have p144 : 0 ≤ (x4_1 : Int) := dA
           have q144 : x4_1 < (l0.length : Int) := dA
           obtain ⟨ad144, e144, hx144_0⟩ := Kd.at_int HR0.out x4_1 p144 q144
           have hw144_0 := hx144_0
           cases e144
           replace hx144_0 := cB HB.out hx144_0
           replace p144 := eq_true p144
           replace q144 := eq_true q144
           have p145 : 0 ≤ ((ji7) : Int) := dA
           have q145 : (ji7) < (l0.length : Int) := dA
           obtain ⟨ad145, e145, hx145_0⟩ := Kd.at_int HR0.out (ji7) p145 q145
           have hw145_0 := hx145_0
           obtain rfl : ad144 = ad145 := (by injection e145)
           replace hx145_0 := cB HB.out hx145_0
           replace p145 := eq_true p145
           replace q145 := eq_true q145
           refine start_ (n := 15) (S := fun w' => w'.cell? (ad144.add (x4_1).toNat) = some (.int .i64 (rd l0 x4_1)) ∧ w'.cell? (ad144.add ((ji7)).toNat) = some (.int .i64 (rd l0 (ji7)))) (ds := []) mkspec_l342_0 (by kernel_rfl) rfl rfl ⟨(cB HB.out hw144_0), (cB HB.out hw145_0)⟩ (fun hHeld => ?_); refine with_tabW spec_l23Ranges.tab5 spec_l23Ranges.bits5 (fun HT_ HW_ => ?_)
           generalize wr.drew = w15 at HO_3 HB hx144_0 hx145_0 hHeld ⊢
           refine pQ (i := 0) (N := some 12) mkspec_l342_1 ?_
           refine pQ (i := 1) (N := some 13) mkspec_l342_2 ?_
           refine pQ (i := 2) (N := some 14) mkspec_l342_3 ?_
           refine pQ (i := 3) (N := some 15) mkspec_l342_4 ?_
           refine pQ (i := 4) (N := some 16) mkspec_l342_5 ?_
           refine pQ (i := 5) (N := some 17) mkspec_l342_6 ?_
           refine pQ (i := 7) (N := some 19) mkspec_l342_7 ?_
           refine pQ (i := 8) (N := some 20) mkspec_l342_9 ?_
           refine pQ (i := 9) (N := some 21) mkspec_l342_11 ?_
           refine pQ (i := 10) (N := some 22) mkspec_l342_13 ?_
           refine tQ (i := 6) (N := some 18) mkspec_l342_15 rfl hHeld (Or.inl ⟨by rfl, by rintro w' ⟨s0, s1⟩; go_simp; with_reducible rfl⟩) ?_
           refine tQ (i := 11) (N := some 23) mkspec_l342_16 rfl hHeld (Or.inl ⟨by rfl, by rintro w' ⟨s0, s1⟩; go_simp; with_reducible rfl⟩) ?_
           refine pQ (i := 12) (N := some 24) mkspec_l342_17 ?_
           refine pQ (i := 13) (N := some 25) mkspec_l342_18 ?_
           refine pQ (i := 14) (N := some 26) mkspec_l342_20 ?_
           refine done_ (done_of HT_.out (by kernel_rfl)) ?_
           obtain ⟨Ao16, co16, eo16⟩ := Kd.R_slice HO_3.out
           subst eo16
           have p146 : 0 ≤ (x4_1 : Int) := dA
           have q146 : x4_1 < (l0.length : Int) := dA
           obtain ⟨ad146, e146, hx146_0⟩ := Kd.at_int HR0.out x4_1 p146 q146
           obtain rfl : ad144 = ad146 := (by injection e146)
           replace hx146_0 := cB HB.out hx146_0
           replace p146 := eq_true p146
           replace q146 := eq_true q146
           have p14 : 0 ≤ ((ji11) : Int) := dA
           have q14 : ((ji11) : Int) < ((x3_1.length : Int) : Int) := dA
           obtain ⟨go14, co14, eo14, gb14, gl14, cl14, HG14⟩ := Kd.R_form HO_3.out (by omega)
           (first | cases eo14 | (injection eo14 with ea_ en_ ec_; (first | subst ea_ | (injection ea_ with ea_; subst ea_)); subst ec_; clear en_))
           have GB14 := aM gb14
           have GG14 := aM HG14
           clear gb14 gl14 HG14
           obtain ⟨ce14, hcl14, hM14, hcc14, hfr14⟩ := Kd.R_elem HO_3.out z63 ((ji11) : Int) p14 q14
           obtain rfl := k63_openM hM14
           have hx14_0 : w15.cell? ⟨go14, ((ji11) : Int).toNat * 2, none⟩ = some (.int .i64 ((rd_T63 x3_1 (ji11)).f0)) := hcc14 0 _ rfl
           have hx14_1 : w15.cell? ⟨go14, ((ji11) : Int).toNat * 2 + 1, none⟩ = some (.int .i64 ((rd_T63 x3_1 (ji11)).f1)) := hcc14 1 _ rfl
           have hf14_0 : w15.frozen? ⟨go14, ((ji11) : Int).toNat * 2, none⟩ = false := hfr14 0
           have hf14_1 : w15.frozen? ⟨go14, ((ji11) : Int).toNat * 2 + 1, none⟩ = false := hfr14 1
           clear hcl14 hcc14 hfr14; (try clear hM14)
           replace p14 := eq_true p14
           replace q14 := eq_true q14
           have HX17 := aM (show Kd.R k63 63 w15 w.heap.size (fun _ => True) (.slice (some ⟨go14, 0, none⟩) x3_1.length co16) x3_1 from (by (with_reducible repeat (first | apply rA | apply rN | apply rD)); exact HO_3.out))
           obtain ⟨ce17, hcl17, hM17, hcc17, hfr17⟩ := Kd.R_elem HX17.out z63 ((ji11) : Int) (dA) (by have h_ : ((ji11) : Int) < ((x3_1.length : Int) : Int) := dA; first | exact h_ | (have e_ := (Kd.R_reads' HO_3.out).1; omega) | simpa using h_)
           obtain rfl := k63_openM hM17
           have HP17 := Kd.R_seg HX17.out ((ji11) : Int) (dA) (by have h_ : ((ji11) : Int) < ((x3_1.length : Int) : Int) := dA; first | exact h_ | (have e_ := (Kd.R_reads' HO_3.out).1; omega) | simpa using h_) (seg := [.int .i64 (rd l0 x4_1)]) (j := 1) hcl17 hcc17 (show 2 ≤ 2 from by decide) (x' := (⟨(rd_T63 x3_1 (ji11)).f0, rd l0 x4_1⟩ : S63)) (k63_mkM _ _ _ (⟨(rd_T63 x3_1 (ji11)).f0, rd l0 x4_1⟩ : S63) ) (fun _ hk => hk)
           have hx17_1 := hcc17 1 _ rfl
           (try simp only [show (k63).sz = 2 from rfl, Nat.mul_one, Nat.add_zero] at hx17_1)
           have hf17_1 := hfr17 1
           (try simp only [show (k63).sz = 2 from rfl, Nat.mul_one, Nat.add_zero] at hf17_1)
           clear hcl17 hcc17 hfr17; (try clear hM17)
           try go_wp2_with (first | ((with_reducible refine gate_store (t := 2) (p := 36) rfl ?_); refine store_event (t := 2) (p := 36) (v := ?vo_w18) (w1 := (w15.setCell ⟨go14, ((ji11) : Int).toNat * 2 + 1, none⟩ (.int .i64 (rd l0 x4_1)))) ?hg ?ho ?hn ?hr ?_; (case ho => rfl); (case hg => rfl); (case hn => rfl); (case hr => first | (go_simp; done) | (go_simp; rfl)); intro w18 hw; have hg : w15.grownBy w18 (some go14) := (by rw [hw]; exact HP17.2); have hp_ : Kd.R k63 63 w18 w.heap.size (fun _ => True) (.slice (some ⟨go14, 0, none⟩) x3_1.length co16) y147 := (by rw [hw, Ny147.out]; exact HP17.1); clear HP17; have n0_ := aM (hp_); have n1_ := aM ((by rw [hw]; exact below_set (HB.out) GB14.out : Below w.heap.size w w18)); clear HO_3; clear HB; have HO_3 := n0_; have HB := n1_; clear n0_ n1_; clear hg hw hp_))
           go_roundg k1
           case measure => have := HK1.out; omega
           case rel => exact ⟨(y147), (wrap64 (x4_1 + 1)), rQ, H', ⟨by have := HK1.out; omega⟩, ⟨by (with_reducible repeat (first | apply rA | apply rN | apply rD)); exact HO_3.out⟩, ⟨bQ⟩⟩
          ·rw [if_neg c13] at H
           exact absurd H (by simp)
         ·rw [if_neg c12] at H
          exact absurd H (by simp)
        ·rw [if_neg c10] at H
         have c10b0 : ((rd l0 x4_1) == (wrap64 ((rd l0 (ji7)) + 1))) = false := beq_eq_false_iff_ne.mpr c10
         have c10b1 : ((rd l0 x4_1) != (wrap64 ((rd l0 (ji7)) + 1))) = true := bne_iff_ne.mpr c10
         by_cases c19 : x3_1.length < 8796093022208
         ·rw [if_pos c19] at H
          have LMc19 := aM c19
          clear c19
          obtain ⟨y150, hy150⟩ : ∃ y_ : List (S63), y_ = (x3_1 ++ [(⟨rd l0 x4_1, rd l0 x4_1⟩ : S63)]) := ⟨_, rfl⟩
          replace H : (spec_l23Ranges.l0 k1 l0 y150 (wrap64 (x4_1 + 1))) = some r := by first | (rw [hy150]; with_reducible exact H) | (have H2_ := bS H; rw [hy150]; with_reducible exact H2_) | (have H2_ := bS H; with_reducible exact H2_) | with_reducible exact H | (rw [hy150]; exact H) | exact H
          have Ny150 := aM hy150
          clear hy150
          have H' := aM H
          clear H
          try go_wp2
          have n0_ := aM (Kd.R_drew HO_3.out)
          have n1_ := aM (below_drew1 HB.out)
          clear HO_3
          clear HB
          have HO_3 := n0_
          have HB := n1_
          clear n0_ n1_
          have p144 : 0 ≤ (x4_1 : Int) := dA
          have q144 : x4_1 < (l0.length : Int) := dA
          obtain ⟨ad144, e144, hx144_0⟩ := Kd.at_int HR0.out x4_1 p144 q144
          have hw144_0 := hx144_0
          cases e144
          replace hx144_0 := cB HB.out hx144_0
          replace p144 := eq_true p144
          replace q144 := eq_true q144
          have p145 : 0 ≤ ((ji7) : Int) := dA
          have q145 : (ji7) < (l0.length : Int) := dA
          obtain ⟨ad145, e145, hx145_0⟩ := Kd.at_int HR0.out (ji7) p145 q145
          have hw145_0 := hx145_0
          obtain rfl : ad144 = ad145 := (by injection e145)
          replace hx145_0 := cB HB.out hx145_0
          replace p145 := eq_true p145
          replace q145 := eq_true q145
          refine start_ (n := 15) (S := fun w' => w'.cell? (ad144.add (x4_1).toNat) = some (.int .i64 (rd l0 x4_1)) ∧ w'.cell? (ad144.add ((ji7)).toNat) = some (.int .i64 (rd l0 (ji7)))) (ds := []) mkspec_l342_0 (by kernel_rfl) rfl rfl ⟨(cB HB.out hw144_0), (cB HB.out hw145_0)⟩ (fun hHeld => ?_); refine with_tabW spec_l23Ranges.tab5 spec_l23Ranges.bits5 (fun HT_ HW_ => ?_)
          generalize wr.drew = w20 at HO_3 HB hx144_0 hx145_0 hHeld ⊢
          refine pQ (i := 0) (N := some 12) mkspec_l342_1 ?_
          refine pQ (i := 1) (N := some 13) mkspec_l342_2 ?_
          refine pQ (i := 2) (N := some 14) mkspec_l342_3 ?_
          refine pQ (i := 3) (N := some 15) mkspec_l342_4 ?_
          refine pQ (i := 4) (N := some 16) mkspec_l342_5 ?_
          refine pQ (i := 5) (N := some 17) mkspec_l342_6 ?_
          refine pQ (i := 7) (N := some 19) mkspec_l342_7 ?_
          refine pQ (i := 8) (N := some 20) mkspec_l342_9 ?_
          refine pQ (i := 9) (N := some 21) mkspec_l342_11 ?_
          refine pQ (i := 10) (N := some 22) mkspec_l342_13 ?_
          refine tQ (i := 6) (N := some 18) mkspec_l342_15 rfl hHeld (Or.inl ⟨by rfl, by rintro w' ⟨s0, s1⟩; go_simp; with_reducible rfl⟩) ?_
          refine tQ (i := 11) (N := some 23) mkspec_l342_16 rfl hHeld (Or.inl ⟨by rfl, by rintro w' ⟨s0, s1⟩; go_simp; with_reducible rfl⟩) ?_
          refine pQ (i := 12) (N := some 24) mkspec_l342_17 ?_
          refine pQ (i := 13) (N := some 25) mkspec_l342_18 ?_
          refine pQ (i := 14) (N := some 26) mkspec_l342_20 ?_
          refine done_ (done_of HT_.out (by kernel_rfl)) ?_
          try go_wp2
          have n0_ := aM (Kd.R_drew HO_3.out)
          have n1_ := aM (below_drew1 HB.out)
          clear HO_3
          clear HB
          have HO_3 := n0_
          have HB := n1_
          clear n0_ n1_
          have p148 : 0 ≤ (x4_1 : Int) := dA
          have q148 : x4_1 < (l0.length : Int) := dA
          obtain ⟨ad148, e148, hx148_0⟩ := Kd.at_int HR0.out x4_1 p148 q148
          have hw148_0 := hx148_0
          obtain rfl : ad144 = ad148 := (by injection e148)
          replace hx148_0 := cB HB.out hx148_0
          replace p148 := eq_true p148
          replace q148 := eq_true q148
          have p149 : 0 ≤ (x4_1 : Int) := dA
          have q149 : x4_1 < (l0.length : Int) := dA
          obtain ⟨ad149, e149, hx149_0⟩ := Kd.at_int HR0.out x4_1 p149 q149
          have hw149_0 := hx149_0
          obtain rfl : ad144 = ad149 := (by injection e149)
          replace hx149_0 := cB HB.out hx149_0
          replace p149 := eq_true p149
          replace q149 := eq_true q149
          refine start_ (n := 13) (S := fun w' => w'.cell? (ad144.add (x4_1).toNat) = some (.int .i64 (rd l0 x4_1)) ∧ w'.cell? (ad144.add (x4_1).toNat) = some (.int .i64 (rd l0 x4_1))) (ds := []) mkspec_l342_19 (by kernel_rfl) rfl rfl ⟨(cB HB.out hw148_0), (cB HB.out hw149_0)⟩ (fun hHeld => ?_); refine with_tabW spec_l23Ranges.tab7 spec_l23Ranges.bits7 (fun HT_ HW_ => ?_)
          generalize w20.drew = w21 at HO_3 HB hx148_0 hx149_0 hHeld ⊢
          refine pQ (i := 0) (N := some 37) mkspec_l342_21 ?_
          refine pQ (i := 1) (N := some 38) mkspec_l342_22 ?_
          refine pQ (i := 2) (N := some 39) mkspec_l342_23 ?_
          refine pQ (i := 3) (N := some 40) mkspec_l342_24 ?_
          refine pQ (i := 5) (N := some 42) mkspec_l342_25 ?_
          refine pQ (i := 6) (N := some 43) mkspec_l342_26 ?_
          refine pQ (i := 7) (N := some 44) mkspec_l342_27 ?_
          refine tQ (i := 4) (N := some 41) mkspec_l342_28 rfl hHeld (Or.inl ⟨by rfl, by rintro w' ⟨s0, s1⟩; go_simp; with_reducible rfl⟩) ?_
          refine tQ (i := 8) (N := some 45) mkspec_l342_29 rfl hHeld (Or.inl ⟨by rfl, by rintro w' ⟨s0, s1⟩; go_simp; with_reducible rfl⟩) ?_
          refine pQ (i := 9) (N := some 46) mkspec_l342_30 ?_
          refine one_ (i := 10) (N := some 47) mkspec_l342_31 rfl rfl (one_of HT_.out (by kernel_rfl)) (by decide) (fun K hK => ?_)
          refine value_ (w1 := ?_) (v := ?_) (by rfl) rfl ?_ ?_
          rotate_left 2
          ·go_simp
           constructor
           ·rfl
           ·rfl
          refine hK.out _ _ ⟨(World.cell?_alloc_lt _ _ _ (World.block_lt_of_cell? _ _ ((cB HB.out hw148_0)))).trans ((cB HB.out hw148_0)), (World.cell?_alloc_lt _ _ _ (World.block_lt_of_cell? _ _ ((cB HB.out hw149_0)))).trans ((cB HB.out hw149_0))⟩ (fun hHeld => ?_)
          clear hK K
          refine norm_ (a' := ?_) ?_ ?_
          rotate_left
          ·show Act.put _ (some 47) _ = _
           simp only [Act.put, sI, sZ, sS, i64_w, i32_w]
           rfl
          refine one_ (i := 11) (N := some 48) mkspec_l342_32 rfl rfl (one_of HT_.out (by kernel_rfl)) (by decide) (fun K hK => ?_)
          refine Kd.R_append_step k63 (w0 := w) w.heap.size (by rfl) (.tmp 37) (.tmp 47) 34 63 (.agg #[(.int .i64 0), (.int .i64 0)]) 16 rfl Tryd.underlying34 info63 rfl (by decide) (by omega) u3 x3_1 (⟨rd l0 x4_1, rd l0 x4_1⟩ : S63) [.int .i64 (rd l0 x4_1), .int .i64 (rd l0 x4_1)] (fun _ => True) (fun _ => False) rfl rfl ?aP (fun _ hk => hk.elim) ?aF ?aO ?aB ?aS ?aL ?_
          (case aP => exact k63_mkM _ _ _ (⟨rd l0 x4_1, rd l0 x4_1⟩ : S63))
          (case aB => exact bQ)
          (case aF => exact (fun _ _ => trivial))
          (case aO => exact (by (with_reducible repeat (first | apply rA | apply rN | apply rD)); exact HO_3.out))
          (case aS => exact (below_size bQ))
          (case aL => have := LMc19.out; omega)
          intro v151 w22 ho hb hg hat
          rw [← Ny150.out] at ho
          have n0_ := aM (hb)
          have n1_ := aM (ho)
          clear HB
          clear HO_3
          have HB := n0_
          have HO152 := n1_
          clear n0_ n1_
          clear ho hb hg hat
          refine hK.out _ _ ⟨(cB HB.out hw148_0), (cB HB.out hw149_0)⟩ (fun hHeld => ?_)
          clear hK K
          refine norm_ (a' := ?_) ?_ ?_
          rotate_left
          ·show Act.put _ (some 48) _ = _
           simp only [Act.put, sI, sZ, sS, i64_w, i32_w]
           rfl
          refine pQ (i := 12) (N := some 3) mkspec_l342_33 ?_
          refine done_ (done_of HT_.out (by kernel_rfl)) ?_
          try go_wp2
          go_roundg k1
          case measure => have := HK1.out; omega
          case rel => exact ⟨(y150), (wrap64 (x4_1 + 1)), rQ, H', ⟨by have := HK1.out; omega⟩, ⟨by (with_reducible repeat (first | apply rA | apply rN | apply rD)); exact HO152.out⟩, ⟨bQ⟩⟩
         ·rw [if_neg c19] at H
          exact absurd H (by simp)
       ·rw [if_neg c9] at H
        exact absurd H (by simp)
      ·rw [if_neg c8] at H
       exact absurd H (by simp)
     ·rw [if_neg c6] at H
      exact absurd H (by simp)
    ·rw [if_neg c5] at H
     have c5b0 : decide (0 < x4_1) = false := decide_eq_false c5
     clear c5
     by_cases c23 : 0 ≤ x4_1
     ·rw [if_pos c23] at H
      have c23b0 : decide (0 ≤ x4_1) = true := decide_eq_true c23
      clear c23
      by_cases c24 : x3_1.length < 8796093022208
      ·rw [if_pos c24] at H
       have LMc24 := aM c24
       clear c24
       obtain ⟨y155, hy155⟩ : ∃ y_ : List (S63), y_ = (x3_1 ++ [(⟨rd l0 x4_1, rd l0 x4_1⟩ : S63)]) := ⟨_, rfl⟩
       replace H : (spec_l23Ranges.l0 k1 l0 y155 (wrap64 (x4_1 + 1))) = some r := by first | (rw [hy155]; with_reducible exact H) | (have H2_ := bS H; rw [hy155]; with_reducible exact H2_) | (have H2_ := bS H; with_reducible exact H2_) | with_reducible exact H | (rw [hy155]; exact H) | exact H
       have Ny155 := aM hy155
       clear hy155
       have H' := aM H
       clear H
       try go_wp2
       have n0_ := aM (Kd.R_drew HO_3.out)
       have n1_ := aM (below_drew1 HB.out)
       clear HO_3
       clear HB
       have HO_3 := n0_
       have HB := n1_
       clear n0_ n1_
       refine start_ (n := 15) (S := fun w' => True) (ds := []) mkspec_l342_0 (by kernel_rfl) rfl rfl trivial (fun hHeld => ?_); refine with_tabW spec_l23Ranges.tab5 spec_l23Ranges.bits5 (fun HT_ HW_ => ?_)
       generalize wr.drew = w25 at HO_3 HB hHeld ⊢
       refine pQ (i := 0) (N := some 12) mkspec_l342_1 ?_
       refine pQ (i := 1) (N := some 13) mkspec_l342_2 ?_
       refine pQ (i := 2) (N := some 14) mkspec_l342_3 ?_
       refine uQ (i := 3) (N := some 15) mkspec_l342_4 ?_
       refine uQ (i := 4) (N := some 16) mkspec_l342_5 ?_
       refine uQ (i := 5) (N := some 17) mkspec_l342_6 ?_
       refine uQ (i := 6) (N := some 18) mkspec_l342_8 ?_
       refine uQ (i := 7) (N := some 19) mkspec_l342_10 ?_
       refine uQ (i := 8) (N := some 20) mkspec_l342_12 ?_
       refine uQ (i := 9) (N := some 21) mkspec_l342_14 ?_
       refine uQ (i := 10) (N := some 22) mkspec_l342_15 ?_
       refine uQ (i := 11) (N := some 23) mkspec_l342_16 ?_
       refine uQ (i := 12) (N := some 24) mkspec_l342_17 ?_
       refine uQ (i := 13) (N := some 25) mkspec_l342_18 ?_
       refine pQ (i := 14) (N := some 26) mkspec_l342_20 ?_
       refine done_ (done_of HT_.out (by kernel_rfl)) ?_
       try go_wp2
       have n0_ := aM (Kd.R_drew HO_3.out)
       have n1_ := aM (below_drew1 HB.out)
       clear HO_3
       clear HB
       have HO_3 := n0_
       have HB := n1_
       clear n0_ n1_
       have p153 : 0 ≤ (x4_1 : Int) := dA
       have q153 : x4_1 < (l0.length : Int) := dA
       obtain ⟨ad153, e153, hx153_0⟩ := Kd.at_int HR0.out x4_1 p153 q153
       have hw153_0 := hx153_0
       cases e153
       replace hx153_0 := cB HB.out hx153_0
       replace p153 := eq_true p153
       replace q153 := eq_true q153
       have p154 : 0 ≤ (x4_1 : Int) := dA
       have q154 : x4_1 < (l0.length : Int) := dA
       obtain ⟨ad154, e154, hx154_0⟩ := Kd.at_int HR0.out x4_1 p154 q154
       have hw154_0 := hx154_0
       obtain rfl : ad153 = ad154 := (by injection e154)
       replace hx154_0 := cB HB.out hx154_0
       replace p154 := eq_true p154
       replace q154 := eq_true q154
       refine start_ (n := 13) (S := fun w' => w'.cell? (ad153.add (x4_1).toNat) = some (.int .i64 (rd l0 x4_1)) ∧ w'.cell? (ad153.add (x4_1).toNat) = some (.int .i64 (rd l0 x4_1))) (ds := []) mkspec_l342_19 (by kernel_rfl) rfl rfl ⟨(cB HB.out hw153_0), (cB HB.out hw154_0)⟩ (fun hHeld => ?_); refine with_tabW spec_l23Ranges.tab7 spec_l23Ranges.bits7 (fun HT_ HW_ => ?_)
       generalize w25.drew = w26 at HO_3 HB hx153_0 hx154_0 hHeld ⊢
       refine pQ (i := 0) (N := some 37) mkspec_l342_21 ?_
       refine pQ (i := 1) (N := some 38) mkspec_l342_22 ?_
       refine pQ (i := 2) (N := some 39) mkspec_l342_23 ?_
       refine pQ (i := 3) (N := some 40) mkspec_l342_24 ?_
       refine pQ (i := 5) (N := some 42) mkspec_l342_25 ?_
       refine pQ (i := 6) (N := some 43) mkspec_l342_26 ?_
       refine pQ (i := 7) (N := some 44) mkspec_l342_27 ?_
       refine tQ (i := 4) (N := some 41) mkspec_l342_28 rfl hHeld (Or.inl ⟨by rfl, by rintro w' ⟨s0, s1⟩; go_simp; with_reducible rfl⟩) ?_
       refine tQ (i := 8) (N := some 45) mkspec_l342_29 rfl hHeld (Or.inl ⟨by rfl, by rintro w' ⟨s0, s1⟩; go_simp; with_reducible rfl⟩) ?_
       refine pQ (i := 9) (N := some 46) mkspec_l342_30 ?_
       refine one_ (i := 10) (N := some 47) mkspec_l342_31 rfl rfl (one_of HT_.out (by kernel_rfl)) (by decide) (fun K hK => ?_)
       refine value_ (w1 := ?_) (v := ?_) (by rfl) rfl ?_ ?_
       rotate_left 2
       ·go_simp
        constructor
        ·rfl
        ·rfl
       refine hK.out _ _ ⟨(World.cell?_alloc_lt _ _ _ (World.block_lt_of_cell? _ _ ((cB HB.out hw153_0)))).trans ((cB HB.out hw153_0)), (World.cell?_alloc_lt _ _ _ (World.block_lt_of_cell? _ _ ((cB HB.out hw154_0)))).trans ((cB HB.out hw154_0))⟩ (fun hHeld => ?_)
       clear hK K
       refine norm_ (a' := ?_) ?_ ?_
       rotate_left
       ·show Act.put _ (some 47) _ = _
        simp only [Act.put, sI, sZ, sS, i64_w, i32_w]
        rfl
       refine one_ (i := 11) (N := some 48) mkspec_l342_32 rfl rfl (one_of HT_.out (by kernel_rfl)) (by decide) (fun K hK => ?_)
       refine Kd.R_append_step k63 (w0 := w) w.heap.size (by rfl) (.tmp 37) (.tmp 47) 34 63 (.agg #[(.int .i64 0), (.int .i64 0)]) 16 rfl Tryd.underlying34 info63 rfl (by decide) (by omega) u3 x3_1 (⟨rd l0 x4_1, rd l0 x4_1⟩ : S63) [.int .i64 (rd l0 x4_1), .int .i64 (rd l0 x4_1)] (fun _ => True) (fun _ => False) rfl rfl ?aP (fun _ hk => hk.elim) ?aF ?aO ?aB ?aS ?aL ?_
       (case aP => exact k63_mkM _ _ _ (⟨rd l0 x4_1, rd l0 x4_1⟩ : S63))
       (case aB => exact bQ)
       (case aF => exact (fun _ _ => trivial))
       (case aO => exact (by (with_reducible repeat (first | apply rA | apply rN | apply rD)); exact HO_3.out))
       (case aS => exact (below_size bQ))
       (case aL => have := LMc24.out; omega)
       intro v156 w27 ho hb hg hat
       rw [← Ny155.out] at ho
       have n0_ := aM (hb)
       have n1_ := aM (ho)
       clear HB
       clear HO_3
       have HB := n0_
       have HO157 := n1_
       clear n0_ n1_
       clear ho hb hg hat
       refine hK.out _ _ ⟨(cB HB.out hw153_0), (cB HB.out hw154_0)⟩ (fun hHeld => ?_)
       clear hK K
       refine norm_ (a' := ?_) ?_ ?_
       rotate_left
       ·show Act.put _ (some 48) _ = _
        simp only [Act.put, sI, sZ, sS, i64_w, i32_w]
        rfl
       refine pQ (i := 12) (N := some 3) mkspec_l342_33 ?_
       refine done_ (done_of HT_.out (by kernel_rfl)) ?_
       try go_wp2
       go_roundg k1
       case measure => have := HK1.out; omega
       case rel => exact ⟨(y155), (wrap64 (x4_1 + 1)), rQ, H', ⟨by have := HK1.out; omega⟩, ⟨by (with_reducible repeat (first | apply rA | apply rN | apply rD)); exact HO157.out⟩, ⟨bQ⟩⟩
      ·rw [if_neg c24] at H
       exact absurd H (by simp)
     ·rw [if_neg c23] at H
      exact absurd H (by simp)
   ·rw [if_neg c4] at H
    have c4b0 : decide (x4_1 < (l0.length : Int)) = false := decide_eq_false c4
    clear c4
    obtain rfl := Option.some.inj H
    go_wp2
    go_ret
    exact ⟨_, eQ, by (with_reducible repeat (first | apply rA | apply rN | apply rD)); exact HO_3.out, bQ⟩

/-! ### spec_l23Text: function 54 -/
mutual
def spec_l23Text.l0 : Nat → List (S63) → ByteArray → Int → Option (ByteArray)
 | 0, _, _, _ => none
 | k + 1, x3, x4, x5 => if x5 < (x3.length : Int) then (if x5 > 0 then (if x4.size + 1 ≤ 9223372036854775807 then (spec_l23Text.j1 k x3 (x4 ++ (⟨#[32]⟩ : ByteArray)) x5) else (none)) else (spec_l23Text.j1 k x3 x4 x5)) else (some x4)
def spec_l23Text.j1 : Nat → List (S63) → ByteArray → Int → Option (ByteArray)
 | 0, _, _, _ => none
 | k + 1, x3, x4, x5 => if 0 ≤ x5 then (if x5 < (x3.length : Int) then ((spec_l01Dec.f k ((rd_T63 x3 x5).f0)).bind fun t162 => (if x4.size + t162.size ≤ 9223372036854775807 then (if ((rd_T63 x3 x5).f1) > ((rd_T63 x3 x5).f0) then ((spec_l01Dec.f k ((rd_T63 x3 x5).f1)).bind fun t166 => (if 1 + t166.size ≤ 9223372036854775807 then (if (x4 ++ t162).size + ((⟨#[45]⟩ : ByteArray) ++ t166).size ≤ 9223372036854775807 then (spec_l23Text.l0 k x3 ((x4 ++ t162) ++ ((⟨#[45]⟩ : ByteArray) ++ t166)) (wrap64 (x5 + 1))) else (none)) else (none))) else (spec_l23Text.l0 k x3 (x4 ++ t162) (wrap64 (x5 + 1)))) else (none))) else (none)) else (none)
end
def spec_l23Text.f (k : Nat) (l0 : List Int) : Option (ByteArray) := (spec_l23Ranges.f k l0).bind fun t158 => (spec_l23Text.l0 k t158 (⟨#[]⟩ : ByteArray) 0)
theorem spec_l23Text.mono_l : ∀ k, (∀ y0 y1 y2, LeO (spec_l23Text.l0 k y0 y1 y2) (spec_l23Text.l0 (k + 1) y0 y1 y2)) ∧ (∀ y0 y1 y2, LeO (spec_l23Text.j1 k y0 y1 y2) (spec_l23Text.j1 (k + 1) y0 y1 y2))
 | 0 => ⟨fun _ _ _ r h => by simp [spec_l23Text.l0] at h, fun _ _ _ r h => by simp [spec_l23Text.j1] at h⟩
 | k + 1 => by
  obtain ⟨ih0, ih1⟩ := spec_l23Text.mono_l k
  refine ⟨?_, ?_⟩
  ·intro y0 y1 y2
   unfold spec_l23Text.l0
   repeat' first
   | (with_reducible exact ih0 _ _ _)
   | (with_reducible exact ih1 _ _ _)
   | (with_reducible exact spec_l01Dec.mono _ _)
   | (with_reducible exact spec_l23Ranges.mono _ _)
   | (with_reducible exact LeO.refl _)
   | (with_reducible exact LeO.none _)
   | (with_reducible refine LeO.ite ?_ ?_)
   | (with_reducible refine LeO.bind ?_ (fun _ => ?_))
   | exact ih0 _ _ _
   | exact ih1 _ _ _
   | exact spec_l01Dec.mono _ _
   | exact spec_l23Ranges.mono _ _
   | exact LeO.none _
   | refine LeO.ite ?_ ?_
   | refine LeO.bind ?_ (fun _ => ?_)
  ·intro y0 y1 y2
   unfold spec_l23Text.j1
   repeat' first
   | (with_reducible exact ih0 _ _ _)
   | (with_reducible exact ih1 _ _ _)
   | (with_reducible exact spec_l01Dec.mono _ _)
   | (with_reducible exact spec_l23Ranges.mono _ _)
   | (with_reducible exact LeO.refl _)
   | (with_reducible exact LeO.none _)
   | (with_reducible refine LeO.ite ?_ ?_)
   | (with_reducible refine LeO.bind ?_ (fun _ => ?_))
   | exact ih0 _ _ _
   | exact ih1 _ _ _
   | exact spec_l01Dec.mono _ _
   | exact spec_l23Ranges.mono _ _
   | exact LeO.none _
   | refine LeO.ite ?_ ?_
   | refine LeO.bind ?_ (fun _ => ?_)
theorem spec_l23Text.mono : ∀ a0 k, LeO (spec_l23Text.f k a0) (spec_l23Text.f (k + 1) a0) := by
 intro a0 k
 obtain ⟨ih0, ih1⟩ := spec_l23Text.mono_l k
 unfold spec_l23Text.f
 repeat' first
   | (with_reducible exact ih0 _ _ _)
   | (with_reducible exact ih1 _ _ _)
   | (with_reducible exact spec_l01Dec.mono _ _)
   | (with_reducible exact spec_l23Ranges.mono _ _)
   | (with_reducible exact LeO.refl _)
   | (with_reducible exact LeO.none _)
   | (with_reducible refine LeO.ite ?_ ?_)
   | (with_reducible refine LeO.bind ?_ (fun _ => ?_))
   | exact ih0 _ _ _
   | exact ih1 _ _ _
   | exact spec_l01Dec.mono _ _
   | exact spec_l23Ranges.mono _ _
   | exact LeO.none _
   | refine LeO.ite ?_ ?_
   | refine LeO.bind ?_ (fun _ => ?_)
set_option maxHeartbeats 8000000 in
set_option maxRecDepth 100000 in
theorem spec_l23Text.calls (k : Nat) (A0 : Option Addr) (c0 : Nat) (l0 : List Int) (r : ByteArray) (w : World) (hr0 : Kd.C (Kd.int .i64) w A0 l0.length l0) (hc0 : l0.length ≤ c0) (h : spec_l23Text.f k l0 = some r) :
  Calls Tryd.prog 54 #[.slice A0 l0.length c0] w fun e w' => e = .returned (.string r) ∧ Below w.heap.size w w' := by
 have HR0 := aM hr0
 have HC0 := aM hc0
 clear hr0 hc0
 have HB := aM (Below.refl w.heap.size w)
 have H : ((spec_l23Ranges.f k l0).bind fun t158 => (spec_l23Text.l0 k t158 (⟨#[]⟩ : ByteArray) 0)) = some r := h
 clear h
 replace H := Option.bind_eq_some_iff.mp H
 obtain ⟨t158, A20, H⟩ := H
 replace H : (spec_l23Text.l0 k t158 (⟨#[]⟩ : ByteArray) 0) = some r := H
 have A2 := aM A20
 clear A20
 have H' := aM H
 clear H
 go_enter Tryd.func54, Tryd.ntmps54
 go_wp2_with (first | (go_at_call 80; (with_reducible refine (spec_l23Ranges.calls k _ _ l0 t158 _ ?side1 ?side2 A2.out).mono ?_); (case side1 => repeat (first | exact HR0.out | (with_reducible first | refine cA ?_ _ | refine cN ?_ _ | refine cD ?_))); (case side2 => exact HC0.out); rintro e w3 ⟨v159, rfl, ho0, hb⟩; have n0_ := aM (Kd.R_lower ho0 (below_size bQ)); have n1_ := aM (below_step bQ hb); clear HB; have HO160 := n0_; have HB := n1_; clear n0_ n1_; (try clear hb); (try clear hb2); (try clear hk); (try clear hi); (try clear ho0)))
 repeat (go_quiet (first | (go_at_call 80; (with_reducible refine (spec_l23Ranges.calls k _ _ l0 t158 _ ?side1 ?side2 A2.out).mono ?_); (case side1 => repeat (first | exact HR0.out | (with_reducible first | refine cA ?_ _ | refine cN ?_ _ | refine cD ?_))); (case side2 => exact HC0.out); rintro e w3 ⟨v159, rfl, ho0, hb⟩; have n0_ := aM (Kd.R_lower ho0 (below_size bQ)); have n1_ := aM (below_step bQ hb); clear HB; have HO160 := n0_; have HB := n1_; clear n0_ n1_; (try clear hb); (try clear hb2); (try clear hk); (try clear hi); (try clear ho0))); try go_wp2_with (first | (go_at_call 80; (with_reducible refine (spec_l23Ranges.calls k _ _ l0 t158 _ ?side1 ?side2 A2.out).mono ?_); (case side1 => repeat (first | exact HR0.out | (with_reducible first | refine cA ?_ _ | refine cN ?_ _ | refine cD ?_))); (case side2 => exact HC0.out); rintro e w3 ⟨v159, rfl, ho0, hb⟩; have n0_ := aM (Kd.R_lower ho0 (below_size bQ)); have n1_ := aM (below_step bQ hb); clear HB; have HO160 := n0_; have HB := n1_; clear n0_ n1_; (try clear hb); (try clear hb2); (try clear hk); (try clear hi); (try clear ho0))))
 go_loopg [4, 5] k (fun kq v4 v5 w' => ∃ (x4_1 : ByteArray) (x5_1 : Int), v4 = .string x4_1 ∧ v5 = .int .i64 x5_1 ∧ Aside0 (spec_l23Text.l0 kq t158 x4_1 x5_1 = some r) ∧ Aside0 (kq ≤ k) ∧ Aside0 (Kd.R k63 63 w' w.heap.size (fun _ => True) v159 t158) ∧ Aside0 (Below w.heap.size w w'))
 case atStart => exact ⟨((⟨#[]⟩ : ByteArray)), (0), rQ, rQ, H', ⟨Nat.le_refl _⟩, ⟨by (with_reducible repeat (first | apply rA | apply rN | apply rD)); exact HO160.out⟩, ⟨bQ⟩⟩
 case round =>
  clear H'
  try clear p2
  obtain ⟨x4_1, x5_1, rfl, rfl, HA, HK1, HO_3, HB⟩ := hrel
  cases gk with
  | zero => exact absurd HA.out (by simp [spec_l23Text.l0])
  | succ k1 =>
   have H := HA.out
   clear HA
   simp only [spec_l23Text.l0] at H
   by_cases c4 : x5_1 < (t158.length : Int)
   ·rw [if_pos c4] at H
    have c4b0 : decide (x5_1 < (t158.length : Int)) = true := decide_eq_true c4
    clear c4
    have HC5 := aM H
    clear H
    obtain ⟨Ao6, co6, eo6⟩ := Kd.R_slice HO_3.out
    subst eo6
    go_upto_if 15 with (fail)
    repeat (go_quiet (fail); go_upto_if 15 with (fail))
    go_cut [4] (fun v4 wc => ∃ (kq : Nat) (x4_4 : ByteArray), v4 = .string x4_4 ∧ Aside0 (spec_l23Text.j1 kq t158 x4_4 x5_1 = some r) ∧ Aside0 (kq ≤ k1) ∧ Aside0 (Kd.R k63 63 wc w.heap.size (fun _ => True) (.slice Ao6 t158.length co6) t158) ∧ Aside0 (Below w.heap.size w wc))
    case first =>
     have H := HC5.out
     clear HC5
     by_cases c7 : x5_1 > 0
     ·rw [if_pos c7] at H
      have c7b0 : decide (0 < x5_1) = true := decide_eq_true c7
      clear c7
      (first | rw [c7b0] | (simp only [i64_w, i32_w]; rw [c7b0]) | rw [c7b1] | rw [c7b2] | rw [c7b3] | rw [c7b4] | skip)
      by_cases c8 : x4_1.size + 1 ≤ 9223372036854775807
      ·rw [if_pos c8] at H
       have c8b0 := eq_true c8
       have c8b1 : decide (x4_1.size + 1 ≤ 9223372036854775807) = true := decide_eq_true c8
       try have c8b2 : (9223372036854775807 < x4_1.size + 1) = False := eq_false (Nat.not_lt.2 c8)
       have H' := aM H
       clear H
       go_wp2
       repeat (go_quiet (fail); try go_wp2)
       go_meet
       case rel => exact ⟨_, (x4_1 ++ (⟨#[32]⟩ : ByteArray)), rQ, H', ⟨by have := HK1.out; first | omega | exact Nat.le_refl _⟩, ⟨by (with_reducible repeat (first | apply rA | apply rN | apply rD)); exact HO_3.out⟩, ⟨bQ⟩⟩
      ·rw [if_neg c8] at H
       exact absurd H (by simp)
     ·rw [if_neg c7] at H
      have c7b0 : decide (0 < x5_1) = false := decide_eq_false c7
      clear c7
      (first | rw [c7b0] | (simp only [i64_w, i32_w]; rw [c7b0]) | rw [c7b1] | rw [c7b2] | rw [c7b3] | rw [c7b4] | skip)
      have H' := aM H
      clear H
      go_wp2
      repeat (go_quiet (fail); try go_wp2)
      go_meet
      case rel => exact ⟨_, (x4_1), rQ, H', ⟨by have := HK1.out; first | omega | exact Nat.le_refl _⟩, ⟨by (with_reducible repeat (first | apply rA | apply rN | apply rD)); exact HO_3.out⟩, ⟨bQ⟩⟩
    case rest =>
     clear HC5
     try clear p2
     try clear c4
     try clear c4b0
     try clear c5
     try clear c7
     try clear c7b0
     try clear c7b1
     try clear c7b2
     try clear c8
     try clear c8b0
     try clear c8b1
     try clear c8b2
     try clear p2
     obtain ⟨kq, x4_4, rfl, HA, HJ4, HO_3, HB⟩ := hcut
     cases kq with
     | zero => exact absurd HA.out (by simp [spec_l23Text.j1])
     | succ kj4 =>
      have H := HA.out
      clear HA
      simp only [spec_l23Text.j1] at H
      by_cases c9 : 0 ≤ x5_1
      ·rw [if_pos c9] at H
       have c9b0 : decide (0 ≤ x5_1) = true := decide_eq_true c9
       clear c9
       by_cases c10 : x5_1 < (t158.length : Int)
       ·rw [if_pos c10] at H
        have c10b0 : decide (x5_1 < (t158.length : Int)) = true := decide_eq_true c10
        clear c10
        replace H := Option.bind_eq_some_iff.mp H
        obtain ⟨t162, A110, H⟩ := H
        replace H : (if x4_4.size + t162.size ≤ 9223372036854775807 then (if ((rd_T63 t158 x5_1).f1) > ((rd_T63 t158 x5_1).f0) then ((spec_l01Dec.f kj4 ((rd_T63 t158 x5_1).f1)).bind fun t166 => (if 1 + t166.size ≤ 9223372036854775807 then (if (x4_4 ++ t162).size + ((⟨#[45]⟩ : ByteArray) ++ t166).size ≤ 9223372036854775807 then (spec_l23Text.l0 kj4 t158 ((x4_4 ++ t162) ++ ((⟨#[45]⟩ : ByteArray) ++ t166)) (wrap64 (x5_1 + 1))) else (none)) else (none))) else (spec_l23Text.l0 kj4 t158 (x4_4 ++ t162) (wrap64 (x5_1 + 1)))) else (none)) = some r := H
        have A11 := aM A110
        clear A110
        by_cases c12 : x4_4.size + t162.size ≤ 9223372036854775807
        ·rw [if_pos c12] at H
         have c12b0 := eq_true c12
         have c12b1 : decide (x4_4.size + t162.size ≤ 9223372036854775807) = true := decide_eq_true c12
         try have c12b2 : (9223372036854775807 < x4_4.size + t162.size) = False := eq_false (Nat.not_lt.2 c12)
         by_cases c13 : ((rd_T63 t158 x5_1).f1) > ((rd_T63 t158 x5_1).f0)
         ·rw [if_pos c13] at H
          have c13b0 : decide (((rd_T63 t158 x5_1).f0) < ((rd_T63 t158 x5_1).f1)) = true := decide_eq_true c13
          clear c13
          replace H := Option.bind_eq_some_iff.mp H
          obtain ⟨t166, A140, H⟩ := H
          replace H : (if 1 + t166.size ≤ 9223372036854775807 then (if (x4_4 ++ t162).size + ((⟨#[45]⟩ : ByteArray) ++ t166).size ≤ 9223372036854775807 then (spec_l23Text.l0 kj4 t158 ((x4_4 ++ t162) ++ ((⟨#[45]⟩ : ByteArray) ++ t166)) (wrap64 (x5_1 + 1))) else (none)) else (none)) = some r := H
          have A14 := aM A140
          clear A140
          by_cases c15 : 1 + t166.size ≤ 9223372036854775807
          ·rw [if_pos c15] at H
           have c15b0 := eq_true c15
           have c15b1 : decide (1 + t166.size ≤ 9223372036854775807) = true := decide_eq_true c15
           try have c15b2 : (9223372036854775807 < 1 + t166.size) = False := eq_false (Nat.not_lt.2 c15)
           by_cases c16 : (x4_4 ++ t162).size + ((⟨#[45]⟩ : ByteArray) ++ t166).size ≤ 9223372036854775807
           ·rw [if_pos c16] at H
            have c16b0 := eq_true c16
            have c16b1 : decide ((x4_4 ++ t162).size + ((⟨#[45]⟩ : ByteArray) ++ t166).size ≤ 9223372036854775807) = true := decide_eq_true c16
            try have c16b2 : (9223372036854775807 < (x4_4 ++ t162).size + ((⟨#[45]⟩ : ByteArray) ++ t166).size) = False := eq_false (Nat.not_lt.2 c16)
            try have c16b3 : (9223372036854775807 < x4_4.size + t162.size + (1 + t166.size)) = False := eq_false (Nat.not_lt.2 (by have h_ := c16; simp only [ByteArray.size_append] at h_; exact h_))
            try (have c16b6 := c16b0; simp only [ByteArray.size_append, ByteArray.size_extract, Nat.min_self, Int.natCast_add] at c16b6)
            try (have c16b7 := c16b1; simp only [ByteArray.size_append, ByteArray.size_extract, Nat.min_self, Int.natCast_add] at c16b7)
            have H' := aM H
            clear H
            have p161 : 0 ≤ (x5_1 : Int) := dA
            have q161 : x5_1 < (t158.length : Int) := dA
            obtain ⟨ad161, e161, hx161_0, hx161_1⟩ := at_T63 (Kd.R_reads' HO_3.out).2.2 x5_1 p161 q161
            cases e161
            replace p161 := eq_true p161
            replace q161 := eq_true q161
            go_wp2_with (first | (go_at_call 78; (with_reducible refine (spec_l01Dec.calls kj4 ((rd_T63 t158 x5_1).f0) t162 _ A11.out).mono ?_); rintro e w17 ⟨rfl, hb⟩; have n0_ := aM (Kd.R_below (by (with_reducible repeat (first | apply rA | apply rN | apply rD)); exact HO_3.out) hb); have n1_ := aM (below_step bQ hb); clear HO_3; clear HB; have HO_3 := n0_; have HB := n1_; clear n0_ n1_; (try clear hb); (try clear hb2); (try clear hk); (try clear hi); have p163 : 0 ≤ (x5_1 : Int) := dA; have q163 : x5_1 < (t158.length : Int) := dA; obtain ⟨ad163, e163, hx163_0, hx163_1⟩ := at_T63 (Kd.R_reads' HO_3.out).2.2 x5_1 p163 q163; obtain rfl : ad161 = ad163 := (by injection e163); replace p163 := eq_true p163; replace q163 := eq_true q163; have p164 : 0 ≤ (x5_1 : Int) := dA; have q164 : x5_1 < (t158.length : Int) := dA; obtain ⟨ad164, e164, hx164_0, hx164_1⟩ := at_T63 (Kd.R_reads' HO_3.out).2.2 x5_1 p164 q164; obtain rfl : ad161 = ad164 := (by injection e164); replace p164 := eq_true p164; replace q164 := eq_true q164; have p165 : 0 ≤ (x5_1 : Int) := dA; have q165 : x5_1 < (t158.length : Int) := dA; obtain ⟨ad165, e165, hx165_0, hx165_1⟩ := at_T63 (Kd.R_reads' HO_3.out).2.2 x5_1 p165 q165; obtain rfl : ad161 = ad165 := (by injection e165); replace p165 := eq_true p165; replace q165 := eq_true q165) | (go_at_call 78; (with_reducible refine (spec_l01Dec.calls kj4 ((rd_T63 t158 x5_1).f1) t166 _ A14.out).mono ?_); rintro e w18 ⟨rfl, hb⟩; have n0_ := aM (Kd.R_below (by (with_reducible repeat (first | apply rA | apply rN | apply rD)); exact HO_3.out) hb); have n1_ := aM (below_step bQ hb); clear HO_3; clear HB; have HO_3 := n0_; have HB := n1_; clear n0_ n1_; (try clear hb); (try clear hb2); (try clear hk); (try clear hi)))
            repeat (go_quiet (first | (go_at_call 78; (with_reducible refine (spec_l01Dec.calls kj4 ((rd_T63 t158 x5_1).f0) t162 _ A11.out).mono ?_); rintro e w17 ⟨rfl, hb⟩; have n0_ := aM (Kd.R_below (by (with_reducible repeat (first | apply rA | apply rN | apply rD)); exact HO_3.out) hb); have n1_ := aM (below_step bQ hb); clear HO_3; clear HB; have HO_3 := n0_; have HB := n1_; clear n0_ n1_; (try clear hb); (try clear hb2); (try clear hk); (try clear hi); have p163 : 0 ≤ (x5_1 : Int) := dA; have q163 : x5_1 < (t158.length : Int) := dA; obtain ⟨ad163, e163, hx163_0, hx163_1⟩ := at_T63 (Kd.R_reads' HO_3.out).2.2 x5_1 p163 q163; obtain rfl : ad161 = ad163 := (by injection e163); replace p163 := eq_true p163; replace q163 := eq_true q163; have p164 : 0 ≤ (x5_1 : Int) := dA; have q164 : x5_1 < (t158.length : Int) := dA; obtain ⟨ad164, e164, hx164_0, hx164_1⟩ := at_T63 (Kd.R_reads' HO_3.out).2.2 x5_1 p164 q164; obtain rfl : ad161 = ad164 := (by injection e164); replace p164 := eq_true p164; replace q164 := eq_true q164; have p165 : 0 ≤ (x5_1 : Int) := dA; have q165 : x5_1 < (t158.length : Int) := dA; obtain ⟨ad165, e165, hx165_0, hx165_1⟩ := at_T63 (Kd.R_reads' HO_3.out).2.2 x5_1 p165 q165; obtain rfl : ad161 = ad165 := (by injection e165); replace p165 := eq_true p165; replace q165 := eq_true q165) | (go_at_call 78; (with_reducible refine (spec_l01Dec.calls kj4 ((rd_T63 t158 x5_1).f1) t166 _ A14.out).mono ?_); rintro e w18 ⟨rfl, hb⟩; have n0_ := aM (Kd.R_below (by (with_reducible repeat (first | apply rA | apply rN | apply rD)); exact HO_3.out) hb); have n1_ := aM (below_step bQ hb); clear HO_3; clear HB; have HO_3 := n0_; have HB := n1_; clear n0_ n1_; (try clear hb); (try clear hb2); (try clear hk); (try clear hi))); try go_wp2_with (first | (go_at_call 78; (with_reducible refine (spec_l01Dec.calls kj4 ((rd_T63 t158 x5_1).f0) t162 _ A11.out).mono ?_); rintro e w17 ⟨rfl, hb⟩; have n0_ := aM (Kd.R_below (by (with_reducible repeat (first | apply rA | apply rN | apply rD)); exact HO_3.out) hb); have n1_ := aM (below_step bQ hb); clear HO_3; clear HB; have HO_3 := n0_; have HB := n1_; clear n0_ n1_; (try clear hb); (try clear hb2); (try clear hk); (try clear hi); have p163 : 0 ≤ (x5_1 : Int) := dA; have q163 : x5_1 < (t158.length : Int) := dA; obtain ⟨ad163, e163, hx163_0, hx163_1⟩ := at_T63 (Kd.R_reads' HO_3.out).2.2 x5_1 p163 q163; obtain rfl : ad161 = ad163 := (by injection e163); replace p163 := eq_true p163; replace q163 := eq_true q163; have p164 : 0 ≤ (x5_1 : Int) := dA; have q164 : x5_1 < (t158.length : Int) := dA; obtain ⟨ad164, e164, hx164_0, hx164_1⟩ := at_T63 (Kd.R_reads' HO_3.out).2.2 x5_1 p164 q164; obtain rfl : ad161 = ad164 := (by injection e164); replace p164 := eq_true p164; replace q164 := eq_true q164; have p165 : 0 ≤ (x5_1 : Int) := dA; have q165 : x5_1 < (t158.length : Int) := dA; obtain ⟨ad165, e165, hx165_0, hx165_1⟩ := at_T63 (Kd.R_reads' HO_3.out).2.2 x5_1 p165 q165; obtain rfl : ad161 = ad165 := (by injection e165); replace p165 := eq_true p165; replace q165 := eq_true q165) | (go_at_call 78; (with_reducible refine (spec_l01Dec.calls kj4 ((rd_T63 t158 x5_1).f1) t166 _ A14.out).mono ?_); rintro e w18 ⟨rfl, hb⟩; have n0_ := aM (Kd.R_below (by (with_reducible repeat (first | apply rA | apply rN | apply rD)); exact HO_3.out) hb); have n1_ := aM (below_step bQ hb); clear HO_3; clear HB; have HO_3 := n0_; have HB := n1_; clear n0_ n1_; (try clear hb); (try clear hb2); (try clear hk); (try clear hi))))
            go_roundg kj4
            case measure => have := HK1.out; have := HJ4.out; omega
            case rel => exact ⟨((x4_4 ++ t162) ++ ((⟨#[45]⟩ : ByteArray) ++ t166)), (wrap64 (x5_1 + 1)), rQ, rQ, H', ⟨by have := HK1.out; have := HJ4.out; omega⟩, ⟨by (with_reducible repeat (first | apply rA | apply rN | apply rD)); exact HO_3.out⟩, ⟨bQ⟩⟩
           ·rw [if_neg c16] at H
            exact absurd H (by simp)
          ·rw [if_neg c15] at H
           exact absurd H (by simp)
         ·rw [if_neg c13] at H
          have c13b0 : decide (((rd_T63 t158 x5_1).f0) < ((rd_T63 t158 x5_1).f1)) = false := decide_eq_false c13
          clear c13
          have H' := aM H
          clear H
          have p161 : 0 ≤ (x5_1 : Int) := dA
          have q161 : x5_1 < (t158.length : Int) := dA
          obtain ⟨ad161, e161, hx161_0, hx161_1⟩ := at_T63 (Kd.R_reads' HO_3.out).2.2 x5_1 p161 q161
          cases e161
          replace p161 := eq_true p161
          replace q161 := eq_true q161
          go_wp2_with (first | (go_at_call 78; (with_reducible refine (spec_l01Dec.calls kj4 ((rd_T63 t158 x5_1).f0) t162 _ A11.out).mono ?_); rintro e w19 ⟨rfl, hb⟩; have n0_ := aM (Kd.R_below (by (with_reducible repeat (first | apply rA | apply rN | apply rD)); exact HO_3.out) hb); have n1_ := aM (below_step bQ hb); clear HO_3; clear HB; have HO_3 := n0_; have HB := n1_; clear n0_ n1_; (try clear hb); (try clear hb2); (try clear hk); (try clear hi); have p163 : 0 ≤ (x5_1 : Int) := dA; have q163 : x5_1 < (t158.length : Int) := dA; obtain ⟨ad163, e163, hx163_0, hx163_1⟩ := at_T63 (Kd.R_reads' HO_3.out).2.2 x5_1 p163 q163; obtain rfl : ad161 = ad163 := (by injection e163); replace p163 := eq_true p163; replace q163 := eq_true q163; have p164 : 0 ≤ (x5_1 : Int) := dA; have q164 : x5_1 < (t158.length : Int) := dA; obtain ⟨ad164, e164, hx164_0, hx164_1⟩ := at_T63 (Kd.R_reads' HO_3.out).2.2 x5_1 p164 q164; obtain rfl : ad161 = ad164 := (by injection e164); replace p164 := eq_true p164; replace q164 := eq_true q164))
          repeat (go_quiet (first | (go_at_call 78; (with_reducible refine (spec_l01Dec.calls kj4 ((rd_T63 t158 x5_1).f0) t162 _ A11.out).mono ?_); rintro e w19 ⟨rfl, hb⟩; have n0_ := aM (Kd.R_below (by (with_reducible repeat (first | apply rA | apply rN | apply rD)); exact HO_3.out) hb); have n1_ := aM (below_step bQ hb); clear HO_3; clear HB; have HO_3 := n0_; have HB := n1_; clear n0_ n1_; (try clear hb); (try clear hb2); (try clear hk); (try clear hi); have p163 : 0 ≤ (x5_1 : Int) := dA; have q163 : x5_1 < (t158.length : Int) := dA; obtain ⟨ad163, e163, hx163_0, hx163_1⟩ := at_T63 (Kd.R_reads' HO_3.out).2.2 x5_1 p163 q163; obtain rfl : ad161 = ad163 := (by injection e163); replace p163 := eq_true p163; replace q163 := eq_true q163; have p164 : 0 ≤ (x5_1 : Int) := dA; have q164 : x5_1 < (t158.length : Int) := dA; obtain ⟨ad164, e164, hx164_0, hx164_1⟩ := at_T63 (Kd.R_reads' HO_3.out).2.2 x5_1 p164 q164; obtain rfl : ad161 = ad164 := (by injection e164); replace p164 := eq_true p164; replace q164 := eq_true q164)); try go_wp2_with (first | (go_at_call 78; (with_reducible refine (spec_l01Dec.calls kj4 ((rd_T63 t158 x5_1).f0) t162 _ A11.out).mono ?_); rintro e w19 ⟨rfl, hb⟩; have n0_ := aM (Kd.R_below (by (with_reducible repeat (first | apply rA | apply rN | apply rD)); exact HO_3.out) hb); have n1_ := aM (below_step bQ hb); clear HO_3; clear HB; have HO_3 := n0_; have HB := n1_; clear n0_ n1_; (try clear hb); (try clear hb2); (try clear hk); (try clear hi); have p163 : 0 ≤ (x5_1 : Int) := dA; have q163 : x5_1 < (t158.length : Int) := dA; obtain ⟨ad163, e163, hx163_0, hx163_1⟩ := at_T63 (Kd.R_reads' HO_3.out).2.2 x5_1 p163 q163; obtain rfl : ad161 = ad163 := (by injection e163); replace p163 := eq_true p163; replace q163 := eq_true q163; have p164 : 0 ≤ (x5_1 : Int) := dA; have q164 : x5_1 < (t158.length : Int) := dA; obtain ⟨ad164, e164, hx164_0, hx164_1⟩ := at_T63 (Kd.R_reads' HO_3.out).2.2 x5_1 p164 q164; obtain rfl : ad161 = ad164 := (by injection e164); replace p164 := eq_true p164; replace q164 := eq_true q164)))
          go_roundg kj4
          case measure => have := HK1.out; have := HJ4.out; omega
          case rel => exact ⟨(x4_4 ++ t162), (wrap64 (x5_1 + 1)), rQ, rQ, H', ⟨by have := HK1.out; have := HJ4.out; omega⟩, ⟨by (with_reducible repeat (first | apply rA | apply rN | apply rD)); exact HO_3.out⟩, ⟨bQ⟩⟩
        ·rw [if_neg c12] at H
         exact absurd H (by simp)
       ·rw [if_neg c10] at H
        exact absurd H (by simp)
      ·rw [if_neg c9] at H
       exact absurd H (by simp)
   ·rw [if_neg c4] at H
    have c4b0 : decide (x5_1 < (t158.length : Int)) = false := decide_eq_false c4
    clear c4
    obtain rfl := Option.some.inj H
    obtain ⟨Ao20, co20, eo20⟩ := Kd.R_slice HO_3.out
    subst eo20
    go_wp2
    repeat (go_quiet (fail); try go_wp2)
    go_ret
    exact ⟨eQ, bQ⟩

end Go.Proofs.YtdahcapolipnbaaDoor.QFnExactReadClass
