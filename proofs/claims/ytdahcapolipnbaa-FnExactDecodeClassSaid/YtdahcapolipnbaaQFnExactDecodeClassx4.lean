/- What some Go functions answer, each as a Lean function, and that the machine answers so: written by a program of this session out of the translation. -/
import Derived.Test.YtdahcapolipnbaaQFnExactDecodeClassx0
import Derived.Test.YtdahcapolipnbaaQFnExactDecodeClassx3
namespace Go.Proofs.Ytdahcapolipnbaa.QFnExactDecodeClass
open Go.RowKit Go.Proofs.YtdahcapolipnbaaW.PrintWords Go.Proofs.YtdahcapolipnbaaW.PrintLast Go.Proofs.YtdahcapolipnbaaW.PrintMore Go.Proofs.Ytdahcapolipnbaa.Rp
attribute [local go_sem] max2_int min2_int max_two min_two max_three min_three max_four min_four   -- for this text's walks alone
set_option linter.unusedVariables false
set_option linter.unusedSimpArgs false

/-! ### spec_l23Encode: function 57 -/
abbrev mkspec_l324_0 : Array Bool := #[ff,ff,ff,ff,ff,ff,ff,ff,ff,ff,ff,ff,ff,ff,ff,ff]
abbrev mkspec_l324_1 : Array Bool := #[tt,ff,ff,ff,ff,ff,ff,ff,ff,ff,ff,ff,ff,ff,ff,ff]
abbrev mkspec_l324_2 : Array Bool := #[tt,tt,ff,ff,ff,ff,ff,ff,ff,ff,ff,ff,ff,ff,ff,ff]
abbrev mkspec_l324_3 : Array Bool := #[tt,tt,tt,ff,ff,ff,ff,ff,ff,ff,ff,ff,ff,ff,ff,ff]
abbrev mkspec_l324_4 : Array Bool := #[tt,tt,tt,tt,ff,ff,ff,ff,ff,ff,ff,ff,ff,ff,ff,ff]
abbrev mkspec_l324_5 : Array Bool := #[tt,tt,tt,tt,tt,ff,ff,ff,ff,ff,ff,ff,ff,ff,ff,ff]
abbrev mkspec_l324_6 : Array Bool := #[tt,tt,tt,tt,tt,ff,tt,ff,ff,ff,ff,ff,ff,ff,ff,ff]
abbrev mkspec_l324_7 : Array Bool := #[tt,tt,tt,tt,tt,ff,tt,tt,ff,ff,ff,ff,ff,ff,ff,ff]
abbrev mkspec_l324_8 : Array Bool := #[ff,ff,ff,ff,ff,ff,ff,ff,ff,ff,ff,ff,ff,ff,ff]
abbrev mkspec_l324_9 : Array Bool := #[tt,tt,tt,tt,tt,ff,tt,tt,tt,ff,ff,ff,ff,ff,ff,ff]
abbrev mkspec_l324_10 : Array Bool := #[tt,ff,ff,ff,ff,ff,ff,ff,ff,ff,ff,ff,ff,ff,ff]
abbrev mkspec_l324_11 : Array Bool := #[tt,tt,tt,tt,tt,ff,tt,tt,tt,tt,ff,ff,ff,ff,ff,ff]
abbrev mkspec_l324_12 : Array Bool := #[tt,tt,ff,ff,ff,ff,ff,ff,ff,ff,ff,ff,ff,ff,ff]
abbrev mkspec_l324_13 : Array Bool := #[tt,tt,tt,tt,tt,ff,tt,tt,tt,tt,ff,tt,ff,ff,ff,ff]
abbrev mkspec_l324_14 : Array Bool := #[tt,tt,tt,ff,ff,ff,ff,ff,ff,ff,ff,ff,ff,ff,ff]
abbrev mkspec_l324_15 : Array Bool := #[tt,tt,tt,tt,tt,tt,tt,tt,tt,tt,ff,tt,ff,ff,ff,ff]
abbrev mkspec_l324_16 : Array Bool := #[tt,tt,tt,tt,ff,ff,ff,ff,ff,ff,ff,ff,ff,ff,ff]
abbrev mkspec_l324_17 : Array Bool := #[tt,tt,tt,tt,tt,tt,tt,tt,tt,tt,tt,tt,ff,ff,ff,ff]
abbrev mkspec_l324_18 : Array Bool := #[tt,tt,tt,tt,tt,ff,ff,ff,ff,ff,ff,ff,ff,ff,ff]
abbrev mkspec_l324_19 : Array Bool := #[tt,tt,tt,tt,tt,tt,tt,tt,tt,tt,tt,tt,tt,ff,ff,ff]
abbrev mkspec_l324_20 : Array Bool := #[tt,tt,tt,tt,tt,ff,tt,ff,ff,ff,ff,ff,ff,ff,ff]
abbrev mkspec_l324_21 : Array Bool := #[tt,tt,tt,tt,tt,tt,tt,tt,tt,tt,tt,tt,tt,tt,ff,ff]
abbrev mkspec_l324_22 : Array Bool := #[tt,tt,tt,tt,tt,ff,tt,tt,ff,ff,ff,ff,ff,ff,ff]
abbrev mkspec_l324_23 : Array Bool := #[tt,tt,tt,tt,tt,tt,tt,tt,tt,tt,tt,tt,tt,tt,tt,ff]
abbrev mkspec_l324_24 : Array Bool := #[tt,tt,tt,tt,tt,ff,tt,tt,tt,ff,ff,ff,ff,ff,ff]
abbrev mkspec_l324_25 : Array Bool := #[tt,tt,tt,tt,tt,tt,tt,tt,tt,tt,tt,tt,tt,tt,tt,tt]
abbrev mkspec_l324_26 : Array Bool := #[tt,tt,tt,tt,tt,ff,tt,tt,tt,tt,ff,ff,ff,ff,ff]
abbrev mkspec_l324_27 : Array Bool := #[tt,tt,tt,tt,tt,tt,tt,tt,tt,tt,ff,ff,ff,ff,ff]
abbrev mkspec_l324_28 : Array Bool := #[tt,tt,tt,tt,tt,tt,tt,tt,tt,tt,tt,ff,ff,ff,ff]
abbrev mkspec_l324_29 : Array Bool := #[tt,tt,tt,tt,tt,tt,tt,tt,tt,tt,tt,tt,ff,ff,ff]
abbrev mkspec_l324_30 : Array Bool := #[tt,tt,tt,tt,tt,tt,tt,tt,tt,tt,tt,tt,tt,ff,ff]
abbrev mkspec_l324_31 : Array Bool := #[tt,tt,tt,tt,tt,tt,tt,tt,tt,tt,tt,tt,tt,tt,ff]
abbrev mkspec_l324_32 : Array Bool := #[tt,tt,tt,tt,tt,tt,tt,tt,tt,tt,tt,tt,tt,tt,tt]
def spec_l23Encode.l0 : Nat → List (S92) → ByteArray → Int → Int → Option (ByteArray)
 | 0, _, _, _, _ => none
 | k + 1, x3, x4, x5, x6 => if x6 < (x3.length : Int) then (if 0 ≤ x6 then ((spec_l23Words.f k (([(rd_T92 x3 x6).f0, (rd_T92 x3 x6).f1, x5] : List Int))).bind fun t173 => (if x4.size + t173.size ≤ 9223372036854775807 then (spec_l23Encode.l0 k x3 (x4 ++ t173) (wrap64 (x5 + (wrap64 ((wrap64 (((rd_T92 x3 x6).f1) - ((rd_T92 x3 x6).f0))) + 1)))) (wrap64 (x6 + 1))) else (none))) else (none)) else (some x4)
def spec_l23Encode.f (k : Nat) (l0 : List Int) : Option (ByteArray) := (spec_l23Ranges.f k l0).bind fun t156 => (if (l0.length : Int) ≤ (wrap64 (3 * (t156.length : Int))) then ((spec_l23Words.f k (([1, (l0.length : Int)] : List Int))).bind fun t162 => ((spec_l23Words.f k l0).bind fun t163 => (if t162.size + t163.size ≤ 9223372036854775807 then (some (t162 ++ t163)) else (none)))) else ((spec_l23Words.f k (([2, (t156.length : Int)] : List Int))).bind fun t167 => (spec_l23Encode.l0 k t156 t167 0 0)))
theorem spec_l23Encode.mono_l : ∀ k, (∀ y0 y1 y2 y3, LeO (spec_l23Encode.l0 k y0 y1 y2 y3) (spec_l23Encode.l0 (k + 1) y0 y1 y2 y3))
 | 0 => fun _ _ _ _ r h => by simp [spec_l23Encode.l0] at h
 | k + 1 => by
  have ih0 := spec_l23Encode.mono_l k
  ·intro y0 y1 y2 y3
   unfold spec_l23Encode.l0
   repeat' first
   | (with_reducible exact ih0 _ _ _ _)
   | (with_reducible exact spec_l23Ranges.mono _ _)
   | (with_reducible exact spec_l23Words.mono _ _)
   | (with_reducible exact LeO.refl _)
   | (with_reducible exact LeO.none _)
   | (with_reducible refine LeO.ite ?_ ?_)
   | (with_reducible refine LeO.bind ?_ (fun _ => ?_))
   | exact ih0 _ _ _ _
   | exact spec_l23Ranges.mono _ _
   | exact spec_l23Words.mono _ _
   | exact LeO.none _
   | refine LeO.ite ?_ ?_
   | refine LeO.bind ?_ (fun _ => ?_)
theorem spec_l23Encode.mono : ∀ a0 k, LeO (spec_l23Encode.f k a0) (spec_l23Encode.f (k + 1) a0) := by
 intro a0 k
 have ih0 := spec_l23Encode.mono_l k
 unfold spec_l23Encode.f
 repeat' first
   | (with_reducible exact ih0 _ _ _ _)
   | (with_reducible exact spec_l23Ranges.mono _ _)
   | (with_reducible exact spec_l23Words.mono _ _)
   | (with_reducible exact LeO.refl _)
   | (with_reducible exact LeO.none _)
   | (with_reducible refine LeO.ite ?_ ?_)
   | (with_reducible refine LeO.bind ?_ (fun _ => ?_))
   | exact ih0 _ _ _ _
   | exact spec_l23Ranges.mono _ _
   | exact spec_l23Words.mono _ _
   | exact LeO.none _
   | refine LeO.ite ?_ ?_
   | refine LeO.bind ?_ (fun _ => ?_)
def spec_l23Encode.T9 : Bool × List (List Nat × List Nat) := (true, [([], []), ([], []), ([], []), ([1, 2], [1, 2]), ([3], [3]), ([4], [4]), ([], []), ([], []), ([6, 7], [6, 7]), ([8], [8]), ([9], [9]), ([], []), ([5, 10, 11], [5, 10, 11]), ([12], [12]), ([0, 13], [0, 13]), ([14, 13, 0, 1, 2, 3, 4, 5, 6, 7, 8, 9, 10, 11, 12, 13, 14], [0, 14])])
def spec_l23Encode.B9 : List Nat := [0, 0, 0, 6, 14, 30, 0, 0, 192, 448, 960, 0, 4094, 8190, 16383, 32767]
theorem spec_l23Encode.tab9 : rtab .any (opsOf Try.f57 9) = spec_l23Encode.T9 := by kernel_rfl
theorem spec_l23Encode.bits9 : waitsOk spec_l23Encode.T9.2 spec_l23Encode.B9 = true := by kernel_rfl
def spec_l23Encode.T10 : Bool × List (List Nat × List Nat) := (true, [([], []), ([], []), ([], []), ([1, 2], [1, 2]), ([3], [3]), ([4], [4]), ([], []), ([], []), ([6, 7], [6, 7]), ([8], [8]), ([9], [9]), ([5, 10], [5, 10]), ([11], [11]), ([0, 12], [0, 12]), ([13, 0, 1, 2, 3, 4, 5, 6, 7, 8, 9, 10, 11, 12, 13], [0, 13])])
def spec_l23Encode.B10 : List Nat := [0, 0, 0, 6, 14, 30, 0, 0, 192, 448, 960, 2046, 4094, 8191, 16383]
theorem spec_l23Encode.tab10 : rtab .any (opsOf Try.f57 10) = spec_l23Encode.T10 := by kernel_rfl
theorem spec_l23Encode.bits10 : waitsOk spec_l23Encode.T10.2 spec_l23Encode.B10 = true := by kernel_rfl
set_option maxHeartbeats 8000000 in
set_option maxRecDepth 100000 in
theorem spec_l23Encode.calls (k : Nat) (A0 : Option Addr) (c0 : Nat) (l0 : List Int) (r : ByteArray) (w : World) (hr0 : Kd.C (Kd.int .i64) w A0 l0.length l0) (hc0 : l0.length ≤ c0) (h : spec_l23Encode.f k l0 = some r) :
  Calls Try.prog 57 #[.slice A0 l0.length c0] w fun e w' => e = .returned (.string r) ∧ Below w.heap.size w w' := by
 have HR0 := aM hr0
 have HC0 := aM hc0
 clear hr0 hc0
 have HB := aM (Below.refl w.heap.size w)
 have H : ((spec_l23Ranges.f k l0).bind fun t156 => (if (l0.length : Int) ≤ (wrap64 (3 * (t156.length : Int))) then ((spec_l23Words.f k (([1, (l0.length : Int)] : List Int))).bind fun t162 => ((spec_l23Words.f k l0).bind fun t163 => (if t162.size + t163.size ≤ 9223372036854775807 then (some (t162 ++ t163)) else (none)))) else ((spec_l23Words.f k (([2, (t156.length : Int)] : List Int))).bind fun t167 => (spec_l23Encode.l0 k t156 t167 0 0)))) = some r := h
 clear h
 replace H := Option.bind_eq_some_iff.mp H
 obtain ⟨t156, A20, H⟩ := H
 replace H : (if (l0.length : Int) ≤ (wrap64 (3 * (t156.length : Int))) then ((spec_l23Words.f k (([1, (l0.length : Int)] : List Int))).bind fun t162 => ((spec_l23Words.f k l0).bind fun t163 => (if t162.size + t163.size ≤ 9223372036854775807 then (some (t162 ++ t163)) else (none)))) else ((spec_l23Words.f k (([2, (t156.length : Int)] : List Int))).bind fun t167 => (spec_l23Encode.l0 k t156 t167 0 0))) = some r := H
 have A2 := aM A20
 clear A20
 by_cases c3 : (l0.length : Int) ≤ (wrap64 (3 * (t156.length : Int)))
 ·rw [if_pos c3] at H
  have c3b0 : decide ((l0.length : Int) ≤ (wrap64 (3 * (t156.length : Int)))) = true := decide_eq_true c3
  clear c3
  obtain ⟨y159, hy159⟩ : ∃ y_ : List Int, y_ = (([1, (l0.length : Int)] : List Int)) := ⟨_, rfl⟩
  replace H : ((spec_l23Words.f k y159).bind fun t162 => ((spec_l23Words.f k l0).bind fun t163 => (if t162.size + t163.size ≤ 9223372036854775807 then (some (t162 ++ t163)) else (none)))) = some r := by first | (rw [hy159]; with_reducible exact H) | (have H2_ := bS H; rw [hy159]; with_reducible exact H2_) | (have H2_ := bS H; with_reducible exact H2_) | with_reducible exact H | (rw [hy159]; exact H) | exact H
  have Ny159 := aM hy159
  clear hy159
  replace H := Option.bind_eq_some_iff.mp H
  obtain ⟨t162, A40, H⟩ := H
  replace H : ((spec_l23Words.f k l0).bind fun t163 => (if t162.size + t163.size ≤ 9223372036854775807 then (some (t162 ++ t163)) else (none))) = some r := H
  have A4 := aM A40
  clear A40
  replace H := Option.bind_eq_some_iff.mp H
  obtain ⟨t163, A50, H⟩ := H
  replace H : (if t162.size + t163.size ≤ 9223372036854775807 then (some (t162 ++ t163)) else (none)) = some r := H
  have A5 := aM A50
  clear A50
  by_cases c6 : t162.size + t163.size ≤ 9223372036854775807
  ·rw [if_pos c6] at H
   have c6b0 := eq_true c6
   have c6b1 : decide (t162.size + t163.size ≤ 9223372036854775807) = true := decide_eq_true c6
   try have c6b2 : (9223372036854775807 < t162.size + t163.size) = False := eq_false (Nat.not_lt.2 c6)
   obtain rfl := Option.some.inj H
   go_enter Try.func57, Try.ntmps57
   go_wp2_with (first | ((with_reducible refine gate_callee (f := 117) rfl ?_); refine goesL_ (some 8) rfl rfl Try.func117 (by kernel_rfl) rfl #[.slice A0 l0.length c0] rfl gQ ?_; (with_reducible refine (spec_l23Ranges.calls k _ _ l0 t156 _ ?side1 ?side2 A2.out).mono ?_); (case side1 => repeat (first | exact HR0.out | (with_reducible first | refine cA ?_ _ | refine cN ?_ _ | refine cD ?_))); (case side2 => exact HC0.out); rintro e w7 ⟨v157, rfl, ho0, hb⟩; refine ⟨_, rfl, ?_⟩; have n0_ := aM (Kd.R_lower ho0 (below_size bQ)); have n1_ := aM (below_step bQ hb); clear HB; have HO158 := n0_; have HB := n1_; clear n0_ n1_; (try clear hb); (try clear hb2); (try clear hk); (try clear hi); (try clear ho0); obtain ⟨Ao8, co8, eo8⟩ := Kd.R_slice HO158.out; subst eo8) | ((with_reducible refine gate_dst (N := 17) rfl ?_); refine Kd.R_lit (Kd.int .i64) _ 2 ?hg (N := 17) ?hd (xs := ([1, (l0.length : Int)] : List Int)) (inner := [.int .i64 1, .int .i64 (l0.length : Int)]) (ok := fun _ => True) (okp := fun _ => True) ?hr ?hp (fun _ hk => hk) trivial (Below.refl _ _) (Nat.le_refl _) (by simp) ?_; (case hd => rfl); (case hg => rfl); (case hr => first | (go_simp; done) | (go_simp; rfl)); (case hp => exact (Reps.one (show Kd.M (Kd.int .i64) _ _ _ 1 [.int .i64 1] from rfl) (Reps.one (show Kd.M (Kd.int .i64) _ _ _ (l0.length : Int) [.int .i64 (l0.length : Int)] from rfl) (Reps.none _ _)))); intro v160 w9 ho10 hb hg_ hnew_; clear hg_ hnew_; (first | rw [← Ny159.out] at ho10 | (simp only [Int.reduceToNat] at ho10; rw [← Ny159.out] at ho10)); have n0_ := aM (Kd.R_below (by (with_reducible repeat (first | apply rA | apply rN | apply rD)); exact HO158.out) hb); have n1_ := aM (Kd.R_lower ho10 (below_size bQ)); have n2_ := aM (below_step bQ hb); clear HO158; clear HB; have HO158 := n0_; have HO161 := n1_; have HB := n2_; clear n0_ n1_ n2_; clear hb ho10; obtain ⟨Ao11, co11, eo11⟩ := Kd.R_slice HO161.out; subst eo11) | ((with_reducible refine gate_callee (f := 124) rfl ?_); refine goesL_ (some 18) rfl rfl Try.func124 (by kernel_rfl) rfl #[.slice Ao11 y159.length co11] rfl gQ ?_; (with_reducible refine (spec_l23Words.calls k _ _ y159 t162 _ ?side1 ?side2 A4.out).mono ?_); (case side1 => repeat (first | exact (Kd.R_reads' HO161.out).2.2 | (with_reducible first | refine cA ?_ _ | refine cN ?_ _ | refine cD ?_))); (case side2 => exact (Kd.R_reads' HO161.out).2.1); rintro e w12 ⟨rfl, hb⟩; refine ⟨_, rfl, ?_⟩; have n0_ := aM (Kd.R_below (by (with_reducible repeat (first | apply rA | apply rN | apply rD)); exact HO158.out) hb); have n1_ := aM (Kd.R_below (by (with_reducible repeat (first | apply rA | apply rN | apply rD)); exact HO161.out) hb); have n2_ := aM (below_step bQ hb); clear HO158; clear HO161; clear HB; have HO158 := n0_; have HO161 := n1_; have HB := n2_; clear n0_ n1_ n2_; (try clear hb); (try clear hb2); (try clear hk); (try clear hi)) | ((with_reducible refine gate_callee (f := 124) rfl ?_); refine goesL_ (some 20) rfl rfl Try.func124 (by kernel_rfl) rfl #[.slice A0 l0.length c0] rfl gQ ?_; (with_reducible refine (spec_l23Words.calls k _ _ l0 t163 _ ?side1 ?side2 A5.out).mono ?_); (case side1 => exact cQ HR0.out); (case side2 => exact HC0.out); rintro e w13 ⟨rfl, hb⟩; refine ⟨_, rfl, ?_⟩; have n0_ := aM (Kd.R_below (by (with_reducible repeat (first | apply rA | apply rN | apply rD)); exact HO158.out) hb); have n1_ := aM (Kd.R_below (by (with_reducible repeat (first | apply rA | apply rN | apply rD)); exact HO161.out) hb); have n2_ := aM (below_step bQ hb); clear HO158; clear HO161; clear HB; have HO158 := n0_; have HO161 := n1_; have HB := n2_; clear n0_ n1_ n2_; (try clear hb); (try clear hb2); (try clear hk); (try clear hi)))
   go_ret
   exact ⟨eQ, bQ⟩
  ·rw [if_neg c6] at H
   exact absurd H (by simp)
 ·rw [if_neg c3] at H
  have c3b0 : decide ((l0.length : Int) ≤ (wrap64 (3 * (t156.length : Int)))) = false := decide_eq_false c3
  clear c3
  obtain ⟨y164, hy164⟩ : ∃ y_ : List Int, y_ = (([2, (t156.length : Int)] : List Int)) := ⟨_, rfl⟩
  replace H : ((spec_l23Words.f k y164).bind fun t167 => (spec_l23Encode.l0 k t156 t167 0 0)) = some r := by first | (rw [hy164]; with_reducible exact H) | (have H2_ := bS H; rw [hy164]; with_reducible exact H2_) | (have H2_ := bS H; with_reducible exact H2_) | with_reducible exact H | (rw [hy164]; exact H) | exact H
  have Ny164 := aM hy164
  clear hy164
  replace H := Option.bind_eq_some_iff.mp H
  obtain ⟨t167, A140, H⟩ := H
  replace H : (spec_l23Encode.l0 k t156 t167 0 0) = some r := H
  have A14 := aM A140
  clear A140
  have H' := aM H
  clear H
  go_enter Try.func57, Try.ntmps57
  go_wp2_with (first | ((with_reducible refine gate_callee (f := 117) rfl ?_); refine goesL_ (some 8) rfl rfl Try.func117 (by kernel_rfl) rfl #[.slice A0 l0.length c0] rfl gQ ?_; (with_reducible refine (spec_l23Ranges.calls k _ _ l0 t156 _ ?side1 ?side2 A2.out).mono ?_); (case side1 => repeat (first | exact HR0.out | (with_reducible first | refine cA ?_ _ | refine cN ?_ _ | refine cD ?_))); (case side2 => exact HC0.out); rintro e w15 ⟨v157, rfl, ho0, hb⟩; refine ⟨_, rfl, ?_⟩; have n0_ := aM (Kd.R_lower ho0 (below_size bQ)); have n1_ := aM (below_step bQ hb); clear HB; have HO158 := n0_; have HB := n1_; clear n0_ n1_; (try clear hb); (try clear hb2); (try clear hk); (try clear hi); (try clear ho0); obtain ⟨Ao16, co16, eo16⟩ := Kd.R_slice HO158.out; subst eo16) | ((with_reducible refine gate_dst (N := 24) rfl ?_); refine Kd.R_lit (Kd.int .i64) _ 2 ?hg (N := 24) ?hd (xs := ([2, (t156.length : Int)] : List Int)) (inner := [.int .i64 2, .int .i64 (t156.length : Int)]) (ok := fun _ => True) (okp := fun _ => True) ?hr ?hp (fun _ hk => hk) trivial (Below.refl _ _) (Nat.le_refl _) (by simp) ?_; (case hd => rfl); (case hg => rfl); (case hr => first | (go_simp; done) | (go_simp; rfl)); (case hp => exact (Reps.one (show Kd.M (Kd.int .i64) _ _ _ 2 [.int .i64 2] from rfl) (Reps.one (show Kd.M (Kd.int .i64) _ _ _ (t156.length : Int) [.int .i64 (t156.length : Int)] from rfl) (Reps.none _ _)))); intro v165 w17 ho18 hb hg_ hnew_; clear hg_ hnew_; (first | rw [← Ny164.out] at ho18 | (simp only [Int.reduceToNat] at ho18; rw [← Ny164.out] at ho18)); have n0_ := aM (Kd.R_below (by (with_reducible repeat (first | apply rA | apply rN | apply rD)); exact HO158.out) hb); have n1_ := aM (Kd.R_lower ho18 (below_size bQ)); have n2_ := aM (below_step bQ hb); clear HO158; clear HB; have HO158 := n0_; have HO166 := n1_; have HB := n2_; clear n0_ n1_ n2_; clear hb ho18; obtain ⟨Ao19, co19, eo19⟩ := Kd.R_slice HO166.out; subst eo19) | ((with_reducible refine gate_callee (f := 124) rfl ?_); refine goesL_ (some 25) rfl rfl Try.func124 (by kernel_rfl) rfl #[.slice Ao19 y164.length co19] rfl gQ ?_; (with_reducible refine (spec_l23Words.calls k _ _ y164 t167 _ ?side1 ?side2 A14.out).mono ?_); (case side1 => repeat (first | exact (Kd.R_reads' HO166.out).2.2 | (with_reducible first | refine cA ?_ _ | refine cN ?_ _ | refine cD ?_))); (case side2 => exact (Kd.R_reads' HO166.out).2.1); rintro e w20 ⟨rfl, hb⟩; refine ⟨_, rfl, ?_⟩; have n0_ := aM (Kd.R_below (by (with_reducible repeat (first | apply rA | apply rN | apply rD)); exact HO158.out) hb); have n1_ := aM (Kd.R_below (by (with_reducible repeat (first | apply rA | apply rN | apply rD)); exact HO166.out) hb); have n2_ := aM (below_step bQ hb); clear HO158; clear HO166; clear HB; have HO158 := n0_; have HO166 := n1_; have HB := n2_; clear n0_ n1_ n2_; (try clear hb); (try clear hb2); (try clear hk); (try clear hi)))
  go_loopg [4, 5, 6] k (fun kq v4 v5 v6 w' => ∃ (x4_1 : ByteArray) (x5_1 : Int) (x6_1 : Int), v4 = .string x4_1 ∧ v5 = .int .i64 x5_1 ∧ v6 = .int .i64 x6_1 ∧ Aside0 (spec_l23Encode.l0 kq t156 x4_1 x5_1 x6_1 = some r) ∧ Aside0 (kq ≤ k) ∧ Aside0 (Kd.R k92 92 w' w.heap.size (fun _ => True) (.slice Ao16 t156.length co16) t156) ∧ Aside0 (Below w.heap.size w w'))
  case atStart => exact ⟨(t167), (0), (0), rQ, rQ, rQ, H', ⟨Nat.le_refl _⟩, ⟨by (with_reducible repeat (first | apply rA | apply rN | apply rD)); exact HO158.out⟩, ⟨bQ⟩⟩
  case round =>
   clear H'
   try clear c1
   try clear p2
   try clear c3
   try clear c3b0
   try clear c5
   try clear c6
   try clear c6b0
   try clear c6b1
   try clear c6b2
   try clear p6
   try clear c11
   try clear c12
   obtain ⟨x4_1, x5_1, x6_1, rfl, rfl, rfl, HA, HK1, HO_3, HB⟩ := hrel
   cases gk with
   | zero => exact absurd HA.out (by simp [spec_l23Encode.l0])
   | succ k1 =>
    have H := HA.out
    clear HA
    simp only [spec_l23Encode.l0] at H
    by_cases c21 : x6_1 < (t156.length : Int)
    ·rw [if_pos c21] at H
     have c21b0 : decide (x6_1 < (t156.length : Int)) = true := decide_eq_true c21
     clear c21
     by_cases c22 : 0 ≤ x6_1
     ·rw [if_pos c22] at H
      have c22b0 : decide (0 ≤ x6_1) = true := decide_eq_true c22
      clear c22
      obtain ⟨y170, hy170⟩ : ∃ y_ : List Int, y_ = (([(rd_T92 t156 x6_1).f0, (rd_T92 t156 x6_1).f1, x5_1] : List Int)) := ⟨_, rfl⟩
      replace H : ((spec_l23Words.f k1 y170).bind fun t173 => (if x4_1.size + t173.size ≤ 9223372036854775807 then (spec_l23Encode.l0 k1 t156 (x4_1 ++ t173) (wrap64 (x5_1 + (wrap64 ((wrap64 (((rd_T92 t156 x6_1).f1) - ((rd_T92 t156 x6_1).f0))) + 1)))) (wrap64 (x6_1 + 1))) else (none))) = some r := by first | (rw [hy170]; with_reducible exact H) | (have H2_ := bS H; rw [hy170]; with_reducible exact H2_) | (have H2_ := bS H; with_reducible exact H2_) | with_reducible exact H | (rw [hy170]; exact H) | exact H
      have Ny170 := aM hy170
      clear hy170
      replace H := Option.bind_eq_some_iff.mp H
      obtain ⟨t173, A230, H⟩ := H
      replace H : (if x4_1.size + t173.size ≤ 9223372036854775807 then (spec_l23Encode.l0 k1 t156 (x4_1 ++ t173) (wrap64 (x5_1 + (wrap64 ((wrap64 (((rd_T92 t156 x6_1).f1) - ((rd_T92 t156 x6_1).f0))) + 1)))) (wrap64 (x6_1 + 1))) else (none)) = some r := H
      have A23 := aM A230
      clear A230
      by_cases c24 : x4_1.size + t173.size ≤ 9223372036854775807
      ·rw [if_pos c24] at H
       have c24b0 := eq_true c24
       have c24b1 : decide (x4_1.size + t173.size ≤ 9223372036854775807) = true := decide_eq_true c24
       try have c24b2 : (9223372036854775807 < x4_1.size + t173.size) = False := eq_false (Nat.not_lt.2 c24)
       have H' := aM H
       clear H
       try go_wp2
       have n0_ := aM (Kd.R_drew HO_3.out)
       have n1_ := aM (below_drew1 HB.out)
       clear HO_3
       clear HB
       have HO_3 := n0_
       have HB := n1_
       clear n0_ n1_
       have p168 : 0 ≤ (x6_1 : Int) := dA
       have q168 : x6_1 < (t156.length : Int) := dA
       obtain ⟨ad168, e168, hx168_0, hx168_1⟩ := at_T92 (Kd.R_reads' HO_3.out).2.2 x6_1 p168 q168
       cases e168
       replace p168 := eq_true p168
       replace q168 := eq_true q168
       have p169 : 0 ≤ (x6_1 : Int) := dA
       have q169 : x6_1 < (t156.length : Int) := dA
       obtain ⟨ad169, e169, hx169_0, hx169_1⟩ := at_T92 (Kd.R_reads' HO_3.out).2.2 x6_1 p169 q169
       obtain rfl : ad168 = ad169 := (by injection e169)
       replace p169 := eq_true p169
       replace q169 := eq_true q169
       refine start_ (n := 16) (S := fun w' => w'.cell? (ad168.add ((x6_1).toNat * 2)) = some (.int .i64 ((rd_T92 t156 x6_1).f0)) ∧ w'.cell? ⟨(ad168.add ((x6_1).toNat * 2)).block, (ad168.add ((x6_1).toNat * 2)).off + 1, none⟩ = some (.int .i64 ((rd_T92 t156 x6_1).f1)) ∧ w'.cell? (ad168.add ((x6_1).toNat * 2)) = some (.int .i64 ((rd_T92 t156 x6_1).f0)) ∧ w'.cell? ⟨(ad168.add ((x6_1).toNat * 2)).block, (ad168.add ((x6_1).toNat * 2)).off + 1, none⟩ = some (.int .i64 ((rd_T92 t156 x6_1).f1))) (ds := []) mkspec_l324_0 (by kernel_rfl) rfl rfl ⟨hx168_0, hx168_1, hx169_0, hx169_1⟩ (fun hHeld => ?_); refine with_tabW spec_l23Encode.tab9 spec_l23Encode.bits9 (fun HT_ HW_ => ?_)
       generalize wr.drew = w25 at HO_3 HB hx168_0 hx168_1 hx169_0 hx169_1 hHeld ⊢
       refine pQ (i := 0) (N := some 32) mkspec_l324_1 ?_
       refine pQ (i := 1) (N := some 33) mkspec_l324_2 ?_
       refine pQ (i := 2) (N := some 34) mkspec_l324_3 ?_
       refine pQ (i := 3) (N := some 35) mkspec_l324_4 ?_
       refine pQ (i := 4) (N := some 36) mkspec_l324_5 ?_
       refine pQ (i := 6) (N := some 38) mkspec_l324_6 ?_
       refine pQ (i := 7) (N := some 39) mkspec_l324_7 ?_
       refine pQ (i := 8) (N := some 40) mkspec_l324_9 ?_
       refine pQ (i := 9) (N := some 41) mkspec_l324_11 ?_
       refine pQ (i := 11) (N := some 43) mkspec_l324_13 ?_
       refine tQ (i := 5) (N := some 37) mkspec_l324_15 rfl hHeld (Or.inl ⟨by rfl, by rintro w' ⟨s0, s1, s2, s3⟩; go_simp; with_reducible rfl⟩) ?_
       refine tQ (i := 10) (N := some 42) mkspec_l324_17 rfl hHeld (Or.inl ⟨by rfl, by rintro w' ⟨s0, s1, s2, s3⟩; go_simp; with_reducible rfl⟩) ?_
       refine one_ (i := 12) (N := some 44) mkspec_l324_19 rfl rfl (one_of HT_.out (by kernel_rfl)) (by decide) (fun K hK => ?_)
       refine Kd.R_lit_step (Kd.int .i64) _ 2 ?hg (N := 44) ?hd (xs := ([(rd_T92 t156 x6_1).f0, (rd_T92 t156 x6_1).f1, x5_1] : List Int)) (inner := [.int .i64 ((rd_T92 t156 x6_1).f0), .int .i64 ((rd_T92 t156 x6_1).f1), .int .i64 x5_1]) (ok := fun _ => True) (okp := fun _ => True) ?hr ?hp (fun _ hk => hk) trivial (Below.refl _ _) (Nat.le_refl _) (by simp) ?_; (case hd => rfl); (case hg => rfl); (case hr => first | (go_simp; done) | (go_simp; rfl)); (case hp => exact (Reps.one (show Kd.M (Kd.int .i64) _ _ _ ((rd_T92 t156 x6_1).f0) [.int .i64 ((rd_T92 t156 x6_1).f0)] from rfl) (Reps.one (show Kd.M (Kd.int .i64) _ _ _ ((rd_T92 t156 x6_1).f1) [.int .i64 ((rd_T92 t156 x6_1).f1)] from rfl) (Reps.one (show Kd.M (Kd.int .i64) _ _ _ x5_1 [.int .i64 x5_1] from rfl) (Reps.none _ _)))))
       intro v171 w26 ho27 hb hg_ hnew_
       have HS0_ := (hb.cell (World.block_lt_of_cell? _ _ (hHeld.1))).trans (hHeld.1)
       have HS1_ := (hb.cell (World.block_lt_of_cell? _ _ (hHeld.2.1))).trans (hHeld.2.1)
       have HS2_ := (hb.cell (World.block_lt_of_cell? _ _ (hHeld.2.2.1))).trans (hHeld.2.2.1)
       have HS3_ := (hb.cell (World.block_lt_of_cell? _ _ (hHeld.2.2.2))).trans (hHeld.2.2.2)
       clear hg_ hnew_
       (first | rw [← Ny170.out] at ho27 | (simp only [Int.reduceToNat] at ho27; rw [← Ny170.out] at ho27))
       have n0_ := aM (Kd.R_below (by (with_reducible repeat (first | apply rA | apply rN | apply rD)); exact HO_3.out) hb)
       have n1_ := aM (Kd.R_lower ho27 (below_size bQ))
       have n2_ := aM (below_step bQ hb)
       clear HO_3
       clear HB
       have HO_3 := n0_
       have HO172 := n1_
       have HB := n2_
       clear n0_ n1_ n2_
       clear hb ho27
       obtain ⟨Ao28, co28, eo28⟩ := Kd.R_slice HO172.out
       (first | subst eo28 | (injection eo28 with f1_ f2_ f3_; have f4_ := f1_.symm; have f5_ := f3_.symm; clear f1_ f2_ f3_; subst f4_; subst f5_))
       refine hK.out _ _ ⟨HS0_, HS1_, HS2_, HS3_⟩ (fun hHeld => ?_)
       clear hK K
       refine norm_ (a' := ?_) ?_ ?_
       rotate_left
       ·show Act.put _ (some 44) _ = _
        simp only [Act.put, sI, sZ, sS, i64_w, i32_w]
        rfl
       refine one_ (i := 13) (N := some 45) mkspec_l324_21 rfl rfl (one_of HT_.out (by kernel_rfl)) (by decide) (fun K hK => ?_)
       refine goes_ Try.func124 (by kernel_rfl) rfl #[.slice Ao28 y170.length co28] (by rfl) rfl rfl gQ ?_
       with_reducible refine (spec_l23Words.calls k1 _ _ y170 t173 _ ?side1 ?side2 A23.out).mono ?_
       (case side1 => repeat (first | exact (Kd.R_reads' HO172.out).2.2 | (with_reducible first | refine cA ?_ _ | refine cN ?_ _ | refine cD ?_)))
       (case side2 => exact (Kd.R_reads' HO172.out).2.1)
       rintro e w29 ⟨rfl, hb⟩
       have HS0_ := (hb.cell (World.block_lt_of_cell? _ _ (hHeld.1))).trans (hHeld.1)
       have HS1_ := (hb.cell (World.block_lt_of_cell? _ _ (hHeld.2.1))).trans (hHeld.2.1)
       have HS2_ := (hb.cell (World.block_lt_of_cell? _ _ (hHeld.2.2.1))).trans (hHeld.2.2.1)
       have HS3_ := (hb.cell (World.block_lt_of_cell? _ _ (hHeld.2.2.2))).trans (hHeld.2.2.2)
       refine ⟨_, rfl, ?_⟩
       have n0_ := aM (Kd.R_below (by (with_reducible repeat (first | apply rA | apply rN | apply rD)); exact HO_3.out) hb)
       have n1_ := aM (Kd.R_below (by (with_reducible repeat (first | apply rA | apply rN | apply rD)); exact HO172.out) hb)
       have n2_ := aM (below_step bQ hb)
       clear HO_3
       clear HO172
       clear HB
       have HO_3 := n0_
       have HO172 := n1_
       have HB := n2_
       clear n0_ n1_ n2_
       (try clear hb)
       (try clear hb2)
       (try clear hk)
       (try clear hi)
       refine hK.out _ _ ⟨HS0_, HS1_, HS2_, HS3_⟩ (fun hHeld => ?_)
       clear hK K
       refine norm_ (a' := ?_) ?_ ?_
       rotate_left
       ·show Act.put _ (some 45) _ = _
        simp only [Act.put, sI, sZ, sS, i64_w, i32_w]
        rfl
       refine pQ (i := 14) (N := some 46) mkspec_l324_23 ?_
       refine pQ (i := 15) (N := some 4) mkspec_l324_25 ?_
       refine done_ (done_of HT_.out (by kernel_rfl)) ?_
       try go_wp2
       have n0_ := aM (Kd.R_drew HO_3.out)
       have n1_ := aM (Kd.R_drew HO172.out)
       have n2_ := aM (below_drew1 HB.out)
       clear HO_3
       clear HO172
       clear HB
       have HO_3 := n0_
       have HO172 := n1_
       have HB := n2_
       clear n0_ n1_ n2_
       have p174 : 0 ≤ (x6_1 : Int) := dA
       have q174 : x6_1 < (t156.length : Int) := dA
       obtain ⟨ad174, e174, hx174_0, hx174_1⟩ := at_T92 (Kd.R_reads' HO_3.out).2.2 x6_1 p174 q174
       obtain rfl : ad168 = ad174 := (by injection e174)
       replace p174 := eq_true p174
       replace q174 := eq_true q174
       have p175 : 0 ≤ (x6_1 : Int) := dA
       have q175 : x6_1 < (t156.length : Int) := dA
       obtain ⟨ad175, e175, hx175_0, hx175_1⟩ := at_T92 (Kd.R_reads' HO_3.out).2.2 x6_1 p175 q175
       obtain rfl : ad168 = ad175 := (by injection e175)
       replace p175 := eq_true p175
       replace q175 := eq_true q175
       refine start_ (n := 15) (S := fun w' => w'.cell? (ad168.add ((x6_1).toNat * 2)) = some (.int .i64 ((rd_T92 t156 x6_1).f0)) ∧ w'.cell? ⟨(ad168.add ((x6_1).toNat * 2)).block, (ad168.add ((x6_1).toNat * 2)).off + 1, none⟩ = some (.int .i64 ((rd_T92 t156 x6_1).f1)) ∧ w'.cell? (ad168.add ((x6_1).toNat * 2)) = some (.int .i64 ((rd_T92 t156 x6_1).f0)) ∧ w'.cell? ⟨(ad168.add ((x6_1).toNat * 2)).block, (ad168.add ((x6_1).toNat * 2)).off + 1, none⟩ = some (.int .i64 ((rd_T92 t156 x6_1).f1))) (ds := []) mkspec_l324_8 (by kernel_rfl) rfl rfl ⟨hx174_0, hx174_1, hx175_0, hx175_1⟩ (fun hHeld => ?_); refine with_tabW spec_l23Encode.tab10 spec_l23Encode.bits10 (fun HT_ HW_ => ?_)
       generalize w29.drew = w30 at HO_3 HO172 HB hx174_0 hx174_1 hx175_0 hx175_1 hHeld ⊢
       refine pQ (i := 0) (N := some 47) mkspec_l324_10 ?_
       refine pQ (i := 1) (N := some 48) mkspec_l324_12 ?_
       refine pQ (i := 2) (N := some 49) mkspec_l324_14 ?_
       refine pQ (i := 3) (N := some 50) mkspec_l324_16 ?_
       refine pQ (i := 4) (N := some 51) mkspec_l324_18 ?_
       refine pQ (i := 6) (N := some 53) mkspec_l324_20 ?_
       refine pQ (i := 7) (N := some 54) mkspec_l324_22 ?_
       refine pQ (i := 8) (N := some 55) mkspec_l324_24 ?_
       refine pQ (i := 9) (N := some 56) mkspec_l324_26 ?_
       refine tQ (i := 5) (N := some 52) mkspec_l324_27 rfl hHeld (Or.inl ⟨by rfl, by rintro w' ⟨s0, s1, s2, s3⟩; go_simp; with_reducible rfl⟩) ?_
       refine tQ (i := 10) (N := some 57) mkspec_l324_28 rfl hHeld (Or.inl ⟨by rfl, by rintro w' ⟨s0, s1, s2, s3⟩; go_simp; with_reducible rfl⟩) ?_
       refine pQ (i := 11) (N := some 58) mkspec_l324_29 ?_
       refine pQ (i := 12) (N := some 59) mkspec_l324_30 ?_
       refine pQ (i := 13) (N := some 60) mkspec_l324_31 ?_
       refine pQ (i := 14) (N := some 5) mkspec_l324_32 ?_
       refine done_ (done_of HT_.out (by kernel_rfl)) ?_
       try go_wp2
       go_roundg k1
       case measure => have := HK1.out; omega
       case rel => exact ⟨(x4_1 ++ t173), (wrap64 (x5_1 + (wrap64 ((wrap64 (((rd_T92 t156 x6_1).f1) - ((rd_T92 t156 x6_1).f0))) + 1)))), (wrap64 (x6_1 + 1)), rQ, rQ, rQ, H', ⟨by have := HK1.out; omega⟩, ⟨by (with_reducible repeat (first | apply rA | apply rN | apply rD)); exact HO_3.out⟩, ⟨bQ⟩⟩
      ·rw [if_neg c24] at H
       exact absurd H (by simp)
     ·rw [if_neg c22] at H
      exact absurd H (by simp)
    ·rw [if_neg c21] at H
     have c21b0 : decide (x6_1 < (t156.length : Int)) = false := decide_eq_false c21
     clear c21
     obtain rfl := Option.some.inj H
     go_wp2
     go_ret
     exact ⟨eQ, bQ⟩

end Go.Proofs.Ytdahcapolipnbaa.QFnExactDecodeClass
