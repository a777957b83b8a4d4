/- What some Go functions answer, each as a Lean function, and that the machine answers so: written by a program of this session out of the translation. -/
import Derived.Test.YtdahcapolipnbaaQFnExactRuleTextx0
import Derived.Test.YtdahcapolipnbaaQFnExactRuleTextx2
namespace Go.Proofs.Ytdahcapolipnbaa.QFnExactRuleText
open Go.RowKit Go.Proofs.YtdahcapolipnbaaW.PrintWords Go.Proofs.YtdahcapolipnbaaW.PrintLast Go.Proofs.YtdahcapolipnbaaW.PrintMore Go.Proofs.Ytdahcapolipnbaa.Rp
attribute [local go_sem] max2_int min2_int max_two min_two max_three min_three max_four min_four   -- for this text's walks alone
set_option linter.unusedVariables false
set_option linter.unusedSimpArgs false

/-! ### spec_l23Text: function 51 -/
mutual
def spec_l23Text.l0 : Nat → List (S92) → ByteArray → Int → Option (ByteArray)
 | 0, _, _, _ => none
 | k + 1, x3, x4, x5 => if x5 < (x3.length : Int) then (if x5 > 0 then (if x4.size + 1 ≤ 9223372036854775807 then (spec_l23Text.j1 k x3 (x4 ++ (⟨#[32]⟩ : ByteArray)) x5) else (none)) else (spec_l23Text.j1 k x3 x4 x5)) else (some x4)
def spec_l23Text.j1 : Nat → List (S92) → ByteArray → Int → Option (ByteArray)
 | 0, _, _, _ => none
 | k + 1, x3, x4, x5 => if 0 ≤ x5 then (if x5 < (x3.length : Int) then ((spec_l01Dec.f k ((rd_T92 x3 x5).f0)).bind fun t157 => (if x4.size + t157.size ≤ 9223372036854775807 then (if ((rd_T92 x3 x5).f1) > ((rd_T92 x3 x5).f0) then ((spec_l01Dec.f k ((rd_T92 x3 x5).f1)).bind fun t161 => (if 1 + t161.size ≤ 9223372036854775807 then (if (x4 ++ t157).size + ((⟨#[45]⟩ : ByteArray) ++ t161).size ≤ 9223372036854775807 then (spec_l23Text.l0 k x3 ((x4 ++ t157) ++ ((⟨#[45]⟩ : ByteArray) ++ t161)) (wrap64 (x5 + 1))) else (none)) else (none))) else (spec_l23Text.l0 k x3 (x4 ++ t157) (wrap64 (x5 + 1)))) else (none))) else (none)) else (none)
end
def spec_l23Text.f (k : Nat) (l0 : List Int) : Option (ByteArray) := (spec_l23Ranges.f k l0).bind fun t153 => (spec_l23Text.l0 k t153 (⟨#[]⟩ : ByteArray) 0)
theorem spec_l23Text.mono_l : ∀ k, (∀ y0 y1 y2, LeO (spec_l23Text.l0 k y0 y1 y2) (spec_l23Text.l0 (k + 1) y0 y1 y2)) ∧ (∀ y0 y1 y2, LeO (spec_l23Text.j1 k y0 y1 y2) (spec_l23Text.j1 (k + 1) y0 y1 y2))
 | 0 => ⟨fun _ _ _ r h => by simp [spec_l23Text.l0] at h, fun _ _ _ r h => by simp [spec_l23Text.j1] at h⟩
 | k + 1 => by
  obtain ⟨ih0, ih1⟩ := spec_l23Text.mono_l k
  refine ⟨?_, ?_⟩
  ·intro y0 y1 y2
   unfold spec_l23Text.l0
   repeat' first
   | (with_reducible exact ih0 _ _ _)
   | (with_reducible exact ih1 _ _ _)
   | (with_reducible exact spec_l01Dec.mono _ _)
   | (with_reducible exact spec_l23Ranges.mono _ _)
   | (with_reducible exact LeO.refl _)
   | (with_reducible exact LeO.none _)
   | (with_reducible refine LeO.ite ?_ ?_)
   | (with_reducible refine LeO.bind ?_ (fun _ => ?_))
   | exact ih0 _ _ _
   | exact ih1 _ _ _
   | exact spec_l01Dec.mono _ _
   | exact spec_l23Ranges.mono _ _
   | exact LeO.none _
   | refine LeO.ite ?_ ?_
   | refine LeO.bind ?_ (fun _ => ?_)
  ·intro y0 y1 y2
   unfold spec_l23Text.j1
   repeat' first
   | (with_reducible exact ih0 _ _ _)
   | (with_reducible exact ih1 _ _ _)
   | (with_reducible exact spec_l01Dec.mono _ _)
   | (with_reducible exact spec_l23Ranges.mono _ _)
   | (with_reducible exact LeO.refl _)
   | (with_reducible exact LeO.none _)
   | (with_reducible refine LeO.ite ?_ ?_)
   | (with_reducible refine LeO.bind ?_ (fun _ => ?_))
   | exact ih0 _ _ _
   | exact ih1 _ _ _
   | exact spec_l01Dec.mono _ _
   | exact spec_l23Ranges.mono _ _
   | exact LeO.none _
   | refine LeO.ite ?_ ?_
   | refine LeO.bind ?_ (fun _ => ?_)
theorem spec_l23Text.mono : ∀ a0 k, LeO (spec_l23Text.f k a0) (spec_l23Text.f (k + 1) a0) := by
 intro a0 k
 obtain ⟨ih0, ih1⟩ := spec_l23Text.mono_l k
 unfold spec_l23Text.f
 repeat' first
   | (with_reducible exact ih0 _ _ _)
   | (with_reducible exact ih1 _ _ _)
   | (with_reducible exact spec_l01Dec.mono _ _)
   | (with_reducible exact spec_l23Ranges.mono _ _)
   | (with_reducible exact LeO.refl _)
   | (with_reducible exact LeO.none _)
   | (with_reducible refine LeO.ite ?_ ?_)
   | (with_reducible refine LeO.bind ?_ (fun _ => ?_))
   | exact ih0 _ _ _
   | exact ih1 _ _ _
   | exact spec_l01Dec.mono _ _
   | exact spec_l23Ranges.mono _ _
   | exact LeO.none _
   | refine LeO.ite ?_ ?_
   | refine LeO.bind ?_ (fun _ => ?_)
set_option maxHeartbeats 8000000 in
set_option maxRecDepth 100000 in
theorem spec_l23Text.calls (k : Nat) (A0 : Option Addr) (c0 : Nat) (l0 : List Int) (r : ByteArray) (w : World) (hr0 : Kd.C (Kd.int .i64) w A0 l0.length l0) (hc0 : l0.length ≤ c0) (h : spec_l23Text.f k l0 = some r) :
  Calls Try.prog 51 #[.slice A0 l0.length c0] w fun e w' => e = .returned (.string r) ∧ Below w.heap.size w w' := by
 have HR0 := aM hr0
 have HC0 := aM hc0
 clear hr0 hc0
 have HB := aM (Below.refl w.heap.size w)
 have H : ((spec_l23Ranges.f k l0).bind fun t153 => (spec_l23Text.l0 k t153 (⟨#[]⟩ : ByteArray) 0)) = some r := h
 clear h
 replace H := Option.bind_eq_some_iff.mp H
 obtain ⟨t153, A20, H⟩ := H
 replace H : (spec_l23Text.l0 k t153 (⟨#[]⟩ : ByteArray) 0) = some r := H
 have A2 := aM A20
 clear A20
 have H' := aM H
 clear H
 go_enter Try.func51, Try.ntmps51
 go_wp2_with (first | (go_at_call 117; (with_reducible refine (spec_l23Ranges.calls k _ _ l0 t153 _ ?side1 ?side2 A2.out).mono ?_); (case side1 => repeat (first | exact HR0.out | (with_reducible first | refine cA ?_ _ | refine cN ?_ _ | refine cD ?_))); (case side2 => exact HC0.out); rintro e w3 ⟨v154, rfl, ho0, hb⟩; have n0_ := aM (Kd.R_lower ho0 (below_size bQ)); have n1_ := aM (below_step bQ hb); clear HB; have HO155 := n0_; have HB := n1_; clear n0_ n1_; (try clear hb); (try clear hb2); (try clear hk); (try clear hi); (try clear ho0)))
 repeat (go_quiet (first | (go_at_call 117; (with_reducible refine (spec_l23Ranges.calls k _ _ l0 t153 _ ?side1 ?side2 A2.out).mono ?_); (case side1 => repeat (first | exact HR0.out | (with_reducible first | refine cA ?_ _ | refine cN ?_ _ | refine cD ?_))); (case side2 => exact HC0.out); rintro e w3 ⟨v154, rfl, ho0, hb⟩; have n0_ := aM (Kd.R_lower ho0 (below_size bQ)); have n1_ := aM (below_step bQ hb); clear HB; have HO155 := n0_; have HB := n1_; clear n0_ n1_; (try clear hb); (try clear hb2); (try clear hk); (try clear hi); (try clear ho0))); try go_wp2_with (first | (go_at_call 117; (with_reducible refine (spec_l23Ranges.calls k _ _ l0 t153 _ ?side1 ?side2 A2.out).mono ?_); (case side1 => repeat (first | exact HR0.out | (with_reducible first | refine cA ?_ _ | refine cN ?_ _ | refine cD ?_))); (case side2 => exact HC0.out); rintro e w3 ⟨v154, rfl, ho0, hb⟩; have n0_ := aM (Kd.R_lower ho0 (below_size bQ)); have n1_ := aM (below_step bQ hb); clear HB; have HO155 := n0_; have HB := n1_; clear n0_ n1_; (try clear hb); (try clear hb2); (try clear hk); (try clear hi); (try clear ho0))))
 go_loopg [4, 5] k (fun kq v4 v5 w' => ∃ (x4_1 : ByteArray) (x5_1 : Int), v4 = .string x4_1 ∧ v5 = .int .i64 x5_1 ∧ Aside0 (spec_l23Text.l0 kq t153 x4_1 x5_1 = some r) ∧ Aside0 (kq ≤ k) ∧ Aside0 (Kd.R k92 92 w' w.heap.size (fun _ => True) v154 t153) ∧ Aside0 (Below w.heap.size w w'))
 case atStart => exact ⟨((⟨#[]⟩ : ByteArray)), (0), rQ, rQ, H', ⟨Nat.le_refl _⟩, ⟨by (with_reducible repeat (first | apply rA | apply rN | apply rD)); exact HO155.out⟩, ⟨bQ⟩⟩
 case round =>
  clear H'
  try clear p2
  obtain ⟨x4_1, x5_1, rfl, rfl, HA, HK1, HO_3, HB⟩ := hrel
  cases gk with
  | zero => exact absurd HA.out (by simp [spec_l23Text.l0])
  | succ k1 =>
   have H := HA.out
   clear HA
   simp only [spec_l23Text.l0] at H
   by_cases c4 : x5_1 < (t153.length : Int)
   ·rw [if_pos c4] at H
    have c4b0 : decide (x5_1 < (t153.length : Int)) = true := decide_eq_true c4
    clear c4
    have HC5 := aM H
    clear H
    obtain ⟨Ao6, co6, eo6⟩ := Kd.R_slice HO_3.out
    subst eo6
    go_upto_if 15 with (fail)
    repeat (go_quiet (fail); go_upto_if 15 with (fail))
    go_cut [4] (fun v4 wc => ∃ (kq : Nat) (x4_4 : ByteArray), v4 = .string x4_4 ∧ Aside0 (spec_l23Text.j1 kq t153 x4_4 x5_1 = some r) ∧ Aside0 (kq ≤ k1) ∧ Aside0 (Kd.R k92 92 wc w.heap.size (fun _ => True) (.slice Ao6 t153.length co6) t153) ∧ Aside0 (Below w.heap.size w wc))
    case first =>
     have H := HC5.out
     clear HC5
     by_cases c7 : x5_1 > 0
     ·rw [if_pos c7] at H
      have c7b0 : decide (0 < x5_1) = true := decide_eq_true c7
      clear c7
      (first | rw [c7b0] | (simp only [i64_w, i32_w]; rw [c7b0]) | rw [c7b1] | rw [c7b2] | rw [c7b3] | rw [c7b4] | skip)
      by_cases c8 : x4_1.size + 1 ≤ 9223372036854775807
      ·rw [if_pos c8] at H
       have c8b0 := eq_true c8
       have c8b1 : decide (x4_1.size + 1 ≤ 9223372036854775807) = true := decide_eq_true c8
       try have c8b2 : (9223372036854775807 < x4_1.size + 1) = False := eq_false (Nat.not_lt.2 c8)
       have H' := aM H
       clear H
       go_wp2
       repeat (go_quiet (fail); try go_wp2)
       go_meet
       case rel => exact ⟨_, (x4_1 ++ (⟨#[32]⟩ : ByteArray)), rQ, H', ⟨by have := HK1.out; first | omega | exact Nat.le_refl _⟩, ⟨by (with_reducible repeat (first | apply rA | apply rN | apply rD)); exact HO_3.out⟩, ⟨bQ⟩⟩
      ·rw [if_neg c8] at H
       exact absurd H (by simp)
     ·rw [if_neg c7] at H
      have c7b0 : decide (0 < x5_1) = false := decide_eq_false c7
      clear c7
      (first | rw [c7b0] | (simp only [i64_w, i32_w]; rw [c7b0]) | rw [c7b1] | rw [c7b2] | rw [c7b3] | rw [c7b4] | skip)
      have H' := aM H
      clear H
      go_wp2
      repeat (go_quiet (fail); try go_wp2)
      go_meet
      case rel => exact ⟨_, (x4_1), rQ, H', ⟨by have := HK1.out; first | omega | exact Nat.le_refl _⟩, ⟨by (with_reducible repeat (first | apply rA | apply rN | apply rD)); exact HO_3.out⟩, ⟨bQ⟩⟩
    case rest =>
     clear HC5
     try clear p2
     try clear c4
     try clear c4b0
     try clear c5
     try clear c7
     try clear c7b0
     try clear c7b1
     try clear c7b2
     try clear c8
     try clear c8b0
     try clear c8b1
     try clear c8b2
     try clear p2
     obtain ⟨kq, x4_4, rfl, HA, HJ4, HO_3, HB⟩ := hcut
     cases kq with
     | zero => exact absurd HA.out (by simp [spec_l23Text.j1])
     | succ kj4 =>
      have H := HA.out
      clear HA
      simp only [spec_l23Text.j1] at H
      by_cases c9 : 0 ≤ x5_1
      ·rw [if_pos c9] at H
       have c9b0 : decide (0 ≤ x5_1) = true := decide_eq_true c9
       clear c9
       by_cases c10 : x5_1 < (t153.length : Int)
       ·rw [if_pos c10] at H
        have c10b0 : decide (x5_1 < (t153.length : Int)) = true := decide_eq_true c10
        clear c10
        replace H := Option.bind_eq_some_iff.mp H
        obtain ⟨t157, A110, H⟩ := H
        replace H : (if x4_4.size + t157.size ≤ 9223372036854775807 then (if ((rd_T92 t153 x5_1).f1) > ((rd_T92 t153 x5_1).f0) then ((spec_l01Dec.f kj4 ((rd_T92 t153 x5_1).f1)).bind fun t161 => (if 1 + t161.size ≤ 9223372036854775807 then (if (x4_4 ++ t157).size + ((⟨#[45]⟩ : ByteArray) ++ t161).size ≤ 9223372036854775807 then (spec_l23Text.l0 kj4 t153 ((x4_4 ++ t157) ++ ((⟨#[45]⟩ : ByteArray) ++ t161)) (wrap64 (x5_1 + 1))) else (none)) else (none))) else (spec_l23Text.l0 kj4 t153 (x4_4 ++ t157) (wrap64 (x5_1 + 1)))) else (none)) = some r := H
        have A11 := aM A110
        clear A110
        by_cases c12 : x4_4.size + t157.size ≤ 9223372036854775807
        ·rw [if_pos c12] at H
         have c12b0 := eq_true c12
         have c12b1 : decide (x4_4.size + t157.size ≤ 9223372036854775807) = true := decide_eq_true c12
         try have c12b2 : (9223372036854775807 < x4_4.size + t157.size) = False := eq_false (Nat.not_lt.2 c12)
         by_cases c13 : ((rd_T92 t153 x5_1).f1) > ((rd_T92 t153 x5_1).f0)
         ·rw [if_pos c13] at H
          have c13b0 : decide (((rd_T92 t153 x5_1).f0) < ((rd_T92 t153 x5_1).f1)) = true := decide_eq_true c13
          clear c13
          replace H := Option.bind_eq_some_iff.mp H
          obtain ⟨t161, A140, H⟩ := H
          replace H : (if 1 + t161.size ≤ 9223372036854775807 then (if (x4_4 ++ t157).size + ((⟨#[45]⟩ : ByteArray) ++ t161).size ≤ 9223372036854775807 then (spec_l23Text.l0 kj4 t153 ((x4_4 ++ t157) ++ ((⟨#[45]⟩ : ByteArray) ++ t161)) (wrap64 (x5_1 + 1))) else (none)) else (none)) = some r := H
          have A14 := aM A140
          clear A140
          by_cases c15 : 1 + t161.size ≤ 9223372036854775807
          ·rw [if_pos c15] at H
           have c15b0 := eq_true c15
           have c15b1 : decide (1 + t161.size ≤ 9223372036854775807) = true := decide_eq_true c15
           try have c15b2 : (9223372036854775807 < 1 + t161.size) = False := eq_false (Nat.not_lt.2 c15)
           by_cases c16 : (x4_4 ++ t157).size + ((⟨#[45]⟩ : ByteArray) ++ t161).size ≤ 9223372036854775807
           ·rw [if_pos c16] at H
            have c16b0 := eq_true c16
            have c16b1 : decide ((x4_4 ++ t157).size + ((⟨#[45]⟩ : ByteArray) ++ t161).size ≤ 9223372036854775807) = true := decide_eq_true c16
            try have c16b2 : (9223372036854775807 < (x4_4 ++ t157).size + ((⟨#[45]⟩ : ByteArray) ++ t161).size) = False := eq_false (Nat.not_lt.2 c16)
            try have c16b3 : (9223372036854775807 < x4_4.size + t157.size + (1 + t161.size)) = False := eq_false (Nat.not_lt.2 (by have h_ := c16; simp only [ByteArray.size_append] at h_; exact h_))
            try (have c16b6 := c16b0; simp only [ByteArray.size_append, ByteArray.size_extract, Nat.min_self, Int.natCast_add] at c16b6)
            try (have c16b7 := c16b1; simp only [ByteArray.size_append, ByteArray.size_extract, Nat.min_self, Int.natCast_add] at c16b7)
            have H' := aM H
            clear H
            have p156 : 0 ≤ (x5_1 : Int) := dA
            have q156 : x5_1 < (t153.length : Int) := dA
            obtain ⟨ad156, e156, hx156_0, hx156_1⟩ := at_T92 (Kd.R_reads' HO_3.out).2.2 x5_1 p156 q156
            cases e156
            replace p156 := eq_true p156
            replace q156 := eq_true q156
            go_wp2_with (first | (go_at_call 118; (with_reducible refine (spec_l01Dec.calls kj4 ((rd_T92 t153 x5_1).f0) t157 _ A11.out).mono ?_); rintro e w17 ⟨rfl, hb⟩; have n0_ := aM (Kd.R_below (by (with_reducible repeat (first | apply rA | apply rN | apply rD)); exact HO_3.out) hb); have n1_ := aM (below_step bQ hb); clear HO_3; clear HB; have HO_3 := n0_; have HB := n1_; clear n0_ n1_; (try clear hb); (try clear hb2); (try clear hk); (try clear hi); have p158 : 0 ≤ (x5_1 : Int) := dA; have q158 : x5_1 < (t153.length : Int) := dA; obtain ⟨ad158, e158, hx158_0, hx158_1⟩ := at_T92 (Kd.R_reads' HO_3.out).2.2 x5_1 p158 q158; obtain rfl : ad156 = ad158 := (by injection e158); replace p158 := eq_true p158; replace q158 := eq_true q158; have p159 : 0 ≤ (x5_1 : Int) := dA; have q159 : x5_1 < (t153.length : Int) := dA; obtain ⟨ad159, e159, hx159_0, hx159_1⟩ := at_T92 (Kd.R_reads' HO_3.out).2.2 x5_1 p159 q159; obtain rfl : ad156 = ad159 := (by injection e159); replace p159 := eq_true p159; replace q159 := eq_true q159; have p160 : 0 ≤ (x5_1 : Int) := dA; have q160 : x5_1 < (t153.length : Int) := dA; obtain ⟨ad160, e160, hx160_0, hx160_1⟩ := at_T92 (Kd.R_reads' HO_3.out).2.2 x5_1 p160 q160; obtain rfl : ad156 = ad160 := (by injection e160); replace p160 := eq_true p160; replace q160 := eq_true q160) | (go_at_call 118; (with_reducible refine (spec_l01Dec.calls kj4 ((rd_T92 t153 x5_1).f1) t161 _ A14.out).mono ?_); rintro e w18 ⟨rfl, hb⟩; have n0_ := aM (Kd.R_below (by (with_reducible repeat (first | apply rA | apply rN | apply rD)); exact HO_3.out) hb); have n1_ := aM (below_step bQ hb); clear HO_3; clear HB; have HO_3 := n0_; have HB := n1_; clear n0_ n1_; (try clear hb); (try clear hb2); (try clear hk); (try clear hi)))
            repeat (go_quiet (first | (go_at_call 118; (with_reducible refine (spec_l01Dec.calls kj4 ((rd_T92 t153 x5_1).f0) t157 _ A11.out).mono ?_); rintro e w17 ⟨rfl, hb⟩; have n0_ := aM (Kd.R_below (by (with_reducible repeat (first | apply rA | apply rN | apply rD)); exact HO_3.out) hb); have n1_ := aM (below_step bQ hb); clear HO_3; clear HB; have HO_3 := n0_; have HB := n1_; clear n0_ n1_; (try clear hb); (try clear hb2); (try clear hk); (try clear hi); have p158 : 0 ≤ (x5_1 : Int) := dA; have q158 : x5_1 < (t153.length : Int) := dA; obtain ⟨ad158, e158, hx158_0, hx158_1⟩ := at_T92 (Kd.R_reads' HO_3.out).2.2 x5_1 p158 q158; obtain rfl : ad156 = ad158 := (by injection e158); replace p158 := eq_true p158; replace q158 := eq_true q158; have p159 : 0 ≤ (x5_1 : Int) := dA; have q159 : x5_1 < (t153.length : Int) := dA; obtain ⟨ad159, e159, hx159_0, hx159_1⟩ := at_T92 (Kd.R_reads' HO_3.out).2.2 x5_1 p159 q159; obtain rfl : ad156 = ad159 := (by injection e159); replace p159 := eq_true p159; replace q159 := eq_true q159; have p160 : 0 ≤ (x5_1 : Int) := dA; have q160 : x5_1 < (t153.length : Int) := dA; obtain ⟨ad160, e160, hx160_0, hx160_1⟩ := at_T92 (Kd.R_reads' HO_3.out).2.2 x5_1 p160 q160; obtain rfl : ad156 = ad160 := (by injection e160); replace p160 := eq_true p160; replace q160 := eq_true q160) | (go_at_call 118; (with_reducible refine (spec_l01Dec.calls kj4 ((rd_T92 t153 x5_1).f1) t161 _ A14.out).mono ?_); rintro e w18 ⟨rfl, hb⟩; have n0_ := aM (Kd.R_below (by (with_reducible repeat (first | apply rA | apply rN | apply rD)); exact HO_3.out) hb); have n1_ := aM (below_step bQ hb); clear HO_3; clear HB; have HO_3 := n0_; have HB := n1_; clear n0_ n1_; (try clear hb); (try clear hb2); (try clear hk); (try clear hi))); try go_wp2_with (first | (go_at_call 118; (with_reducible refine (spec_l01Dec.calls kj4 ((rd_T92 t153 x5_1).f0) t157 _ A11.out).mono ?_); rintro e w17 ⟨rfl, hb⟩; have n0_ := aM (Kd.R_below (by (with_reducible repeat (first | apply rA | apply rN | apply rD)); exact HO_3.out) hb); have n1_ := aM (below_step bQ hb); clear HO_3; clear HB; have HO_3 := n0_; have HB := n1_; clear n0_ n1_; (try clear hb); (try clear hb2); (try clear hk); (try clear hi); have p158 : 0 ≤ (x5_1 : Int) := dA; have q158 : x5_1 < (t153.length : Int) := dA; obtain ⟨ad158, e158, hx158_0, hx158_1⟩ := at_T92 (Kd.R_reads' HO_3.out).2.2 x5_1 p158 q158; obtain rfl : ad156 = ad158 := (by injection e158); replace p158 := eq_true p158; replace q158 := eq_true q158; have p159 : 0 ≤ (x5_1 : Int) := dA; have q159 : x5_1 < (t153.length : Int) := dA; obtain ⟨ad159, e159, hx159_0, hx159_1⟩ := at_T92 (Kd.R_reads' HO_3.out).2.2 x5_1 p159 q159; obtain rfl : ad156 = ad159 := (by injection e159); replace p159 := eq_true p159; replace q159 := eq_true q159; have p160 : 0 ≤ (x5_1 : Int) := dA; have q160 : x5_1 < (t153.length : Int) := dA; obtain ⟨ad160, e160, hx160_0, hx160_1⟩ := at_T92 (Kd.R_reads' HO_3.out).2.2 x5_1 p160 q160; obtain rfl : ad156 = ad160 := (by injection e160); replace p160 := eq_true p160; replace q160 := eq_true q160) | (go_at_call 118; (with_reducible refine (spec_l01Dec.calls kj4 ((rd_T92 t153 x5_1).f1) t161 _ A14.out).mono ?_); rintro e w18 ⟨rfl, hb⟩; have n0_ := aM (Kd.R_below (by (with_reducible repeat (first | apply rA | apply rN | apply rD)); exact HO_3.out) hb); have n1_ := aM (below_step bQ hb); clear HO_3; clear HB; have HO_3 := n0_; have HB := n1_; clear n0_ n1_; (try clear hb); (try clear hb2); (try clear hk); (try clear hi))))
            go_roundg kj4
            case measure => have := HK1.out; have := HJ4.out; omega
            case rel => exact ⟨((x4_4 ++ t157) ++ ((⟨#[45]⟩ : ByteArray) ++ t161)), (wrap64 (x5_1 + 1)), rQ, rQ, H', ⟨by have := HK1.out; have := HJ4.out; omega⟩, ⟨by (with_reducible repeat (first | apply rA | apply rN | apply rD)); exact HO_3.out⟩, ⟨bQ⟩⟩
           ·rw [if_neg c16] at H
            exact absurd H (by simp)
          ·rw [if_neg c15] at H
           exact absurd H (by simp)
         ·rw [if_neg c13] at H
          have c13b0 : decide (((rd_T92 t153 x5_1).f0) < ((rd_T92 t153 x5_1).f1)) = false := decide_eq_false c13
          clear c13
          have H' := aM H
          clear H
          have p156 : 0 ≤ (x5_1 : Int) := dA
          have q156 : x5_1 < (t153.length : Int) := dA
          obtain ⟨ad156, e156, hx156_0, hx156_1⟩ := at_T92 (Kd.R_reads' HO_3.out).2.2 x5_1 p156 q156
          cases e156
          replace p156 := eq_true p156
          replace q156 := eq_true q156
          go_wp2_with (first | (go_at_call 118; (with_reducible refine (spec_l01Dec.calls kj4 ((rd_T92 t153 x5_1).f0) t157 _ A11.out).mono ?_); rintro e w19 ⟨rfl, hb⟩; have n0_ := aM (Kd.R_below (by (with_reducible repeat (first | apply rA | apply rN | apply rD)); exact HO_3.out) hb); have n1_ := aM (below_step bQ hb); clear HO_3; clear HB; have HO_3 := n0_; have HB := n1_; clear n0_ n1_; (try clear hb); (try clear hb2); (try clear hk); (try clear hi); have p158 : 0 ≤ (x5_1 : Int) := dA; have q158 : x5_1 < (t153.length : Int) := dA; obtain ⟨ad158, e158, hx158_0, hx158_1⟩ := at_T92 (Kd.R_reads' HO_3.out).2.2 x5_1 p158 q158; obtain rfl : ad156 = ad158 := (by injection e158); replace p158 := eq_true p158; replace q158 := eq_true q158; have p159 : 0 ≤ (x5_1 : Int) := dA; have q159 : x5_1 < (t153.length : Int) := dA; obtain ⟨ad159, e159, hx159_0, hx159_1⟩ := at_T92 (Kd.R_reads' HO_3.out).2.2 x5_1 p159 q159; obtain rfl : ad156 = ad159 := (by injection e159); replace p159 := eq_true p159; replace q159 := eq_true q159))
          repeat (go_quiet (first | (go_at_call 118; (with_reducible refine (spec_l01Dec.calls kj4 ((rd_T92 t153 x5_1).f0) t157 _ A11.out).mono ?_); rintro e w19 ⟨rfl, hb⟩; have n0_ := aM (Kd.R_below (by (with_reducible repeat (first | apply rA | apply rN | apply rD)); exact HO_3.out) hb); have n1_ := aM (below_step bQ hb); clear HO_3; clear HB; have HO_3 := n0_; have HB := n1_; clear n0_ n1_; (try clear hb); (try clear hb2); (try clear hk); (try clear hi); have p158 : 0 ≤ (x5_1 : Int) := dA; have q158 : x5_1 < (t153.length : Int) := dA; obtain ⟨ad158, e158, hx158_0, hx158_1⟩ := at_T92 (Kd.R_reads' HO_3.out).2.2 x5_1 p158 q158; obtain rfl : ad156 = ad158 := (by injection e158); replace p158 := eq_true p158; replace q158 := eq_true q158; have p159 : 0 ≤ (x5_1 : Int) := dA; have q159 : x5_1 < (t153.length : Int) := dA; obtain ⟨ad159, e159, hx159_0, hx159_1⟩ := at_T92 (Kd.R_reads' HO_3.out).2.2 x5_1 p159 q159; obtain rfl : ad156 = ad159 := (by injection e159); replace p159 := eq_true p159; replace q159 := eq_true q159)); try go_wp2_with (first | (go_at_call 118; (with_reducible refine (spec_l01Dec.calls kj4 ((rd_T92 t153 x5_1).f0) t157 _ A11.out).mono ?_); rintro e w19 ⟨rfl, hb⟩; have n0_ := aM (Kd.R_below (by (with_reducible repeat (first | apply rA | apply rN | apply rD)); exact HO_3.out) hb); have n1_ := aM (below_step bQ hb); clear HO_3; clear HB; have HO_3 := n0_; have HB := n1_; clear n0_ n1_; (try clear hb); (try clear hb2); (try clear hk); (try clear hi); have p158 : 0 ≤ (x5_1 : Int) := dA; have q158 : x5_1 < (t153.length : Int) := dA; obtain ⟨ad158, e158, hx158_0, hx158_1⟩ := at_T92 (Kd.R_reads' HO_3.out).2.2 x5_1 p158 q158; obtain rfl : ad156 = ad158 := (by injection e158); replace p158 := eq_true p158; replace q158 := eq_true q158; have p159 : 0 ≤ (x5_1 : Int) := dA; have q159 : x5_1 < (t153.length : Int) := dA; obtain ⟨ad159, e159, hx159_0, hx159_1⟩ := at_T92 (Kd.R_reads' HO_3.out).2.2 x5_1 p159 q159; obtain rfl : ad156 = ad159 := (by injection e159); replace p159 := eq_true p159; replace q159 := eq_true q159)))
          go_roundg kj4
          case measure => have := HK1.out; have := HJ4.out; omega
          case rel => exact ⟨(x4_4 ++ t157), (wrap64 (x5_1 + 1)), rQ, rQ, H', ⟨by have := HK1.out; have := HJ4.out; omega⟩, ⟨by (with_reducible repeat (first | apply rA | apply rN | apply rD)); exact HO_3.out⟩, ⟨bQ⟩⟩
        ·rw [if_neg c12] at H
         exact absurd H (by simp)
       ·rw [if_neg c10] at H
        exact absurd H (by simp)
      ·rw [if_neg c9] at H
       exact absurd H (by simp)
   ·rw [if_neg c4] at H
    have c4b0 : decide (x5_1 < (t153.length : Int)) = false := decide_eq_false c4
    clear c4
    obtain rfl := Option.some.inj H
    obtain ⟨Ao20, co20, eo20⟩ := Kd.R_slice HO_3.out
    subst eo20
    go_wp2
    repeat (go_quiet (fail); try go_wp2)
    go_ret
    exact ⟨eQ, bQ⟩

/-! ### spec_l25Commas: function 166, given -/
def spec_l25Commas.l0 : Nat → List Int → Int → Option (ByteArray)
 | 0, _, _ => none
 | k + 1, x3, x4 => if x4 < (x3.length : Int) then (if 0 ≤ x4 then (if (rd x3 x4) = 32 then (spec_l25Commas.l0 k (x3.set (x4 : Int).toNat 44) (wrap64 (x4 + 1))) else (spec_l25Commas.l0 k x3 (wrap64 (x4 + 1)))) else (none)) else (some (strOfNums x3))
def spec_l25Commas.f (k : Nat) (l0 : List Int) : Option (ByteArray) := (spec_l23Text.f k l0).bind fun t => spec_l25Commas.l0 k (Go.Proofs.Ytdahcapolipnbaa.Gv.bytesI t) 0
theorem spec_l25Commas.mono_l : ∀ k, (∀ y0 y1, LeO (spec_l25Commas.l0 k y0 y1) (spec_l25Commas.l0 (k + 1) y0 y1))
 | 0 => fun _ _ r h => by simp [spec_l25Commas.l0] at h
 | k + 1 => by
  have ih0 := spec_l25Commas.mono_l k
  intro y0 y1
  unfold spec_l25Commas.l0
  repeat' first
   | (with_reducible exact ih0 _ _)
   | (with_reducible exact LeO.refl _)
   | (with_reducible exact LeO.none _)
   | (with_reducible refine LeO.ite ?_ ?_)
   | exact ih0 _ _
   | exact LeO.none _
   | refine LeO.ite ?_ ?_
theorem spec_l25Commas.mono : ∀ a0 k, LeO (spec_l25Commas.f k a0) (spec_l25Commas.f (k + 1) a0) := fun a0 k => LeO.bind (spec_l23Text.mono _ _) (fun t => spec_l25Commas.mono_l k _ _)
set_option maxHeartbeats 8000000 in
set_option maxRecDepth 100000 in
theorem spec_l25Commas.calls (k : Nat) (A0 : Option Addr) (c0 : Nat) (l0 : List Int) (r : ByteArray) (w : World) (hr0 : Kd.C (Kd.int .i64) w A0 l0.length l0) (hc0 : l0.length ≤ c0) (h : spec_l25Commas.f k l0 = some r) :
  Calls Try.prog 166 #[.slice A0 l0.length c0] w fun e w' => e = .returned (.string r) ∧ Below w.heap.size w w' := by
 have HR0 := aM hr0
 have HC0 := aM hc0
 clear hr0 hc0
 have H : ((spec_l23Text.f k l0).bind fun t => spec_l25Commas.l0 k (Go.Proofs.Ytdahcapolipnbaa.Gv.bytesI t) 0) = some r := h
 clear h
 replace H := Option.bind_eq_some_iff.mp H
 obtain ⟨t5, A50, H⟩ := H
 have A5 := aM A50
 clear A50
 have H' := aM H
 clear H
 have HB := aM (Below.refl w.heap.size w)
 go_enter Try.func166, Try.ntmps166
 go_wp2_with (first
  | ((with_reducible refine gate_callee (f := 51) rfl ?_); refine goesL_ (some 6) rfl rfl Try.func51 (by kernel_rfl) rfl #[.slice A0 l0.length c0] rfl gQ ?_; (with_reducible refine (spec_l23Text.calls k A0 c0 l0 t5 _ ?side1 ?side2 A5.out).mono ?_); (case side1 => repeat (first | exact HR0.out | (with_reducible first | refine cA ?_ _ | refine cN ?_ _ | refine cD ?_))); (case side2 => exact HC0.out); rintro e w6 ⟨rfl, hb⟩; refine ⟨_, rfl, ?_⟩; have n0_ := aM (below_step HB.out hb); clear HB; have HB := n0_; clear n0_ hb)
  | ((with_reducible refine gate_dst (N := 7) rfl ?_); refine Go.Proofs.Ytdahcapolipnbaa.Gv.bytes_event (N := 7) (s := t5) rfl rfl rfl rfl ?_; have n0_ := aM (Go.Proofs.Ytdahcapolipnbaa.Gv.Cb.new w6 t5 w.heap.size (below_size HB.out)); have n1_ := aM (below_step HB.out (Go.Proofs.Ytdahcapolipnbaa.Gv.bytes_below w6 t5)); clear HB; generalize Lib.bytesWorld w6 _ t5 = w7 at n0_ n1_ ⊢; generalize grownCap w6 t5.size 0 _ = c7; generalize w6.heap.size = b7 at n0_ ⊢; have HD := n0_; have HB := n1_; clear n0_ n1_))
 go_loopg [4] k (fun kq v4 w' => ∃ (x3_1 : List Int) (x4_1 : Int), v4 = .int .i64 x4_1 ∧ Aside0 (spec_l25Commas.l0 kq x3_1 x4_1 = some r) ∧ Aside0 (kq ≤ k) ∧ Aside0 (x3_1.length = t5.size) ∧ Aside0 (Go.Proofs.Ytdahcapolipnbaa.Gv.Cb w.heap.size b7 x3_1 w') ∧ Aside0 (Below w.heap.size w w'))
 case atStart => exact ⟨Go.Proofs.Ytdahcapolipnbaa.Gv.bytesI t5, (0), rQ, H', ⟨Nat.le_refl _⟩, ⟨Go.Proofs.Ytdahcapolipnbaa.Gv.bytesI_length t5⟩, HD, HB⟩
 case round =>
  clear H' HB HD
  obtain ⟨x3_1, x4_1, rfl, HA, HK1, HL, HD, HB⟩ := hrel
  cases gk with
  | zero => exact absurd HA.out (by simp [spec_l25Commas.l0])
  | succ k1 =>
   have H := HA.out
   clear HA
   simp only [spec_l25Commas.l0] at H
   rw [HL.out] at H
   by_cases c2 : x4_1 < (t5.size : Int)
   ·rw [if_pos c2] at H
    have c2b0 : decide (x4_1 < (t5.size : Int)) = true := decide_eq_true c2
    by_cases c3 : 0 ≤ x4_1
    ·rw [if_pos c3] at H
     have c3b0 : decide (0 ≤ x4_1) = true := decide_eq_true c3
     have HI := aM (show x4_1.toNat < x3_1.length by have := HL.out; omega)
     have hx : wr.cell? ⟨b7, x4_1.toNat, none⟩ = some (.int .u8 (rd x3_1 x4_1)) := HD.out.cell x4_1.toNat HI.out
     have hf := HD.out.frozen x4_1.toNat HI.out
     have p4 := eq_true c3
     have q4 := eq_true c2
     clear c2 c3
     by_cases c5 : (rd x3_1 x4_1) = 32
     ·rw [if_pos c5] at H
      have c5b0 : ((rd x3_1 x4_1) == 32) = true := beq_iff_eq.mpr c5
      have c5b1 : ((rd x3_1 x4_1) != 32) = false := by simp [c5]
      clear c5
      have H' := aM H
      clear H
      go_wp2_with (first | ((with_reducible refine gate_store (t := 5) (p := 21) rfl ?_); refine store_event (t := 5) (p := 21) (v := ?vo_w12) (w1 := (wr.setCell ⟨b7, (x4_1 : Int).toNat, none⟩ (.int .u8 44))) ?hg ?ho ?hn ?hr ?_; (case ho => rfl); (case hg => rfl); (case hn => rfl); (case hr => first | (go_simp; done) | (go_simp; rfl)); intro w12 hw; have n0_ : Aside0 (Go.Proofs.Ytdahcapolipnbaa.Gv.Cb w.heap.size b7 (x3_1.set x4_1.toNat 44) w12) := aM (by rw [hw]; exact HD.out.set _ _); have n1_ := aM ((by rw [hw]; exact below_set (HB.out) HD.out.1 : Below w.heap.size w w12)); clear HD HB hw hx hf; have HD := n0_; have HB := n1_; clear n0_ n1_))
      go_roundg k1
      case measure => have := HK1.out; omega
      case rel => exact ⟨x3_1.set x4_1.toNat 44, wrap64 (x4_1 + 1), rQ, H', ⟨by have := HK1.out; omega⟩, ⟨by rw [List.length_set]; exact HL.out⟩, HD, HB⟩
     ·rw [if_neg c5] at H
      have c5b0 : ((rd x3_1 x4_1) == 32) = false := beq_eq_false_iff_ne.mpr c5
      have c5b1 : ((rd x3_1 x4_1) != 32) = true := bne_iff_ne.mpr c5
      have H' := aM H
      clear H
      go_wp2
      go_roundg k1
      case measure => have := HK1.out; omega
      case rel => exact ⟨x3_1, wrap64 (x4_1 + 1), rQ, H', ⟨by have := HK1.out; omega⟩, HL, HD, HB⟩
    ·rw [if_neg c3] at H
     exact absurd H (by simp)
   ·rw [if_neg c2] at H
    have c2b0 : decide (x4_1 < (t5.size : Int)) = false := decide_eq_false c2
    clear c2
    obtain rfl := Option.some.inj H
    have hcv := HD.out.string c7
    rw [HL.out] at hcv
    go_wp2
    go_ret
    exact ⟨eQ, HB.out⟩

/-! ### spec_l25Lists: function 132 -/
def spec_l25Lists.l0 : Nat → List (List Int) → ByteArray → Int → Option (ByteArray)
 | 0, _, _, _ => none
 | k + 1, x0, x3, x4 => if x4 < (x0.length : Int) then (if x4 > 0 then (if x3.size + 1 ≤ 9223372036854775807 then (if 0 ≤ x4 then ((spec_l25Commas.f k (rd_L1 x0 x4)).bind fun t163 => (if (x3 ++ (⟨#[59]⟩ : ByteArray)).size + t163.size ≤ 9223372036854775807 then (spec_l25Lists.l0 k x0 ((x3 ++ (⟨#[59]⟩ : ByteArray)) ++ t163) (wrap64 (x4 + 1))) else (none))) else (none)) else (none)) else (if 0 ≤ x4 then ((spec_l25Commas.f k (rd_L1 x0 x4)).bind fun t165 => (if x3.size + t165.size ≤ 9223372036854775807 then (spec_l25Lists.l0 k x0 (x3 ++ t165) (wrap64 (x4 + 1))) else (none))) else (none))) else (if x3.toList = ([] : List UInt8) then (some (⟨#[46]⟩ : ByteArray)) else (some x3))
def spec_l25Lists.f (k : Nat) (l0 : List (List Int)) : Option (ByteArray) := spec_l25Lists.l0 k l0 (⟨#[]⟩ : ByteArray) 0
theorem spec_l25Lists.mono_l : ∀ k, (∀ y0 y1 y2, LeO (spec_l25Lists.l0 k y0 y1 y2) (spec_l25Lists.l0 (k + 1) y0 y1 y2))
 | 0 => fun _ _ _ r h => by simp [spec_l25Lists.l0] at h
 | k + 1 => by
  have ih0 := spec_l25Lists.mono_l k
  ·intro y0 y1 y2
   unfold spec_l25Lists.l0
   repeat' first
   | (with_reducible exact ih0 _ _ _)
   | (with_reducible exact spec_l25Commas.mono _ _)
   | (with_reducible exact LeO.refl _)
   | (with_reducible exact LeO.none _)
   | (with_reducible refine LeO.ite ?_ ?_)
   | (with_reducible refine LeO.bind ?_ (fun _ => ?_))
   | exact ih0 _ _ _
   | exact spec_l25Commas.mono _ _
   | exact LeO.none _
   | refine LeO.ite ?_ ?_
   | refine LeO.bind ?_ (fun _ => ?_)
theorem spec_l25Lists.mono : ∀ a0 k, LeO (spec_l25Lists.f k a0) (spec_l25Lists.f (k + 1) a0) := by
 intro a0 k
 have ih0 := spec_l25Lists.mono_l k
 unfold spec_l25Lists.f
 repeat' first
   | (with_reducible exact ih0 _ _ _)
   | (with_reducible exact spec_l25Commas.mono _ _)
   | (with_reducible exact LeO.refl _)
   | (with_reducible exact LeO.none _)
   | (with_reducible refine LeO.ite ?_ ?_)
   | (with_reducible refine LeO.bind ?_ (fun _ => ?_))
   | exact ih0 _ _ _
   | exact spec_l25Commas.mono _ _
   | exact LeO.none _
   | refine LeO.ite ?_ ?_
   | refine LeO.bind ?_ (fun _ => ?_)
set_option maxHeartbeats 8000000 in
set_option maxRecDepth 100000 in
theorem spec_l25Lists.calls (k : Nat) (A0 : Option Addr) (c0 : Nat) (l0 : List (List Int)) (r : ByteArray) (w : World) (hr0 : Kd.C (Kd.slice 2 (Kd.int .i64)) w A0 l0.length l0) (hc0 : l0.length ≤ c0) (h : spec_l25Lists.f k l0 = some r) :
  Calls Try.prog 132 #[.slice A0 l0.length c0] w fun e w' => e = .returned (.string r) ∧ Below w.heap.size w w' := by
 have HR0 := aM hr0
 have HC0 := aM hc0
 clear hr0 hc0
 have HB := aM (Below.refl w.heap.size w)
 have H : (spec_l25Lists.l0 k l0 (⟨#[]⟩ : ByteArray) 0) = some r := h
 clear h
 have H' := aM H
 clear H
 go_enter Try.func132, Try.ntmps132
 go_wp2
 go_loopg [3, 4] k (fun kq v3 v4 w' => ∃ (x3_1 : ByteArray) (x4_1 : Int), v3 = .string x3_1 ∧ v4 = .int .i64 x4_1 ∧ Aside0 (spec_l25Lists.l0 kq l0 x3_1 x4_1 = some r) ∧ Aside0 (kq ≤ k) ∧ Aside0 (Below w.heap.size w w'))
 case atStart => exact ⟨((⟨#[]⟩ : ByteArray)), (0), rQ, rQ, H', ⟨Nat.le_refl _⟩, ⟨bQ⟩⟩
 case round =>
  clear H'
  try clear c1
  obtain ⟨x3_1, x4_1, rfl, rfl, HA, HK1, HB⟩ := hrel
  cases gk with
  | zero => exact absurd HA.out (by simp [spec_l25Lists.l0])
  | succ k1 =>
   have H := HA.out
   clear HA
   simp only [spec_l25Lists.l0] at H
   by_cases c2 : x4_1 < (l0.length : Int)
   ·rw [if_pos c2] at H
    have c2b0 : decide (x4_1 < (l0.length : Int)) = true := decide_eq_true c2
    clear c2
    by_cases c3 : x4_1 > 0
    ·rw [if_pos c3] at H
     have c3b0 : decide (0 < x4_1) = true := decide_eq_true c3
     clear c3
     by_cases c4 : x3_1.size + 1 ≤ 9223372036854775807
     ·rw [if_pos c4] at H
      have c4b0 := eq_true c4
      have c4b1 : decide (x3_1.size + 1 ≤ 9223372036854775807) = true := decide_eq_true c4
      try have c4b2 : (9223372036854775807 < x3_1.size + 1) = False := eq_false (Nat.not_lt.2 c4)
      by_cases c5 : 0 ≤ x4_1
      ·rw [if_pos c5] at H
       have c5b0 : decide (0 ≤ x4_1) = true := decide_eq_true c5
       clear c5
       replace H := Option.bind_eq_some_iff.mp H
       obtain ⟨t163, A60, H⟩ := H
       replace H : (if (x3_1 ++ (⟨#[59]⟩ : ByteArray)).size + t163.size ≤ 9223372036854775807 then (spec_l25Lists.l0 k1 l0 ((x3_1 ++ (⟨#[59]⟩ : ByteArray)) ++ t163) (wrap64 (x4_1 + 1))) else (none)) = some r := H
       have A6 := aM A60
       clear A60
       by_cases c7 : (x3_1 ++ (⟨#[59]⟩ : ByteArray)).size + t163.size ≤ 9223372036854775807
       ·rw [if_pos c7] at H
        have c7b0 := eq_true c7
        have c7b1 : decide ((x3_1 ++ (⟨#[59]⟩ : ByteArray)).size + t163.size ≤ 9223372036854775807) = true := decide_eq_true c7
        try have c7b2 : (9223372036854775807 < (x3_1 ++ (⟨#[59]⟩ : ByteArray)).size + t163.size) = False := eq_false (Nat.not_lt.2 c7)
        try have c7b3 : (9223372036854775807 < x3_1.size + 1 + t163.size) = False := eq_false (Nat.not_lt.2 (by have h_ := c7; simp only [ByteArray.size_append] at h_; exact h_))
        try (have c7b6 := c7b0; simp only [ByteArray.size_append, ByteArray.size_extract, Nat.min_self, Int.natCast_add] at c7b6)
        try (have c7b7 := c7b1; simp only [ByteArray.size_append, ByteArray.size_extract, Nat.min_self, Int.natCast_add] at c7b7)
        have H' := aM H
        clear H
        have p162 : 0 ≤ (x4_1 : Int) := dA
        have q162 : x4_1 < (l0.length : Int) := dA
        obtain ⟨ad162, A162_0, c162_0, e162, hx162_0, hl162_0, hi162_0⟩ := at_L1 HR0.out x4_1 p162 q162
        cases e162
        replace hx162_0 := cB HB.out hx162_0
        have HR162_0 := aM hi162_0
        have HC162_0 := aM hl162_0
        clear hi162_0 hl162_0
        replace p162 := eq_true p162
        replace q162 := eq_true q162
        go_wp2_with (first | ((with_reducible refine gate_callee (f := 166) rfl ?_); refine goesL_ (some 20) rfl rfl Try.func166 (by kernel_rfl) rfl #[.slice A162_0 (rd_L1 l0 x4_1).length c162_0] rfl gQ ?_; (with_reducible refine (spec_l25Commas.calls k1 _ _ (rd_L1 l0 x4_1) t163 _ ?side1 ?side2 A6.out).mono ?_); (case side1 => exact cQ HR162_0.out); (case side2 => exact HC162_0.out); rintro e w8 ⟨rfl, hb⟩; refine ⟨_, rfl, ?_⟩; have n0_ := aM (below_step bQ hb); clear HB; have HB := n0_; clear n0_; (try clear hb); (try clear hb2); (try clear hk); (try clear hi)))
        go_roundg k1
        case measure => have := HK1.out; omega
        case rel => exact ⟨((x3_1 ++ (⟨#[59]⟩ : ByteArray)) ++ t163), (wrap64 (x4_1 + 1)), rQ, rQ, H', ⟨by have := HK1.out; omega⟩, ⟨bQ⟩⟩
       ·rw [if_neg c7] at H
        exact absurd H (by simp)
      ·rw [if_neg c5] at H
       exact absurd H (by simp)
     ·rw [if_neg c4] at H
      exact absurd H (by simp)
    ·rw [if_neg c3] at H
     have c3b0 : decide (0 < x4_1) = false := decide_eq_false c3
     clear c3
     by_cases c9 : 0 ≤ x4_1
     ·rw [if_pos c9] at H
      have c9b0 : decide (0 ≤ x4_1) = true := decide_eq_true c9
      clear c9
      replace H := Option.bind_eq_some_iff.mp H
      obtain ⟨t165, A100, H⟩ := H
      replace H : (if x3_1.size + t165.size ≤ 9223372036854775807 then (spec_l25Lists.l0 k1 l0 (x3_1 ++ t165) (wrap64 (x4_1 + 1))) else (none)) = some r := H
      have A10 := aM A100
      clear A100
      by_cases c11 : x3_1.size + t165.size ≤ 9223372036854775807
      ·rw [if_pos c11] at H
       have c11b0 := eq_true c11
       have c11b1 : decide (x3_1.size + t165.size ≤ 9223372036854775807) = true := decide_eq_true c11
       try have c11b2 : (9223372036854775807 < x3_1.size + t165.size) = False := eq_false (Nat.not_lt.2 c11)
       have H' := aM H
       clear H
       have p164 : 0 ≤ (x4_1 : Int) := dA
       have q164 : x4_1 < (l0.length : Int) := dA
       obtain ⟨ad164, A164_0, c164_0, e164, hx164_0, hl164_0, hi164_0⟩ := at_L1 HR0.out x4_1 p164 q164
       cases e164
       replace hx164_0 := cB HB.out hx164_0
       have HR164_0 := aM hi164_0
       have HC164_0 := aM hl164_0
       clear hi164_0 hl164_0
       replace p164 := eq_true p164
       replace q164 := eq_true q164
       go_wp2_with (first | ((with_reducible refine gate_callee (f := 166) rfl ?_); refine goesL_ (some 20) rfl rfl Try.func166 (by kernel_rfl) rfl #[.slice A164_0 (rd_L1 l0 x4_1).length c164_0] rfl gQ ?_; (with_reducible refine (spec_l25Commas.calls k1 _ _ (rd_L1 l0 x4_1) t165 _ ?side1 ?side2 A10.out).mono ?_); (case side1 => exact cQ HR164_0.out); (case side2 => exact HC164_0.out); rintro e w12 ⟨rfl, hb⟩; refine ⟨_, rfl, ?_⟩; have n0_ := aM (below_step bQ hb); clear HB; have HB := n0_; clear n0_; (try clear hb); (try clear hb2); (try clear hk); (try clear hi)))
       go_roundg k1
       case measure => have := HK1.out; omega
       case rel => exact ⟨(x3_1 ++ t165), (wrap64 (x4_1 + 1)), rQ, rQ, H', ⟨by have := HK1.out; omega⟩, ⟨bQ⟩⟩
      ·rw [if_neg c11] at H
       exact absurd H (by simp)
     ·rw [if_neg c9] at H
      exact absurd H (by simp)
   ·rw [if_neg c2] at H
    have c2b0 : decide (x4_1 < (l0.length : Int)) = false := decide_eq_false c2
    clear c2
    by_cases c13 : x3_1.toList = ([] : List UInt8)
    ·rw [if_pos c13] at H
     have c13b0 : (x3_1.toList == ([] : List UInt8)) = true := beq_iff_eq.mpr c13
     have c13b1 : (x3_1.toList != ([] : List UInt8)) = false := bne_eq_false_iff_eq.mpr c13
     clear c13
     obtain rfl := Option.some.inj H
     go_wp2
     go_ret
     exact ⟨eQ, bQ⟩
    ·rw [if_neg c13] at H
     have c13b0 : (x3_1.toList == ([] : List UInt8)) = false := beq_eq_false_iff_ne.mpr c13
     have c13b1 : (x3_1.toList != ([] : List UInt8)) = true := bne_iff_ne.mpr c13
     obtain rfl := Option.some.inj H
     go_wp2
     go_ret
     exact ⟨eQ, bQ⟩

/-! ### spec_l25Numbers: function 133 -/
def spec_l25Numbers.l0 : Nat → List Int → ByteArray → Int → Option (ByteArray)
 | 0, _, _, _ => none
 | k + 1, x0, x3, x4 => if x4 < (x0.length : Int) then (if x4 > 0 then (if x3.size + 1 ≤ 9223372036854775807 then (if 0 ≤ x4 then ((spec_l01Dec.f k (rd x0 x4)).bind fun t167 => (if (x3 ++ (⟨#[44]⟩ : ByteArray)).size + t167.size ≤ 9223372036854775807 then (spec_l25Numbers.l0 k x0 ((x3 ++ (⟨#[44]⟩ : ByteArray)) ++ t167) (wrap64 (x4 + 1))) else (none))) else (none)) else (none)) else (if 0 ≤ x4 then ((spec_l01Dec.f k (rd x0 x4)).bind fun t169 => (if x3.size + t169.size ≤ 9223372036854775807 then (spec_l25Numbers.l0 k x0 (x3 ++ t169) (wrap64 (x4 + 1))) else (none))) else (none))) else (if x3.toList = ([] : List UInt8) then (some (⟨#[46]⟩ : ByteArray)) else (some x3))
def spec_l25Numbers.f (k : Nat) (l0 : List Int) : Option (ByteArray) := spec_l25Numbers.l0 k l0 (⟨#[]⟩ : ByteArray) 0
theorem spec_l25Numbers.mono_l : ∀ k, (∀ y0 y1 y2, LeO (spec_l25Numbers.l0 k y0 y1 y2) (spec_l25Numbers.l0 (k + 1) y0 y1 y2))
 | 0 => fun _ _ _ r h => by simp [spec_l25Numbers.l0] at h
 | k + 1 => by
  have ih0 := spec_l25Numbers.mono_l k
  ·intro y0 y1 y2
   unfold spec_l25Numbers.l0
   repeat' first
   | (with_reducible exact ih0 _ _ _)
   | (with_reducible exact spec_l01Dec.mono _ _)
   | (with_reducible exact LeO.refl _)
   | (with_reducible exact LeO.none _)
   | (with_reducible refine LeO.ite ?_ ?_)
   | (with_reducible refine LeO.bind ?_ (fun _ => ?_))
   | exact ih0 _ _ _
   | exact spec_l01Dec.mono _ _
   | exact LeO.none _
   | refine LeO.ite ?_ ?_
   | refine LeO.bind ?_ (fun _ => ?_)
theorem spec_l25Numbers.mono : ∀ a0 k, LeO (spec_l25Numbers.f k a0) (spec_l25Numbers.f (k + 1) a0) := by
 intro a0 k
 have ih0 := spec_l25Numbers.mono_l k
 unfold spec_l25Numbers.f
 repeat' first
   | (with_reducible exact ih0 _ _ _)
   | (with_reducible exact spec_l01Dec.mono _ _)
   | (with_reducible exact LeO.refl _)
   | (with_reducible exact LeO.none _)
   | (with_reducible refine LeO.ite ?_ ?_)
   | (with_reducible refine LeO.bind ?_ (fun _ => ?_))
   | exact ih0 _ _ _
   | exact spec_l01Dec.mono _ _
   | exact LeO.none _
   | refine LeO.ite ?_ ?_
   | refine LeO.bind ?_ (fun _ => ?_)
set_option maxHeartbeats 8000000 in
set_option maxRecDepth 100000 in
theorem spec_l25Numbers.calls (k : Nat) (A0 : Option Addr) (c0 : Nat) (l0 : List Int) (r : ByteArray) (w : World) (hr0 : Kd.C (Kd.int .i64) w A0 l0.length l0) (hc0 : l0.length ≤ c0) (h : spec_l25Numbers.f k l0 = some r) :
  Calls Try.prog 133 #[.slice A0 l0.length c0] w fun e w' => e = .returned (.string r) ∧ Below w.heap.size w w' := by
 have HR0 := aM hr0
 have HC0 := aM hc0
 clear hr0 hc0
 have HB := aM (Below.refl w.heap.size w)
 have H : (spec_l25Numbers.l0 k l0 (⟨#[]⟩ : ByteArray) 0) = some r := h
 clear h
 have H' := aM H
 clear H
 go_enter Try.func133, Try.ntmps133
 go_wp2
 go_loopg [3, 4] k (fun kq v3 v4 w' => ∃ (x3_1 : ByteArray) (x4_1 : Int), v3 = .string x3_1 ∧ v4 = .int .i64 x4_1 ∧ Aside0 (spec_l25Numbers.l0 kq l0 x3_1 x4_1 = some r) ∧ Aside0 (kq ≤ k) ∧ Aside0 (Below w.heap.size w w'))
 case atStart => exact ⟨((⟨#[]⟩ : ByteArray)), (0), rQ, rQ, H', ⟨Nat.le_refl _⟩, ⟨bQ⟩⟩
 case round =>
  clear H'
  try clear c1
  obtain ⟨x3_1, x4_1, rfl, rfl, HA, HK1, HB⟩ := hrel
  cases gk with
  | zero => exact absurd HA.out (by simp [spec_l25Numbers.l0])
  | succ k1 =>
   have H := HA.out
   clear HA
   simp only [spec_l25Numbers.l0] at H
   by_cases c2 : x4_1 < (l0.length : Int)
   ·rw [if_pos c2] at H
    have c2b0 : decide (x4_1 < (l0.length : Int)) = true := decide_eq_true c2
    clear c2
    by_cases c3 : x4_1 > 0
    ·rw [if_pos c3] at H
     have c3b0 : decide (0 < x4_1) = true := decide_eq_true c3
     clear c3
     by_cases c4 : x3_1.size + 1 ≤ 9223372036854775807
     ·rw [if_pos c4] at H
      have c4b0 := eq_true c4
      have c4b1 : decide (x3_1.size + 1 ≤ 9223372036854775807) = true := decide_eq_true c4
      try have c4b2 : (9223372036854775807 < x3_1.size + 1) = False := eq_false (Nat.not_lt.2 c4)
      by_cases c5 : 0 ≤ x4_1
      ·rw [if_pos c5] at H
       have c5b0 : decide (0 ≤ x4_1) = true := decide_eq_true c5
       clear c5
       replace H := Option.bind_eq_some_iff.mp H
       obtain ⟨t167, A60, H⟩ := H
       replace H : (if (x3_1 ++ (⟨#[44]⟩ : ByteArray)).size + t167.size ≤ 9223372036854775807 then (spec_l25Numbers.l0 k1 l0 ((x3_1 ++ (⟨#[44]⟩ : ByteArray)) ++ t167) (wrap64 (x4_1 + 1))) else (none)) = some r := H
       have A6 := aM A60
       clear A60
       by_cases c7 : (x3_1 ++ (⟨#[44]⟩ : ByteArray)).size + t167.size ≤ 9223372036854775807
       ·rw [if_pos c7] at H
        have c7b0 := eq_true c7
        have c7b1 : decide ((x3_1 ++ (⟨#[44]⟩ : ByteArray)).size + t167.size ≤ 9223372036854775807) = true := decide_eq_true c7
        try have c7b2 : (9223372036854775807 < (x3_1 ++ (⟨#[44]⟩ : ByteArray)).size + t167.size) = False := eq_false (Nat.not_lt.2 c7)
        try have c7b3 : (9223372036854775807 < x3_1.size + 1 + t167.size) = False := eq_false (Nat.not_lt.2 (by have h_ := c7; simp only [ByteArray.size_append] at h_; exact h_))
        try (have c7b6 := c7b0; simp only [ByteArray.size_append, ByteArray.size_extract, Nat.min_self, Int.natCast_add] at c7b6)
        try (have c7b7 := c7b1; simp only [ByteArray.size_append, ByteArray.size_extract, Nat.min_self, Int.natCast_add] at c7b7)
        have H' := aM H
        clear H
        have p166 : 0 ≤ (x4_1 : Int) := dA
        have q166 : x4_1 < (l0.length : Int) := dA
        obtain ⟨ad166, e166, hx166_0⟩ := Kd.at_int HR0.out x4_1 p166 q166
        cases e166
        replace hx166_0 := cB HB.out hx166_0
        replace p166 := eq_true p166
        replace q166 := eq_true q166
        go_wp2_with (first | ((with_reducible refine gate_callee (f := 118) rfl ?_); refine goesL_ (some 20) rfl rfl Try.func118 (by kernel_rfl) rfl #[.int .i64 (rd l0 x4_1)] rfl gQ ?_; (with_reducible refine (spec_l01Dec.calls k1 (rd l0 x4_1) t167 _ A6.out).mono ?_); rintro e w8 ⟨rfl, hb⟩; refine ⟨_, rfl, ?_⟩; have n0_ := aM (below_step bQ hb); clear HB; have HB := n0_; clear n0_; (try clear hb); (try clear hb2); (try clear hk); (try clear hi)))
        go_roundg k1
        case measure => have := HK1.out; omega
        case rel => exact ⟨((x3_1 ++ (⟨#[44]⟩ : ByteArray)) ++ t167), (wrap64 (x4_1 + 1)), rQ, rQ, H', ⟨by have := HK1.out; omega⟩, ⟨bQ⟩⟩
       ·rw [if_neg c7] at H
        exact absurd H (by simp)
      ·rw [if_neg c5] at H
       exact absurd H (by simp)
     ·rw [if_neg c4] at H
      exact absurd H (by simp)
    ·rw [if_neg c3] at H
     have c3b0 : decide (0 < x4_1) = false := decide_eq_false c3
     clear c3
     by_cases c9 : 0 ≤ x4_1
     ·rw [if_pos c9] at H
      have c9b0 : decide (0 ≤ x4_1) = true := decide_eq_true c9
      clear c9
      replace H := Option.bind_eq_some_iff.mp H
      obtain ⟨t169, A100, H⟩ := H
      replace H : (if x3_1.size + t169.size ≤ 9223372036854775807 then (spec_l25Numbers.l0 k1 l0 (x3_1 ++ t169) (wrap64 (x4_1 + 1))) else (none)) = some r := H
      have A10 := aM A100
      clear A100
      by_cases c11 : x3_1.size + t169.size ≤ 9223372036854775807
      ·rw [if_pos c11] at H
       have c11b0 := eq_true c11
       have c11b1 : decide (x3_1.size + t169.size ≤ 9223372036854775807) = true := decide_eq_true c11
       try have c11b2 : (9223372036854775807 < x3_1.size + t169.size) = False := eq_false (Nat.not_lt.2 c11)
       have H' := aM H
       clear H
       have p168 : 0 ≤ (x4_1 : Int) := dA
       have q168 : x4_1 < (l0.length : Int) := dA
       obtain ⟨ad168, e168, hx168_0⟩ := Kd.at_int HR0.out x4_1 p168 q168
       cases e168
       replace hx168_0 := cB HB.out hx168_0
       replace p168 := eq_true p168
       replace q168 := eq_true q168
       go_wp2_with (first | ((with_reducible refine gate_callee (f := 118) rfl ?_); refine goesL_ (some 20) rfl rfl Try.func118 (by kernel_rfl) rfl #[.int .i64 (rd l0 x4_1)] rfl gQ ?_; (with_reducible refine (spec_l01Dec.calls k1 (rd l0 x4_1) t169 _ A10.out).mono ?_); rintro e w12 ⟨rfl, hb⟩; refine ⟨_, rfl, ?_⟩; have n0_ := aM (below_step bQ hb); clear HB; have HB := n0_; clear n0_; (try clear hb); (try clear hb2); (try clear hk); (try clear hi)))
       go_roundg k1
       case measure => have := HK1.out; omega
       case rel => exact ⟨(x3_1 ++ t169), (wrap64 (x4_1 + 1)), rQ, rQ, H', ⟨by have := HK1.out; omega⟩, ⟨bQ⟩⟩
      ·rw [if_neg c11] at H
       exact absurd H (by simp)
     ·rw [if_neg c9] at H
      exact absurd H (by simp)
   ·rw [if_neg c2] at H
    have c2b0 : decide (x4_1 < (l0.length : Int)) = false := decide_eq_false c2
    clear c2
    by_cases c13 : x3_1.toList = ([] : List UInt8)
    ·rw [if_pos c13] at H
     have c13b0 : (x3_1.toList == ([] : List UInt8)) = true := beq_iff_eq.mpr c13
     have c13b1 : (x3_1.toList != ([] : List UInt8)) = false := bne_eq_false_iff_eq.mpr c13
     clear c13
     obtain rfl := Option.some.inj H
     go_wp2
     go_ret
     exact ⟨eQ, bQ⟩
    ·rw [if_neg c13] at H
     have c13b0 : (x3_1.toList == ([] : List UInt8)) = false := beq_eq_false_iff_ne.mpr c13
     have c13b1 : (x3_1.toList != ([] : List UInt8)) = true := bne_iff_ne.mpr c13
     obtain rfl := Option.some.inj H
     go_wp2
     go_ret
     exact ⟨eQ, bQ⟩

end Go.Proofs.Ytdahcapolipnbaa.QFnExactRuleText
