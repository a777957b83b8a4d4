/- What some Go functions answer, each as a Lean function, and that the machine answers so: written by a program of this session out of the translation. -/
import Derived.Test.YtdahcapolipnbaaQFnExactRuleTextx0
import Derived.Test.YtdahcapolipnbaaQFnExactRuleTextx6
namespace Go.Proofs.Ytdahcapolipnbaa.QFnExactRuleText
open Go.RowKit Go.Proofs.YtdahcapolipnbaaW.PrintWords Go.Proofs.YtdahcapolipnbaaW.PrintLast Go.Proofs.YtdahcapolipnbaaW.PrintMore Go.Proofs.Ytdahcapolipnbaa.Rp
attribute [local go_sem] max2_int min2_int max_two min_two max_three min_three max_four min_four   -- for this text's walks alone
set_option linter.unusedVariables false
set_option linter.unusedSimpArgs false

/-! ### impl_numbersText: function 71 -/
def impl_numbersText.l0 : Nat → List ByteArray → List Int → Int → Int → Option (ByteArray)
 | 0, _, _, _, _ => none
 | k + 1, x3, x9, x10, x11 => if x11 < x10 then (if 0 ≤ x11 then (if x11 < (x9.length : Int) then ((impl_Decimal.f (rd x9 x11)).bind fun t272 => (if x3.length < 8796093022208 then (impl_numbersText.l0 k (x3 ++ [t272]) x9 x10 (wrap64 (x11 + 1))) else (none))) else (none)) else (none)) else ((strings_Join.f x3 (⟨#[44]⟩ : ByteArray)).bind fun t276 => (some t276))
def impl_numbersText.f (k : Nat) (l0 : List Int) : Option (ByteArray) := if (l0.length : Int) = 0 then (some (⟨#[46]⟩ : ByteArray)) else (impl_numbersText.l0 k ([] : List ByteArray) l0 (l0.length : Int) 0)
theorem impl_numbersText.mono_l : ∀ k, (∀ y0 y1 y2 y3, LeO (impl_numbersText.l0 k y0 y1 y2 y3) (impl_numbersText.l0 (k + 1) y0 y1 y2 y3))
 | 0 => fun _ _ _ _ r h => by simp [impl_numbersText.l0] at h
 | k + 1 => by
  have ih0 := impl_numbersText.mono_l k
  ·intro y0 y1 y2 y3
   unfold impl_numbersText.l0
   repeat' first
   | (with_reducible exact ih0 _ _ _ _)
   | (with_reducible exact LeO.refl _)
   | (with_reducible exact LeO.none _)
   | (with_reducible refine LeO.ite ?_ ?_)
   | (with_reducible refine LeO.bind ?_ (fun _ => ?_))
   | exact ih0 _ _ _ _
   | exact LeO.none _
   | refine LeO.ite ?_ ?_
   | refine LeO.bind ?_ (fun _ => ?_)
theorem impl_numbersText.mono : ∀ a0 k, LeO (impl_numbersText.f k a0) (impl_numbersText.f (k + 1) a0) := by
 intro a0 k
 have ih0 := impl_numbersText.mono_l k
 unfold impl_numbersText.f
 repeat' first
   | (with_reducible exact ih0 _ _ _ _)
   | (with_reducible exact LeO.refl _)
   | (with_reducible exact LeO.none _)
   | (with_reducible refine LeO.ite ?_ ?_)
   | (with_reducible refine LeO.bind ?_ (fun _ => ?_))
   | exact ih0 _ _ _ _
   | exact LeO.none _
   | refine LeO.ite ?_ ?_
   | refine LeO.bind ?_ (fun _ => ?_)
set_option maxHeartbeats 8000000 in
set_option maxRecDepth 100000 in
theorem impl_numbersText.calls (k : Nat) (A0 : Option Addr) (c0 : Nat) (l0 : List Int) (r : ByteArray) (w : World) (hr0 : Kd.C (Kd.int .i64) w A0 l0.length l0) (hc0 : l0.length ≤ c0) (h : impl_numbersText.f k l0 = some r) :
  Calls Try.prog 71 #[.slice A0 l0.length c0] w fun e w' => e = .returned (.string r) ∧ Below w.heap.size w w' := by
 have HR0 := aM hr0
 have HC0 := aM hc0
 clear hr0 hc0
 have HB := aM (Below.refl w.heap.size w)
 have H : (if (l0.length : Int) = 0 then (some (⟨#[46]⟩ : ByteArray)) else (impl_numbersText.l0 k ([] : List ByteArray) l0 (l0.length : Int) 0)) = some r := h
 clear h
 by_cases c2 : (l0.length : Int) = 0
 ·rw [if_pos c2] at H
  have c2b0 : ((l0.length : Int) == 0) = true := beq_iff_eq.mpr c2
  have c2b1 : ((l0.length : Int) != 0) = false := bne_eq_false_iff_eq.mpr c2
  clear c2
  obtain rfl := Option.some.inj H
  go_enter Try.func71, Try.ntmps71
  go_wp2
  go_ret
  exact ⟨eQ, bQ⟩
 ·rw [if_neg c2] at H
  have c2b0 : ((l0.length : Int) == 0) = false := beq_eq_false_iff_ne.mpr c2
  have c2b1 : ((l0.length : Int) != 0) = true := bne_iff_ne.mpr c2
  have c2b2 : ¬ (l0 = []) := fun h_ => c2 (by rw [h_]; rfl)
  have H' := aM H
  clear H
  go_enter Try.func71, Try.ntmps71
  go_wp2
  go_loopg [3, 11] k (fun kq v3 v11 w' => ∃ (x3_1 : List ByteArray) (x11_1 : Int), v11 = .int .i64 x11_1 ∧ Aside0 (impl_numbersText.l0 kq x3_1 l0 (l0.length : Int) x11_1 = some r) ∧ Aside0 (kq ≤ k) ∧ Aside0 (Kd.R Kd.string 9 w' w.heap.size (fun _ => True) v3 x3_1) ∧ Aside0 (Below w.heap.size w w'))
  case atStart => exact ⟨(([] : List ByteArray)), (0), rQ, H', ⟨Nat.le_refl _⟩, ⟨by first | exact Kd.R_nil _ _ _ _ _ | exact Kd.N_nil _ _ _ _ _ | exact Kd.V_nil _ _ _ _ _ | exact Kd.Q_nil _ _ _ _ _ | exact Kd.S_nil _ _ _ _ _⟩, ⟨bQ⟩⟩
  case round =>
   clear H'
   try clear c2
   try clear c2b0
   try clear c2b1
   try clear c2b2
   try clear p2
   obtain ⟨x3_1, x11_1, rfl, HA, HK1, HO_3, HB⟩ := hrel
   cases gk with
   | zero => exact absurd HA.out (by simp [impl_numbersText.l0])
   | succ k1 =>
    have H := HA.out
    clear HA
    simp only [impl_numbersText.l0] at H
    by_cases c3 : x11_1 < (l0.length : Int)
    ·rw [if_pos c3] at H
     have c3b0 : decide (x11_1 < (l0.length : Int)) = true := decide_eq_true c3
     clear c3
     by_cases c4 : 0 ≤ x11_1
     ·rw [if_pos c4] at H
      have c4b0 : decide (0 ≤ x11_1) = true := decide_eq_true c4
      clear c4
      by_cases c5 : x11_1 < (l0.length : Int)
      ·rw [if_pos c5] at H
       have c5b0 : decide (x11_1 < (l0.length : Int)) = true := decide_eq_true c5
       clear c5
       replace H := Option.bind_eq_some_iff.mp H
       obtain ⟨t272, A60, H⟩ := H
       replace H : (if x3_1.length < 8796093022208 then (impl_numbersText.l0 k1 (x3_1 ++ [t272]) l0 (l0.length : Int) (wrap64 (x11_1 + 1))) else (none)) = some r := H
       have A6 := aM A60
       clear A60
       by_cases c7 : x3_1.length < 8796093022208
       ·rw [if_pos c7] at H
        have LMc7 := aM c7
        clear c7
        obtain ⟨y273, hy273⟩ : ∃ y_ : List ByteArray, y_ = (x3_1 ++ [t272]) := ⟨_, rfl⟩
        replace H : (impl_numbersText.l0 k1 y273 l0 (l0.length : Int) (wrap64 (x11_1 + 1))) = some r := by first | (rw [hy273]; with_reducible exact H) | (have H2_ := bS H; rw [hy273]; with_reducible exact H2_) | (have H2_ := bS H; with_reducible exact H2_) | with_reducible exact H | (rw [hy273]; exact H) | exact H
        have Ny273 := aM hy273
        clear hy273
        have H' := aM H
        clear H
        have p271 : 0 ≤ (x11_1 : Int) := dA
        have q271 : x11_1 < (l0.length : Int) := dA
        obtain ⟨ad271, e271, hx271_0⟩ := Kd.at_int HR0.out x11_1 p271 q271
        cases e271
        replace hx271_0 := cB HB.out hx271_0
        replace p271 := eq_true p271
        replace q271 := eq_true q271
        go_wp2_with (first | ((with_reducible refine gate_callee (f := 121) rfl ?_); refine goesL_ (some 17) rfl rfl Try.func121 (by kernel_rfl) rfl #[.int .i64 (rd l0 x11_1)] rfl gQ ?_; (with_reducible refine (impl_Decimal.calls (rd l0 x11_1) t272 _ A6.out).mono ?_); rintro e w8 ⟨rfl, hb⟩; refine ⟨_, rfl, ?_⟩; have n0_ := aM (Kd.R_below (by (with_reducible repeat (first | apply rA | apply rN | apply rD)); exact HO_3.out) hb); have n1_ := aM (below_step bQ hb); clear HO_3; clear HB; have HO_3 := n0_; have HB := n1_; clear n0_ n1_; (try clear hb); (try clear hb2); (try clear hk); (try clear hi)) | ((with_reducible refine gate_builtin (b := .append) (xs := #[.tmp 15, .tmp 18]) rfl ?_); at_builtin; refine Kd.R_append Kd.string (w0 := w) w.heap.size rfl (.tmp 15) (.tmp 18) 156 9 (.string ⟨#[]⟩) 16 rfl Try.underlying156 info9 rfl (by decide) (by omega) u3 x3_1 t272 [.string t272] (fun _ => True) (fun _ => False) rfl rfl ?aP (fun _ hk => hk.elim) ?aF ?aO ?aB ?aS ?aL ?_; (case aP => exact rfl); (case aB => exact bQ); (case aF => exact (fun _ _ => trivial)); (case aO => exact (by (with_reducible repeat (first | apply rA | apply rN | apply rD)); exact HO_3.out)); (case aS => exact (below_size bQ)); (case aL => have := LMc7.out; omega); intro v274 w9 ho hb hg hat; rw [← Ny273.out] at ho; have n0_ := aM (hb); have n1_ := aM (ho); clear HB; clear HO_3; have HB := n0_; have HO275 := n1_; clear n0_ n1_; clear ho hb hg hat))
        go_roundg k1
        case measure => have := HK1.out; omega
        case rel => exact ⟨(y273), (wrap64 (x11_1 + 1)), rQ, H', ⟨by have := HK1.out; omega⟩, ⟨by (with_reducible repeat (first | apply rA | apply rN | apply rD)); exact HO275.out⟩, ⟨bQ⟩⟩
       ·rw [if_neg c7] at H
        exact absurd H (by simp)
      ·rw [if_neg c5] at H
       exact absurd H (by simp)
     ·rw [if_neg c4] at H
      exact absurd H (by simp)
    ·rw [if_neg c3] at H
     have c3b0 : decide (x11_1 < (l0.length : Int)) = false := decide_eq_false c3
     clear c3
     replace H := Option.bind_eq_some_iff.mp H
     obtain ⟨t276, A100, H⟩ := H
     replace H : (some t276) = some r := H
     have A10 := aM A100
     clear A100
     obtain rfl := Option.some.inj H
     obtain ⟨Ao11, co11, eo11⟩ := Kd.R_slice HO_3.out
     subst eo11
     go_wp2_with (first | ((with_reducible refine gate_callee (f := 122) rfl ?_); refine goesL_ (some 22) rfl rfl Try.func122 (by kernel_rfl) rfl #[.slice Ao11 x3_1.length co11, .string (⟨#[44]⟩ : ByteArray)] rfl gQ ?_; (with_reducible refine (strings_Join.calls _ _ x3_1 (⟨#[44]⟩ : ByteArray) t276 _ ?side1 ?side2 A10.out).mono ?_); (case side1 => repeat (first | exact (Kd.R_reads' HO_3.out).2.2 | (with_reducible first | refine cA ?_ _ | refine cN ?_ _ | refine cD ?_))); (case side2 => exact (Kd.R_reads' HO_3.out).2.1); rintro e w12 ⟨rfl, hb⟩; refine ⟨_, rfl, ?_⟩; have n0_ := aM (Kd.R_below (by (with_reducible repeat (first | apply rA | apply rN | apply rD)); exact HO_3.out) hb); have n1_ := aM (below_step bQ hb); clear HO_3; clear HB; have HO_3 := n0_; have HB := n1_; clear n0_ n1_; (try clear hb); (try clear hb2); (try clear hk); (try clear hi)))
     go_ret
     exact ⟨eQ, bQ⟩

/-! ### impl_RuleText: function 25 -/
abbrev mkimpl_RuleText_0 : Array Bool := #[ff,ff,ff,ff,ff,ff,ff,ff,ff,ff,ff,ff,ff,ff,ff,ff,ff,ff,ff,ff]
abbrev mkimpl_RuleText_1 : Array Bool := #[tt,ff,ff,ff,ff,ff,ff,ff,ff,ff,ff,ff,ff,ff,ff,ff,ff,ff,ff,ff]
abbrev mkimpl_RuleText_2 : Array Bool := #[tt,ff,ff,ff,ff,tt,ff,ff,ff,ff,ff,ff,ff,ff,ff,ff,ff,ff,ff,ff]
abbrev mkimpl_RuleText_3 : Array Bool := #[tt,ff,ff,ff,ff,tt,ff,ff,ff,ff,tt,ff,ff,ff,ff,ff,ff,ff,ff,ff]
abbrev mkimpl_RuleText_4 : Array Bool := #[tt,ff,ff,ff,ff,tt,ff,ff,ff,ff,tt,ff,ff,ff,ff,tt,ff,ff,ff,ff]
abbrev mkimpl_RuleText_5 : Array Bool := #[tt,tt,ff,ff,ff,tt,ff,ff,ff,ff,tt,ff,ff,ff,ff,tt,ff,ff,ff,ff]
abbrev mkimpl_RuleText_6 : Array Bool := #[tt,tt,ff,ff,ff,tt,tt,ff,ff,ff,tt,ff,ff,ff,ff,tt,ff,ff,ff,ff]
abbrev mkimpl_RuleText_7 : Array Bool := #[tt,tt,ff,ff,ff,tt,tt,ff,ff,ff,tt,tt,ff,ff,ff,tt,ff,ff,ff,ff]
abbrev mkimpl_RuleText_8 : Array Bool := #[tt,tt,ff,ff,ff,tt,tt,ff,ff,ff,tt,tt,ff,ff,ff,tt,tt,ff,ff,ff]
abbrev mkimpl_RuleText_9 : Array Bool := #[tt,tt,tt,ff,ff,tt,tt,ff,ff,ff,tt,tt,ff,ff,ff,tt,tt,ff,ff,ff]
abbrev mkimpl_RuleText_10 : Array Bool := #[tt,tt,tt,tt,ff,tt,tt,ff,ff,ff,tt,tt,ff,ff,ff,tt,tt,ff,ff,ff]
abbrev mkimpl_RuleText_11 : Array Bool := #[tt,tt,tt,tt,tt,tt,tt,ff,ff,ff,tt,tt,ff,ff,ff,tt,tt,ff,ff,ff]
abbrev mkimpl_RuleText_12 : Array Bool := #[tt,tt,tt,tt,tt,tt,tt,tt,ff,ff,tt,tt,ff,ff,ff,tt,tt,ff,ff,ff]
abbrev mkimpl_RuleText_13 : Array Bool := #[tt,tt,tt,tt,tt,tt,tt,tt,tt,ff,tt,tt,ff,ff,ff,tt,tt,ff,ff,ff]
abbrev mkimpl_RuleText_14 : Array Bool := #[tt,tt,tt,tt,tt,tt,tt,tt,tt,tt,tt,tt,ff,ff,ff,tt,tt,ff,ff,ff]
abbrev mkimpl_RuleText_15 : Array Bool := #[tt,tt,tt,tt,tt,tt,tt,tt,tt,tt,tt,tt,tt,ff,ff,tt,tt,ff,ff,ff]
abbrev mkimpl_RuleText_16 : Array Bool := #[tt,tt,tt,tt,tt,tt,tt,tt,tt,tt,tt,tt,tt,tt,ff,tt,tt,ff,ff,ff]
abbrev mkimpl_RuleText_17 : Array Bool := #[tt,tt,tt,tt,tt,tt,tt,tt,tt,tt,tt,tt,tt,tt,tt,tt,tt,ff,ff,ff]
abbrev mkimpl_RuleText_18 : Array Bool := #[tt,tt,tt,tt,tt,tt,tt,tt,tt,tt,tt,tt,tt,tt,tt,tt,tt,tt,ff,ff]
abbrev mkimpl_RuleText_19 : Array Bool := #[tt,tt,tt,tt,tt,tt,tt,tt,tt,tt,tt,tt,tt,tt,tt,tt,tt,tt,tt,ff]
abbrev mkimpl_RuleText_20 : Array Bool := #[tt,tt,tt,tt,tt,tt,tt,tt,tt,tt,tt,tt,tt,tt,tt,tt,tt,tt,tt,tt]
def impl_RuleText.f (k : Nat) (l0_0 : List (List Int)) (l0_1 : List (List Int)) (l0_2 : List (List Int)) (l0_3 : List Int) : Option (ByteArray) := (impl_ValidRule.f k l0_0 l0_1 l0_2 l0_3).bind fun t278 => (if t278 = true then ((impl_classesText.f k l0_0).bind fun t279 => (if 5 + t279.size ≤ 9223372036854775807 then (if ((⟨#[114, 117, 108, 101, 32]⟩ : ByteArray) ++ t279).size + 1 ≤ 9223372036854775807 then ((impl_classesText.f k l0_1).bind fun t280 => (if (((⟨#[114, 117, 108, 101, 32]⟩ : ByteArray) ++ t279) ++ (⟨#[32]⟩ : ByteArray)).size + t280.size ≤ 9223372036854775807 then (if ((((⟨#[114, 117, 108, 101, 32]⟩ : ByteArray) ++ t279) ++ (⟨#[32]⟩ : ByteArray)) ++ t280).size + 1 ≤ 9223372036854775807 then ((impl_classesText.f k l0_2).bind fun t281 => (if (((((⟨#[114, 117, 108, 101, 32]⟩ : ByteArray) ++ t279) ++ (⟨#[32]⟩ : ByteArray)) ++ t280) ++ (⟨#[32]⟩ : ByteArray)).size + t281.size ≤ 9223372036854775807 then (if ((((((⟨#[114, 117, 108, 101, 32]⟩ : ByteArray) ++ t279) ++ (⟨#[32]⟩ : ByteArray)) ++ t280) ++ (⟨#[32]⟩ : ByteArray)) ++ t281).size + 1 ≤ 9223372036854775807 then ((impl_numbersText.f k l0_3).bind fun t282 => (if (((((((⟨#[114, 117, 108, 101, 32]⟩ : ByteArray) ++ t279) ++ (⟨#[32]⟩ : ByteArray)) ++ t280) ++ (⟨#[32]⟩ : ByteArray)) ++ t281) ++ (⟨#[32]⟩ : ByteArray)).size + t282.size ≤ 9223372036854775807 then (some ((((((((⟨#[114, 117, 108, 101, 32]⟩ : ByteArray) ++ t279) ++ (⟨#[32]⟩ : ByteArray)) ++ t280) ++ (⟨#[32]⟩ : ByteArray)) ++ t281) ++ (⟨#[32]⟩ : ByteArray)) ++ t282)) else (none))) else (none)) else (none))) else (none)) else (none))) else (none)) else (none))) else (some (⟨#[]⟩ : ByteArray)))
theorem impl_RuleText.mono : ∀ a0 a1 a2 a3 k, LeO (impl_RuleText.f k a0 a1 a2 a3) (impl_RuleText.f (k + 1) a0 a1 a2 a3) := by
 intro a0 a1 a2 a3 k
 unfold impl_RuleText.f
 repeat' first
   | (with_reducible exact impl_ValidRule.mono _ _ _ _ _)
   | (with_reducible exact impl_classesText.mono _ _)
   | (with_reducible exact impl_numbersText.mono _ _)
   | (with_reducible exact LeO.refl _)
   | (with_reducible exact LeO.none _)
   | (with_reducible refine LeO.ite ?_ ?_)
   | (with_reducible refine LeO.bind ?_ (fun _ => ?_))
   | exact impl_ValidRule.mono _ _ _ _ _
   | exact impl_classesText.mono _ _
   | exact impl_numbersText.mono _ _
   | exact LeO.none _
   | refine LeO.ite ?_ ?_
   | refine LeO.bind ?_ (fun _ => ?_)
def impl_RuleText.T3 : Bool × List (List Nat × List Nat) := (true, [([], []), ([0], [0]), ([1], [1]), ([2], [2]), ([3], [3]), ([], []), ([5], [5]), ([6, 2], [6]), ([4, 7], [4, 7]), ([8], [8]), ([], []), ([10], [10]), ([11, 7], [11]), ([9, 12], [9, 12]), ([13], [13]), ([], []), ([15], [15]), ([16, 12], [16]), ([14, 17], [14, 17]), ([18, 17, 0, 1, 2, 3, 4, 5, 6, 7, 8, 9, 10, 11, 12, 13, 14, 15, 16, 17, 18], [18])])
def impl_RuleText.B3 : List Nat := [0, 1, 3, 7, 15, 0, 32, 103, 255, 511, 0, 1024, 3303, 8191, 16383, 0, 32768, 105703, 262143, 524287]
theorem impl_RuleText.tab3 : rtab .any (opsOf Try.f25 3) = impl_RuleText.T3 := by kernel_rfl
theorem impl_RuleText.bits3 : waitsOk impl_RuleText.T3.2 impl_RuleText.B3 = true := by kernel_rfl
set_option maxHeartbeats 8000000 in
set_option maxRecDepth 100000 in
theorem impl_RuleText.calls (k : Nat) (A0_0 : Option Addr) (c0_0 : Nat) (l0_0 : List (List Int)) (A0_1 : Option Addr) (c0_1 : Nat) (l0_1 : List (List Int)) (A0_2 : Option Addr) (c0_2 : Nat) (l0_2 : List (List Int)) (A0_3 : Option Addr) (c0_3 : Nat) (l0_3 : List Int) (r : ByteArray) (w : World) (hr0_0 : Kd.C (Kd.slice 2 (Kd.int .i64)) w A0_0 l0_0.length l0_0) (hc0_0 : l0_0.length ≤ c0_0) (hr0_1 : Kd.C (Kd.slice 2 (Kd.int .i64)) w A0_1 l0_1.length l0_1) (hc0_1 : l0_1.length ≤ c0_1) (hr0_2 : Kd.C (Kd.slice 2 (Kd.int .i64)) w A0_2 l0_2.length l0_2) (hc0_2 : l0_2.length ≤ c0_2) (hr0_3 : Kd.C (Kd.int .i64) w A0_3 l0_3.length l0_3) (hc0_3 : l0_3.length ≤ c0_3) (h : impl_RuleText.f k l0_0 l0_1 l0_2 l0_3 = some r) :
  Calls Try.prog 25 #[.agg #[.slice A0_0 l0_0.length c0_0, .slice A0_1 l0_1.length c0_1, .slice A0_2 l0_2.length c0_2, .slice A0_3 l0_3.length c0_3]] w fun e w' => e = .returned (.string r) ∧ Below w.heap.size w w' := by
 have hu38 := Try.underlying38
 have HR0_0 := aM hr0_0
 have HC0_0 := aM hc0_0
 clear hr0_0 hc0_0
 have HR0_1 := aM hr0_1
 have HC0_1 := aM hc0_1
 clear hr0_1 hc0_1
 have HR0_2 := aM hr0_2
 have HC0_2 := aM hc0_2
 clear hr0_2 hc0_2
 have HR0_3 := aM hr0_3
 have HC0_3 := aM hc0_3
 clear hr0_3 hc0_3
 have HB := aM (Below.refl w.heap.size w)
 have H : ((impl_ValidRule.f k l0_0 l0_1 l0_2 l0_3).bind fun t278 => (if t278 = true then ((impl_classesText.f k l0_0).bind fun t279 => (if 5 + t279.size ≤ 9223372036854775807 then (if ((⟨#[114, 117, 108, 101, 32]⟩ : ByteArray) ++ t279).size + 1 ≤ 9223372036854775807 then ((impl_classesText.f k l0_1).bind fun t280 => (if (((⟨#[114, 117, 108, 101, 32]⟩ : ByteArray) ++ t279) ++ (⟨#[32]⟩ : ByteArray)).size + t280.size ≤ 9223372036854775807 then (if ((((⟨#[114, 117, 108, 101, 32]⟩ : ByteArray) ++ t279) ++ (⟨#[32]⟩ : ByteArray)) ++ t280).size + 1 ≤ 9223372036854775807 then ((impl_classesText.f k l0_2).bind fun t281 => (if (((((⟨#[114, 117, 108, 101, 32]⟩ : ByteArray) ++ t279) ++ (⟨#[32]⟩ : ByteArray)) ++ t280) ++ (⟨#[32]⟩ : ByteArray)).size + t281.size ≤ 9223372036854775807 then (if ((((((⟨#[114, 117, 108, 101, 32]⟩ : ByteArray) ++ t279) ++ (⟨#[32]⟩ : ByteArray)) ++ t280) ++ (⟨#[32]⟩ : ByteArray)) ++ t281).size + 1 ≤ 9223372036854775807 then ((impl_numbersText.f k l0_3).bind fun t282 => (if (((((((⟨#[114, 117, 108, 101, 32]⟩ : ByteArray) ++ t279) ++ (⟨#[32]⟩ : ByteArray)) ++ t280) ++ (⟨#[32]⟩ : ByteArray)) ++ t281) ++ (⟨#[32]⟩ : ByteArray)).size + t282.size ≤ 9223372036854775807 then (some ((((((((⟨#[114, 117, 108, 101, 32]⟩ : ByteArray) ++ t279) ++ (⟨#[32]⟩ : ByteArray)) ++ t280) ++ (⟨#[32]⟩ : ByteArray)) ++ t281) ++ (⟨#[32]⟩ : ByteArray)) ++ t282)) else (none))) else (none)) else (none))) else (none)) else (none))) else (none)) else (none))) else (some (⟨#[]⟩ : ByteArray)))) = some r := h
 clear h
 replace H := Option.bind_eq_some_iff.mp H
 obtain ⟨t278, A20, H⟩ := H
 replace H : (if t278 = true then ((impl_classesText.f k l0_0).bind fun t279 => (if 5 + t279.size ≤ 9223372036854775807 then (if ((⟨#[114, 117, 108, 101, 32]⟩ : ByteArray) ++ t279).size + 1 ≤ 9223372036854775807 then ((impl_classesText.f k l0_1).bind fun t280 => (if (((⟨#[114, 117, 108, 101, 32]⟩ : ByteArray) ++ t279) ++ (⟨#[32]⟩ : ByteArray)).size + t280.size ≤ 9223372036854775807 then (if ((((⟨#[114, 117, 108, 101, 32]⟩ : ByteArray) ++ t279) ++ (⟨#[32]⟩ : ByteArray)) ++ t280).size + 1 ≤ 9223372036854775807 then ((impl_classesText.f k l0_2).bind fun t281 => (if (((((⟨#[114, 117, 108, 101, 32]⟩ : ByteArray) ++ t279) ++ (⟨#[32]⟩ : ByteArray)) ++ t280) ++ (⟨#[32]⟩ : ByteArray)).size + t281.size ≤ 9223372036854775807 then (if ((((((⟨#[114, 117, 108, 101, 32]⟩ : ByteArray) ++ t279) ++ (⟨#[32]⟩ : ByteArray)) ++ t280) ++ (⟨#[32]⟩ : ByteArray)) ++ t281).size + 1 ≤ 9223372036854775807 then ((impl_numbersText.f k l0_3).bind fun t282 => (if (((((((⟨#[114, 117, 108, 101, 32]⟩ : ByteArray) ++ t279) ++ (⟨#[32]⟩ : ByteArray)) ++ t280) ++ (⟨#[32]⟩ : ByteArray)) ++ t281) ++ (⟨#[32]⟩ : ByteArray)).size + t282.size ≤ 9223372036854775807 then (some ((((((((⟨#[114, 117, 108, 101, 32]⟩ : ByteArray) ++ t279) ++ (⟨#[32]⟩ : ByteArray)) ++ t280) ++ (⟨#[32]⟩ : ByteArray)) ++ t281) ++ (⟨#[32]⟩ : ByteArray)) ++ t282)) else (none))) else (none)) else (none))) else (none)) else (none))) else (none)) else (none))) else (some (⟨#[]⟩ : ByteArray))) = some r := H
 have A2 := aM A20
 clear A20
 by_cases c3 : t278 = true
 ·subst c3
  have H1 : ((impl_classesText.f k l0_0).bind fun t279 => (if 5 + t279.size ≤ 9223372036854775807 then (if ((⟨#[114, 117, 108, 101, 32]⟩ : ByteArray) ++ t279).size + 1 ≤ 9223372036854775807 then ((impl_classesText.f k l0_1).bind fun t280 => (if (((⟨#[114, 117, 108, 101, 32]⟩ : ByteArray) ++ t279) ++ (⟨#[32]⟩ : ByteArray)).size + t280.size ≤ 9223372036854775807 then (if ((((⟨#[114, 117, 108, 101, 32]⟩ : ByteArray) ++ t279) ++ (⟨#[32]⟩ : ByteArray)) ++ t280).size + 1 ≤ 9223372036854775807 then ((impl_classesText.f k l0_2).bind fun t281 => (if (((((⟨#[114, 117, 108, 101, 32]⟩ : ByteArray) ++ t279) ++ (⟨#[32]⟩ : ByteArray)) ++ t280) ++ (⟨#[32]⟩ : ByteArray)).size + t281.size ≤ 9223372036854775807 then (if ((((((⟨#[114, 117, 108, 101, 32]⟩ : ByteArray) ++ t279) ++ (⟨#[32]⟩ : ByteArray)) ++ t280) ++ (⟨#[32]⟩ : ByteArray)) ++ t281).size + 1 ≤ 9223372036854775807 then ((impl_numbersText.f k l0_3).bind fun t282 => (if (((((((⟨#[114, 117, 108, 101, 32]⟩ : ByteArray) ++ t279) ++ (⟨#[32]⟩ : ByteArray)) ++ t280) ++ (⟨#[32]⟩ : ByteArray)) ++ t281) ++ (⟨#[32]⟩ : ByteArray)).size + t282.size ≤ 9223372036854775807 then (some ((((((((⟨#[114, 117, 108, 101, 32]⟩ : ByteArray) ++ t279) ++ (⟨#[32]⟩ : ByteArray)) ++ t280) ++ (⟨#[32]⟩ : ByteArray)) ++ t281) ++ (⟨#[32]⟩ : ByteArray)) ++ t282)) else (none))) else (none)) else (none))) else (none)) else (none))) else (none)) else (none))) = some r := by rw [if_pos rfl] at H; exact H
  clear H
  have H := H1
  clear H1
  replace H := Option.bind_eq_some_iff.mp H
  obtain ⟨t279, A40, H⟩ := H
  replace H : (if 5 + t279.size ≤ 9223372036854775807 then (if ((⟨#[114, 117, 108, 101, 32]⟩ : ByteArray) ++ t279).size + 1 ≤ 9223372036854775807 then ((impl_classesText.f k l0_1).bind fun t280 => (if (((⟨#[114, 117, 108, 101, 32]⟩ : ByteArray) ++ t279) ++ (⟨#[32]⟩ : ByteArray)).size + t280.size ≤ 9223372036854775807 then (if ((((⟨#[114, 117, 108, 101, 32]⟩ : ByteArray) ++ t279) ++ (⟨#[32]⟩ : ByteArray)) ++ t280).size + 1 ≤ 9223372036854775807 then ((impl_classesText.f k l0_2).bind fun t281 => (if (((((⟨#[114, 117, 108, 101, 32]⟩ : ByteArray) ++ t279) ++ (⟨#[32]⟩ : ByteArray)) ++ t280) ++ (⟨#[32]⟩ : ByteArray)).size + t281.size ≤ 9223372036854775807 then (if ((((((⟨#[114, 117, 108, 101, 32]⟩ : ByteArray) ++ t279) ++ (⟨#[32]⟩ : ByteArray)) ++ t280) ++ (⟨#[32]⟩ : ByteArray)) ++ t281).size + 1 ≤ 9223372036854775807 then ((impl_numbersText.f k l0_3).bind fun t282 => (if (((((((⟨#[114, 117, 108, 101, 32]⟩ : ByteArray) ++ t279) ++ (⟨#[32]⟩ : ByteArray)) ++ t280) ++ (⟨#[32]⟩ : ByteArray)) ++ t281) ++ (⟨#[32]⟩ : ByteArray)).size + t282.size ≤ 9223372036854775807 then (some ((((((((⟨#[114, 117, 108, 101, 32]⟩ : ByteArray) ++ t279) ++ (⟨#[32]⟩ : ByteArray)) ++ t280) ++ (⟨#[32]⟩ : ByteArray)) ++ t281) ++ (⟨#[32]⟩ : ByteArray)) ++ t282)) else (none))) else (none)) else (none))) else (none)) else (none))) else (none)) else (none)) = some r := H
  have A4 := aM A40
  clear A40
  by_cases c5 : 5 + t279.size ≤ 9223372036854775807
  ·rw [if_pos c5] at H
   have c5b0 := eq_true c5
   have c5b1 : decide (5 + t279.size ≤ 9223372036854775807) = true := decide_eq_true c5
   try have c5b2 : (9223372036854775807 < 5 + t279.size) = False := eq_false (Nat.not_lt.2 c5)
   by_cases c6 : ((⟨#[114, 117, 108, 101, 32]⟩ : ByteArray) ++ t279).size + 1 ≤ 9223372036854775807
   ·rw [if_pos c6] at H
    have c6b0 := eq_true c6
    have c6b1 : decide (((⟨#[114, 117, 108, 101, 32]⟩ : ByteArray) ++ t279).size + 1 ≤ 9223372036854775807) = true := decide_eq_true c6
    try have c6b2 : (9223372036854775807 < ((⟨#[114, 117, 108, 101, 32]⟩ : ByteArray) ++ t279).size + 1) = False := eq_false (Nat.not_lt.2 c6)
    try have c6b3 : (9223372036854775807 < 5 + t279.size + 1) = False := eq_false (Nat.not_lt.2 (by have h_ := c6; simp only [ByteArray.size_append] at h_; exact h_))
    try (have c6b6 := c6b0; simp only [ByteArray.size_append, ByteArray.size_extract, Nat.min_self, Int.natCast_add] at c6b6)
    try (have c6b7 := c6b1; simp only [ByteArray.size_append, ByteArray.size_extract, Nat.min_self, Int.natCast_add] at c6b7)
    replace H := Option.bind_eq_some_iff.mp H
    obtain ⟨t280, A70, H⟩ := H
    replace H : (if (((⟨#[114, 117, 108, 101, 32]⟩ : ByteArray) ++ t279) ++ (⟨#[32]⟩ : ByteArray)).size + t280.size ≤ 9223372036854775807 then (if ((((⟨#[114, 117, 108, 101, 32]⟩ : ByteArray) ++ t279) ++ (⟨#[32]⟩ : ByteArray)) ++ t280).size + 1 ≤ 9223372036854775807 then ((impl_classesText.f k l0_2).bind fun t281 => (if (((((⟨#[114, 117, 108, 101, 32]⟩ : ByteArray) ++ t279) ++ (⟨#[32]⟩ : ByteArray)) ++ t280) ++ (⟨#[32]⟩ : ByteArray)).size + t281.size ≤ 9223372036854775807 then (if ((((((⟨#[114, 117, 108, 101, 32]⟩ : ByteArray) ++ t279) ++ (⟨#[32]⟩ : ByteArray)) ++ t280) ++ (⟨#[32]⟩ : ByteArray)) ++ t281).size + 1 ≤ 9223372036854775807 then ((impl_numbersText.f k l0_3).bind fun t282 => (if (((((((⟨#[114, 117, 108, 101, 32]⟩ : ByteArray) ++ t279) ++ (⟨#[32]⟩ : ByteArray)) ++ t280) ++ (⟨#[32]⟩ : ByteArray)) ++ t281) ++ (⟨#[32]⟩ : ByteArray)).size + t282.size ≤ 9223372036854775807 then (some ((((((((⟨#[114, 117, 108, 101, 32]⟩ : ByteArray) ++ t279) ++ (⟨#[32]⟩ : ByteArray)) ++ t280) ++ (⟨#[32]⟩ : ByteArray)) ++ t281) ++ (⟨#[32]⟩ : ByteArray)) ++ t282)) else (none))) else (none)) else (none))) else (none)) else (none)) = some r := H
    have A7 := aM A70
    clear A70
    by_cases c8 : (((⟨#[114, 117, 108, 101, 32]⟩ : ByteArray) ++ t279) ++ (⟨#[32]⟩ : ByteArray)).size + t280.size ≤ 9223372036854775807
    ·rw [if_pos c8] at H
     have c8b0 := eq_true c8
     have c8b1 : decide ((((⟨#[114, 117, 108, 101, 32]⟩ : ByteArray) ++ t279) ++ (⟨#[32]⟩ : ByteArray)).size + t280.size ≤ 9223372036854775807) = true := decide_eq_true c8
     try have c8b2 : (9223372036854775807 < (((⟨#[114, 117, 108, 101, 32]⟩ : ByteArray) ++ t279) ++ (⟨#[32]⟩ : ByteArray)).size + t280.size) = False := eq_false (Nat.not_lt.2 c8)
     try have c8b3 : (9223372036854775807 < 5 + t279.size + 1 + t280.size) = False := eq_false (Nat.not_lt.2 (by have h_ := c8; simp only [ByteArray.size_append] at h_; exact h_))
     try (have c8b6 := c8b0; simp only [ByteArray.size_append, ByteArray.size_extract, Nat.min_self, Int.natCast_add] at c8b6)
     try (have c8b7 := c8b1; simp only [ByteArray.size_append, ByteArray.size_extract, Nat.min_self, Int.natCast_add] at c8b7)
     by_cases c9 : ((((⟨#[114, 117, 108, 101, 32]⟩ : ByteArray) ++ t279) ++ (⟨#[32]⟩ : ByteArray)) ++ t280).size + 1 ≤ 9223372036854775807
     ·rw [if_pos c9] at H
      have c9b0 := eq_true c9
      have c9b1 : decide (((((⟨#[114, 117, 108, 101, 32]⟩ : ByteArray) ++ t279) ++ (⟨#[32]⟩ : ByteArray)) ++ t280).size + 1 ≤ 9223372036854775807) = true := decide_eq_true c9
      try have c9b2 : (9223372036854775807 < ((((⟨#[114, 117, 108, 101, 32]⟩ : ByteArray) ++ t279) ++ (⟨#[32]⟩ : ByteArray)) ++ t280).size + 1) = False := eq_false (Nat.not_lt.2 c9)
      try have c9b3 : (9223372036854775807 < 5 + t279.size + 1 + t280.size + 1) = False := eq_false (Nat.not_lt.2 (by have h_ := c9; simp only [ByteArray.size_append] at h_; exact h_))
      try (have c9b6 := c9b0; simp only [ByteArray.size_append, ByteArray.size_extract, Nat.min_self, Int.natCast_add] at c9b6)
      try (have c9b7 := c9b1; simp only [ByteArray.size_append, ByteArray.size_extract, Nat.min_self, Int.natCast_add] at c9b7)
      replace H := Option.bind_eq_some_iff.mp H
      obtain ⟨t281, A100, H⟩ := H
      replace H : (if (((((⟨#[114, 117, 108, 101, 32]⟩ : ByteArray) ++ t279) ++ (⟨#[32]⟩ : ByteArray)) ++ t280) ++ (⟨#[32]⟩ : ByteArray)).size + t281.size ≤ 9223372036854775807 then (if ((((((⟨#[114, 117, 108, 101, 32]⟩ : ByteArray) ++ t279) ++ (⟨#[32]⟩ : ByteArray)) ++ t280) ++ (⟨#[32]⟩ : ByteArray)) ++ t281).size + 1 ≤ 9223372036854775807 then ((impl_numbersText.f k l0_3).bind fun t282 => (if (((((((⟨#[114, 117, 108, 101, 32]⟩ : ByteArray) ++ t279) ++ (⟨#[32]⟩ : ByteArray)) ++ t280) ++ (⟨#[32]⟩ : ByteArray)) ++ t281) ++ (⟨#[32]⟩ : ByteArray)).size + t282.size ≤ 9223372036854775807 then (some ((((((((⟨#[114, 117, 108, 101, 32]⟩ : ByteArray) ++ t279) ++ (⟨#[32]⟩ : ByteArray)) ++ t280) ++ (⟨#[32]⟩ : ByteArray)) ++ t281) ++ (⟨#[32]⟩ : ByteArray)) ++ t282)) else (none))) else (none)) else (none)) = some r := H
      have A10 := aM A100
      clear A100
      by_cases c11 : (((((⟨#[114, 117, 108, 101, 32]⟩ : ByteArray) ++ t279) ++ (⟨#[32]⟩ : ByteArray)) ++ t280) ++ (⟨#[32]⟩ : ByteArray)).size + t281.size ≤ 9223372036854775807
      ·rw [if_pos c11] at H
       have c11b0 := eq_true c11
       have c11b1 : decide ((((((⟨#[114, 117, 108, 101, 32]⟩ : ByteArray) ++ t279) ++ (⟨#[32]⟩ : ByteArray)) ++ t280) ++ (⟨#[32]⟩ : ByteArray)).size + t281.size ≤ 9223372036854775807) = true := decide_eq_true c11
       try have c11b2 : (9223372036854775807 < (((((⟨#[114, 117, 108, 101, 32]⟩ : ByteArray) ++ t279) ++ (⟨#[32]⟩ : ByteArray)) ++ t280) ++ (⟨#[32]⟩ : ByteArray)).size + t281.size) = False := eq_false (Nat.not_lt.2 c11)
       try have c11b3 : (9223372036854775807 < 5 + t279.size + 1 + t280.size + 1 + t281.size) = False := eq_false (Nat.not_lt.2 (by have h_ := c11; simp only [ByteArray.size_append] at h_; exact h_))
       try (have c11b6 := c11b0; simp only [ByteArray.size_append, ByteArray.size_extract, Nat.min_self, Int.natCast_add] at c11b6)
       try (have c11b7 := c11b1; simp only [ByteArray.size_append, ByteArray.size_extract, Nat.min_self, Int.natCast_add] at c11b7)
       by_cases c12 : ((((((⟨#[114, 117, 108, 101, 32]⟩ : ByteArray) ++ t279) ++ (⟨#[32]⟩ : ByteArray)) ++ t280) ++ (⟨#[32]⟩ : ByteArray)) ++ t281).size + 1 ≤ 9223372036854775807
       ·rw [if_pos c12] at H
        have c12b0 := eq_true c12
        have c12b1 : decide (((((((⟨#[114, 117, 108, 101, 32]⟩ : ByteArray) ++ t279) ++ (⟨#[32]⟩ : ByteArray)) ++ t280) ++ (⟨#[32]⟩ : ByteArray)) ++ t281).size + 1 ≤ 9223372036854775807) = true := decide_eq_true c12
        try have c12b2 : (9223372036854775807 < ((((((⟨#[114, 117, 108, 101, 32]⟩ : ByteArray) ++ t279) ++ (⟨#[32]⟩ : ByteArray)) ++ t280) ++ (⟨#[32]⟩ : ByteArray)) ++ t281).size + 1) = False := eq_false (Nat.not_lt.2 c12)
        try have c12b3 : (9223372036854775807 < 5 + t279.size + 1 + t280.size + 1 + t281.size + 1) = False := eq_false (Nat.not_lt.2 (by have h_ := c12; simp only [ByteArray.size_append] at h_; exact h_))
        try (have c12b6 := c12b0; simp only [ByteArray.size_append, ByteArray.size_extract, Nat.min_self, Int.natCast_add] at c12b6)
        try (have c12b7 := c12b1; simp only [ByteArray.size_append, ByteArray.size_extract, Nat.min_self, Int.natCast_add] at c12b7)
        replace H := Option.bind_eq_some_iff.mp H
        obtain ⟨t282, A130, H⟩ := H
        replace H : (if (((((((⟨#[114, 117, 108, 101, 32]⟩ : ByteArray) ++ t279) ++ (⟨#[32]⟩ : ByteArray)) ++ t280) ++ (⟨#[32]⟩ : ByteArray)) ++ t281) ++ (⟨#[32]⟩ : ByteArray)).size + t282.size ≤ 9223372036854775807 then (some ((((((((⟨#[114, 117, 108, 101, 32]⟩ : ByteArray) ++ t279) ++ (⟨#[32]⟩ : ByteArray)) ++ t280) ++ (⟨#[32]⟩ : ByteArray)) ++ t281) ++ (⟨#[32]⟩ : ByteArray)) ++ t282)) else (none)) = some r := H
        have A13 := aM A130
        clear A130
        by_cases c14 : (((((((⟨#[114, 117, 108, 101, 32]⟩ : ByteArray) ++ t279) ++ (⟨#[32]⟩ : ByteArray)) ++ t280) ++ (⟨#[32]⟩ : ByteArray)) ++ t281) ++ (⟨#[32]⟩ : ByteArray)).size + t282.size ≤ 9223372036854775807
        ·rw [if_pos c14] at H
         have c14b0 := eq_true c14
         have c14b1 : decide ((((((((⟨#[114, 117, 108, 101, 32]⟩ : ByteArray) ++ t279) ++ (⟨#[32]⟩ : ByteArray)) ++ t280) ++ (⟨#[32]⟩ : ByteArray)) ++ t281) ++ (⟨#[32]⟩ : ByteArray)).size + t282.size ≤ 9223372036854775807) = true := decide_eq_true c14
         try have c14b2 : (9223372036854775807 < (((((((⟨#[114, 117, 108, 101, 32]⟩ : ByteArray) ++ t279) ++ (⟨#[32]⟩ : ByteArray)) ++ t280) ++ (⟨#[32]⟩ : ByteArray)) ++ t281) ++ (⟨#[32]⟩ : ByteArray)).size + t282.size) = False := eq_false (Nat.not_lt.2 c14)
         try have c14b3 : (9223372036854775807 < 5 + t279.size + 1 + t280.size + 1 + t281.size + 1 + t282.size) = False := eq_false (Nat.not_lt.2 (by have h_ := c14; simp only [ByteArray.size_append] at h_; exact h_))
         try (have c14b6 := c14b0; simp only [ByteArray.size_append, ByteArray.size_extract, Nat.min_self, Int.natCast_add] at c14b6)
         try (have c14b7 := c14b1; simp only [ByteArray.size_append, ByteArray.size_extract, Nat.min_self, Int.natCast_add] at c14b7)
         obtain rfl := Option.some.inj H
         go_enter Try.func25, Try.ntmps25
         try go_wp2_with (first | ((with_reducible refine gate_dst (N := 1) rfl ?_); refine box_event ?hg (N := 1) ?hd (cs := #[.slice A0_0 l0_0.length c0_0, .slice A0_1 l0_1.length c0_1, .slice A0_2 l0_2.length c0_2, .slice A0_3 l0_3.length c0_3]) (t := 38) ?hr ?_; (case hd => rfl); (case hg => rfl); (case hr => first | (go_simp; done) | (go_simp; rfl)); intro gb277 hg w15 hbox hb; have n0_ := aM (below_step bQ hb); have n1_ := aM (hbox); have n2_ := aM ((by rw [hg]; exact (below_size bQ) : w.heap.size ≤ gb277)); have n3_ := aM ((by rw [hg]; exact (below_size bQ) : w.heap.size ≤ gb277)); clear HB; have HB := n0_; have BK277 := n1_; have GW277 := n2_; have GE277 := n3_; clear n0_ n1_ n2_ n3_; clear hb hbox hg; have hcz16_0 : w15.cell? ⟨gb277, 0, none⟩ = some (.slice A0_0 l0_0.length c0_0) := (blk_cell BK277.out 0).trans rfl; have hcz16_1 : w15.cell? ⟨gb277, 1, none⟩ = some (.slice A0_1 l0_1.length c0_1) := (blk_cell BK277.out 1).trans rfl; have hcz16_2 : w15.cell? ⟨gb277, 2, none⟩ = some (.slice A0_2 l0_2.length c0_2) := (blk_cell BK277.out 2).trans rfl; have hcz16_3 : w15.cell? ⟨gb277, 3, none⟩ = some (.slice A0_3 l0_3.length c0_3) := (blk_cell BK277.out 3).trans rfl; have hfz16_0 := blk_frozen BK277.out 0; have hfz16_1 := blk_frozen BK277.out 1; have hfz16_2 := blk_frozen BK277.out 2; have hfz16_3 := blk_frozen BK277.out 3) | ((with_reducible refine gate_callee (f := 69) rfl ?_); refine goesL_ (some 4) rfl rfl Try.func69 (by kernel_rfl) rfl #[.agg #[.slice A0_0 l0_0.length c0_0, .slice A0_1 l0_1.length c0_1, .slice A0_2 l0_2.length c0_2, .slice A0_3 l0_3.length c0_3]] rfl gQ ?_; (with_reducible refine (impl_ValidRule.calls k _ _ l0_0 _ _ l0_1 _ _ l0_2 _ _ l0_3 true _ ?side1 ?side2 ?side3 ?side4 ?side5 ?side6 ?side7 ?side8 A2.out).mono ?_); (case side1 => exact cQ HR0_0.out); (case side2 => exact HC0_0.out); (case side3 => exact cQ HR0_1.out); (case side4 => exact HC0_1.out); (case side5 => exact cQ HR0_2.out); (case side6 => exact HC0_2.out); (case side7 => exact cQ HR0_3.out); (case side8 => exact HC0_3.out); rintro e w17 ⟨rfl, hb⟩; refine ⟨_, rfl, ?_⟩; have n0_ := aM (blk_below (g := gb277) (o := .cells #[.slice A0_0 l0_0.length c0_0, .slice A0_1 l0_1.length c0_1, .slice A0_2 l0_2.length c0_2, .slice A0_3 l0_3.length c0_3] 38 (0, 0)) (by (with_reducible repeat (first | refine blk_drewN ?_ _ | refine blk_drew ?_ | refine blk_alloc ?_ _)); exact BK277.out) hb); have n1_ := aM (below_step (by repeat (first | (with_reducible first | exact HB.out | apply bA | apply bN | apply bD | refine below_set ?_ GE277.out) | exact HB.out)) hb); clear BK277; clear HB; have BK277 := n0_; have HB := n1_; clear n0_ n1_; (try clear hb); (try clear hb2); (try clear hk); (try clear hi)))
         have n0_ := aM (blk_drew BK277.out)
         have n1_ := aM (below_drew1 HB.out)
         clear BK277
         clear HB
         have BK277 := n0_
         have HB := n1_
         clear n0_ n1_
         refine start_ (n := 20) (S := fun w' => w'.cell? ⟨gb277, 0, none⟩ = some (.slice A0_0 l0_0.length c0_0) ∧ w'.cell? ⟨gb277, 1, none⟩ = some (.slice A0_1 l0_1.length c0_1) ∧ w'.cell? ⟨gb277, 2, none⟩ = some (.slice A0_2 l0_2.length c0_2) ∧ w'.cell? ⟨gb277, 3, none⟩ = some (.slice A0_3 l0_3.length c0_3)) (ds := []) mkimpl_RuleText_0 (by kernel_rfl) rfl rfl ⟨(blk_cell BK277.out 0).trans rfl, (blk_cell BK277.out 1).trans rfl, (blk_cell BK277.out 2).trans rfl, (blk_cell BK277.out 3).trans rfl⟩ (fun hHeld => ?_); refine with_tabW impl_RuleText.tab3 impl_RuleText.bits3 (fun HT_ HW_ => ?_)
         generalize w17.drew = w18 at BK277 HB hHeld ⊢
         refine pQ (i := 0) (N := some 6) mkimpl_RuleText_1 ?_
         refine pQ (i := 5) (N := some 11) mkimpl_RuleText_2 ?_
         refine pQ (i := 10) (N := some 16) mkimpl_RuleText_3 ?_
         refine pQ (i := 15) (N := some 21) mkimpl_RuleText_4 ?_
         refine tQ (i := 1) (N := some 7) mkimpl_RuleText_5 rfl hHeld (Or.inl ⟨by rfl, by rintro w' ⟨s0, s1, s2, s3⟩; go_simp; with_reducible rfl⟩) ?_
         refine tQ (i := 6) (N := some 12) mkimpl_RuleText_6 rfl hHeld (Or.inl ⟨by rfl, by rintro w' ⟨s0, s1, s2, s3⟩; go_simp; with_reducible rfl⟩) ?_
         refine tQ (i := 11) (N := some 17) mkimpl_RuleText_7 rfl hHeld (Or.inl ⟨by rfl, by rintro w' ⟨s0, s1, s2, s3⟩; go_simp; with_reducible rfl⟩) ?_
         refine tQ (i := 16) (N := some 22) mkimpl_RuleText_8 rfl hHeld (Or.inl ⟨by rfl, by rintro w' ⟨s0, s1, s2, s3⟩; go_simp; with_reducible rfl⟩) ?_
         refine one_ (i := 2) (N := some 8) mkimpl_RuleText_9 rfl rfl (one_of HT_.out (by kernel_rfl)) (by decide) (fun K hK => ?_)
         refine goes_ Try.func70 (by kernel_rfl) rfl #[.slice A0_0 l0_0.length c0_0] (by rfl) rfl rfl gQ ?_
         with_reducible refine (impl_classesText.calls k _ _ l0_0 t279 _ ?side1 ?side2 A4.out).mono ?_
         (case side1 => exact cQ HR0_0.out)
         (case side2 => exact HC0_0.out)
         rintro e w19 ⟨rfl, hb⟩
         refine ⟨_, rfl, ?_⟩
         have n0_ := aM (blk_below (g := gb277) (o := .cells #[.slice A0_0 l0_0.length c0_0, .slice A0_1 l0_1.length c0_1, .slice A0_2 l0_2.length c0_2, .slice A0_3 l0_3.length c0_3] 38 (0, 0)) (by (with_reducible repeat (first | refine blk_drewN ?_ _ | refine blk_drew ?_ | refine blk_alloc ?_ _)); exact BK277.out) hb)
         have n1_ := aM (below_step (by repeat (first | (with_reducible first | exact HB.out | apply bA | apply bN | apply bD | refine below_set ?_ GE277.out) | exact HB.out)) hb)
         clear BK277
         clear HB
         have BK277 := n0_
         have HB := n1_
         clear n0_ n1_
         (try clear hb)
         (try clear hb2)
         (try clear hk)
         (try clear hi)
         refine hK.out _ _ ⟨(blk_cell BK277.out 0).trans rfl, (blk_cell BK277.out 1).trans rfl, (blk_cell BK277.out 2).trans rfl, (blk_cell BK277.out 3).trans rfl⟩ (fun hHeld => ?_)
         clear hK K
         refine norm_ (a' := ?_) ?_ ?_
         rotate_left
         ·show Act.put _ (some 8) _ = _
          simp only [Act.put, sI, sZ, sS, i64_w, i32_w]
          rfl
         refine pQ (i := 3) (N := some 9) mkimpl_RuleText_10 ?_
         refine pQ (i := 4) (N := some 10) mkimpl_RuleText_11 ?_
         refine one_ (i := 7) (N := some 13) mkimpl_RuleText_12 rfl rfl (one_of HT_.out (by kernel_rfl)) (by decide) (fun K hK => ?_)
         refine goes_ Try.func70 (by kernel_rfl) rfl #[.slice A0_1 l0_1.length c0_1] (by rfl) rfl rfl gQ ?_
         with_reducible refine (impl_classesText.calls k _ _ l0_1 t280 _ ?side1 ?side2 A7.out).mono ?_
         (case side1 => exact cQ HR0_1.out)
         (case side2 => exact HC0_1.out)
         rintro e w20 ⟨rfl, hb⟩
         refine ⟨_, rfl, ?_⟩
         have n0_ := aM (blk_below (g := gb277) (o := .cells #[.slice A0_0 l0_0.length c0_0, .slice A0_1 l0_1.length c0_1, .slice A0_2 l0_2.length c0_2, .slice A0_3 l0_3.length c0_3] 38 (0, 0)) (by (with_reducible repeat (first | refine blk_drewN ?_ _ | refine blk_drew ?_ | refine blk_alloc ?_ _)); exact BK277.out) hb)
         have n1_ := aM (below_step (by repeat (first | (with_reducible first | exact HB.out | apply bA | apply bN | apply bD | refine below_set ?_ GE277.out) | exact HB.out)) hb)
         clear BK277
         clear HB
         have BK277 := n0_
         have HB := n1_
         clear n0_ n1_
         (try clear hb)
         (try clear hb2)
         (try clear hk)
         (try clear hi)
         refine hK.out _ _ ⟨(blk_cell BK277.out 0).trans rfl, (blk_cell BK277.out 1).trans rfl, (blk_cell BK277.out 2).trans rfl, (blk_cell BK277.out 3).trans rfl⟩ (fun hHeld => ?_)
         clear hK K
         refine norm_ (a' := ?_) ?_ ?_
         rotate_left
         ·show Act.put _ (some 13) _ = _
          simp only [Act.put, sI, sZ, sS, i64_w, i32_w]
          rfl
         refine pQ (i := 8) (N := some 14) mkimpl_RuleText_13 ?_
         refine pQ (i := 9) (N := some 15) mkimpl_RuleText_14 ?_
         refine one_ (i := 12) (N := some 18) mkimpl_RuleText_15 rfl rfl (one_of HT_.out (by kernel_rfl)) (by decide) (fun K hK => ?_)
         refine goes_ Try.func70 (by kernel_rfl) rfl #[.slice A0_2 l0_2.length c0_2] (by rfl) rfl rfl gQ ?_
         with_reducible refine (impl_classesText.calls k _ _ l0_2 t281 _ ?side1 ?side2 A10.out).mono ?_
         (case side1 => exact cQ HR0_2.out)
         (case side2 => exact HC0_2.out)
         rintro e w21 ⟨rfl, hb⟩
         refine ⟨_, rfl, ?_⟩
         have n0_ := aM (blk_below (g := gb277) (o := .cells #[.slice A0_0 l0_0.length c0_0, .slice A0_1 l0_1.length c0_1, .slice A0_2 l0_2.length c0_2, .slice A0_3 l0_3.length c0_3] 38 (0, 0)) (by (with_reducible repeat (first | refine blk_drewN ?_ _ | refine blk_drew ?_ | refine blk_alloc ?_ _)); exact BK277.out) hb)
         have n1_ := aM (below_step (by repeat (first | (with_reducible first | exact HB.out | apply bA | apply bN | apply bD | refine below_set ?_ GE277.out) | exact HB.out)) hb)
         clear BK277
         clear HB
         have BK277 := n0_
         have HB := n1_
         clear n0_ n1_
         (try clear hb)
         (try clear hb2)
         (try clear hk)
         (try clear hi)
         refine hK.out _ _ ⟨(blk_cell BK277.out 0).trans rfl, (blk_cell BK277.out 1).trans rfl, (blk_cell BK277.out 2).trans rfl, (blk_cell BK277.out 3).trans rfl⟩ (fun hHeld => ?_)
         clear hK K
         refine norm_ (a' := ?_) ?_ ?_
         rotate_left
         ·show Act.put _ (some 18) _ = _
          simp only [Act.put, sI, sZ, sS, i64_w, i32_w]
          rfl
         refine pQ (i := 13) (N := some 19) mkimpl_RuleText_16 ?_
         refine pQ (i := 14) (N := some 20) mkimpl_RuleText_17 ?_
         refine one_ (i := 17) (N := some 23) mkimpl_RuleText_18 rfl rfl (one_of HT_.out (by kernel_rfl)) (by decide) (fun K hK => ?_)
         refine goes_ Try.func71 (by kernel_rfl) rfl #[.slice A0_3 l0_3.length c0_3] (by rfl) rfl rfl gQ ?_
         with_reducible refine (impl_numbersText.calls k _ _ l0_3 t282 _ ?side1 ?side2 A13.out).mono ?_
         (case side1 => exact cQ HR0_3.out)
         (case side2 => exact HC0_3.out)
         rintro e w22 ⟨rfl, hb⟩
         refine ⟨_, rfl, ?_⟩
         have n0_ := aM (blk_below (g := gb277) (o := .cells #[.slice A0_0 l0_0.length c0_0, .slice A0_1 l0_1.length c0_1, .slice A0_2 l0_2.length c0_2, .slice A0_3 l0_3.length c0_3] 38 (0, 0)) (by (with_reducible repeat (first | refine blk_drewN ?_ _ | refine blk_drew ?_ | refine blk_alloc ?_ _)); exact BK277.out) hb)
         have n1_ := aM (below_step (by repeat (first | (with_reducible first | exact HB.out | apply bA | apply bN | apply bD | refine below_set ?_ GE277.out) | exact HB.out)) hb)
         clear BK277
         clear HB
         have BK277 := n0_
         have HB := n1_
         clear n0_ n1_
         (try clear hb)
         (try clear hb2)
         (try clear hk)
         (try clear hi)
         refine hK.out _ _ ⟨(blk_cell BK277.out 0).trans rfl, (blk_cell BK277.out 1).trans rfl, (blk_cell BK277.out 2).trans rfl, (blk_cell BK277.out 3).trans rfl⟩ (fun hHeld => ?_)
         clear hK K
         refine norm_ (a' := ?_) ?_ ?_
         rotate_left
         ·show Act.put _ (some 23) _ = _
          simp only [Act.put, sI, sZ, sS, i64_w, i32_w]
          rfl
         refine pQ (i := 18) (N := some 24) mkimpl_RuleText_19 ?_
         refine pQ (i := 19) (N := some 2) mkimpl_RuleText_20 ?_
         refine done_ (done_of HT_.out (by kernel_rfl)) ?_
         try go_wp2
         go_ret
         exact ⟨eQ, by repeat (first | (with_reducible first | exact HB.out | apply bA | apply bN | apply bD | refine below_set ?_ GE277.out) | exact HB.out)⟩
        ·rw [if_neg c14] at H
         exact absurd H (by simp)
       ·rw [if_neg c12] at H
        exact absurd H (by simp)
      ·rw [if_neg c11] at H
       exact absurd H (by simp)
     ·rw [if_neg c9] at H
      exact absurd H (by simp)
    ·rw [if_neg c8] at H
     exact absurd H (by simp)
   ·rw [if_neg c6] at H
    exact absurd H (by simp)
  ·rw [if_neg c5] at H
   exact absurd H (by simp)
 ·replace c3 := Bool.eq_false_iff.mpr c3
  subst c3
  have H1 : (some (⟨#[]⟩ : ByteArray)) = some r := by rw [if_neg (show ¬ (false = true) by decide)] at H; exact H
  clear H
  have H := H1
  clear H1
  obtain rfl := Option.some.inj H
  go_enter Try.func25, Try.ntmps25
  go_wp2_with (first | ((with_reducible refine gate_dst (N := 1) rfl ?_); refine box_event ?hg (N := 1) ?hd (cs := #[.slice A0_0 l0_0.length c0_0, .slice A0_1 l0_1.length c0_1, .slice A0_2 l0_2.length c0_2, .slice A0_3 l0_3.length c0_3]) (t := 38) ?hr ?_; (case hd => rfl); (case hg => rfl); (case hr => first | (go_simp; done) | (go_simp; rfl)); intro gb277 hg w23 hbox hb; have n0_ := aM (below_step bQ hb); have n1_ := aM (hbox); have n2_ := aM ((by rw [hg]; exact (below_size bQ) : w.heap.size ≤ gb277)); have n3_ := aM ((by rw [hg]; exact (below_size bQ) : w.heap.size ≤ gb277)); clear HB; have HB := n0_; have BK277 := n1_; have GW277 := n2_; have GE277 := n3_; clear n0_ n1_ n2_ n3_; clear hb hbox hg; have hcz24_0 : w23.cell? ⟨gb277, 0, none⟩ = some (.slice A0_0 l0_0.length c0_0) := (blk_cell BK277.out 0).trans rfl; have hcz24_1 : w23.cell? ⟨gb277, 1, none⟩ = some (.slice A0_1 l0_1.length c0_1) := (blk_cell BK277.out 1).trans rfl; have hcz24_2 : w23.cell? ⟨gb277, 2, none⟩ = some (.slice A0_2 l0_2.length c0_2) := (blk_cell BK277.out 2).trans rfl; have hcz24_3 : w23.cell? ⟨gb277, 3, none⟩ = some (.slice A0_3 l0_3.length c0_3) := (blk_cell BK277.out 3).trans rfl; have hfz24_0 := blk_frozen BK277.out 0; have hfz24_1 := blk_frozen BK277.out 1; have hfz24_2 := blk_frozen BK277.out 2; have hfz24_3 := blk_frozen BK277.out 3) | ((with_reducible refine gate_callee (f := 69) rfl ?_); refine goesL_ (some 4) rfl rfl Try.func69 (by kernel_rfl) rfl #[.agg #[.slice A0_0 l0_0.length c0_0, .slice A0_1 l0_1.length c0_1, .slice A0_2 l0_2.length c0_2, .slice A0_3 l0_3.length c0_3]] rfl gQ ?_; (with_reducible refine (impl_ValidRule.calls k _ _ l0_0 _ _ l0_1 _ _ l0_2 _ _ l0_3 false _ ?side1 ?side2 ?side3 ?side4 ?side5 ?side6 ?side7 ?side8 A2.out).mono ?_); (case side1 => exact cQ HR0_0.out); (case side2 => exact HC0_0.out); (case side3 => exact cQ HR0_1.out); (case side4 => exact HC0_1.out); (case side5 => exact cQ HR0_2.out); (case side6 => exact HC0_2.out); (case side7 => exact cQ HR0_3.out); (case side8 => exact HC0_3.out); rintro e w25 ⟨rfl, hb⟩; refine ⟨_, rfl, ?_⟩; have n0_ := aM (blk_below (g := gb277) (o := .cells #[.slice A0_0 l0_0.length c0_0, .slice A0_1 l0_1.length c0_1, .slice A0_2 l0_2.length c0_2, .slice A0_3 l0_3.length c0_3] 38 (0, 0)) (by (with_reducible repeat (first | refine blk_drewN ?_ _ | refine blk_drew ?_ | refine blk_alloc ?_ _)); exact BK277.out) hb); have n1_ := aM (below_step (by repeat (first | (with_reducible first | exact HB.out | apply bA | apply bN | apply bD | refine below_set ?_ GE277.out) | exact HB.out)) hb); clear BK277; clear HB; have BK277 := n0_; have HB := n1_; clear n0_ n1_; (try clear hb); (try clear hb2); (try clear hk); (try clear hi)))
  go_ret
  exact ⟨eQ, by repeat (first | (with_reducible first | exact HB.out | apply bA | apply bN | apply bD | refine below_set ?_ GE277.out) | exact HB.out)⟩

/-! ### laws_eqInt64S: function 15 -/
def laws_eqInt64S.l0 : Nat → List Int → List Int → Int → Option (Bool)
 | 0, _, _, _ => none
 | k + 1, x0, x1, x5 => if x5 < (x0.length : Int) then (if 0 ≤ x5 then (if x5 < (x1.length : Int) then (if (rd x0 x5) = (rd x1 x5) then (laws_eqInt64S.l0 k x0 x1 (wrap64 (x5 + 1))) else (some false)) else (none)) else (none)) else (some true)
def laws_eqInt64S.f (k : Nat) (l0 : List Int) (l1 : List Int) : Option (Bool) := if (l0.length : Int) = (l1.length : Int) then (laws_eqInt64S.l0 k l0 l1 0) else (some false)
theorem laws_eqInt64S.mono_l : ∀ k, (∀ y0 y1 y2, LeO (laws_eqInt64S.l0 k y0 y1 y2) (laws_eqInt64S.l0 (k + 1) y0 y1 y2))
 | 0 => fun _ _ _ r h => by simp [laws_eqInt64S.l0] at h
 | k + 1 => by
  have ih0 := laws_eqInt64S.mono_l k
  ·intro y0 y1 y2
   unfold laws_eqInt64S.l0
   repeat' first
   | (with_reducible exact ih0 _ _ _)
   | (with_reducible exact LeO.refl _)
   | (with_reducible exact LeO.none _)
   | (with_reducible refine LeO.ite ?_ ?_)
   | (with_reducible refine LeO.bind ?_ (fun _ => ?_))
   | exact ih0 _ _ _
   | exact LeO.none _
   | refine LeO.ite ?_ ?_
   | refine LeO.bind ?_ (fun _ => ?_)
theorem laws_eqInt64S.mono : ∀ a0 a1 k, LeO (laws_eqInt64S.f k a0 a1) (laws_eqInt64S.f (k + 1) a0 a1) := by
 intro a0 a1 k
 have ih0 := laws_eqInt64S.mono_l k
 unfold laws_eqInt64S.f
 repeat' first
   | (with_reducible exact ih0 _ _ _)
   | (with_reducible exact LeO.refl _)
   | (with_reducible exact LeO.none _)
   | (with_reducible refine LeO.ite ?_ ?_)
   | (with_reducible refine LeO.bind ?_ (fun _ => ?_))
   | exact ih0 _ _ _
   | exact LeO.none _
   | refine LeO.ite ?_ ?_
   | refine LeO.bind ?_ (fun _ => ?_)
set_option maxHeartbeats 8000000 in
set_option maxRecDepth 100000 in
theorem laws_eqInt64S.calls (k : Nat) (A0 : Option Addr) (c0 : Nat) (l0 : List Int) (A1 : Option Addr) (c1 : Nat) (l1 : List Int) (r : Bool) (w : World) (hr0 : Kd.C (Kd.int .i64) w A0 l0.length l0) (hc0 : l0.length ≤ c0) (hr1 : Kd.C (Kd.int .i64) w A1 l1.length l1) (hc1 : l1.length ≤ c1) (h : laws_eqInt64S.f k l0 l1 = some r) :
  Calls Try.prog 15 #[.slice A0 l0.length c0, .slice A1 l1.length c1] w fun e w' => e = .returned (.bool r) ∧ Drawn0 w w' := by
 have HR0 := aM hr0
 have HC0 := aM hc0
 clear hr0 hc0
 have HR1 := aM hr1
 have HC1 := aM hc1
 clear hr1 hc1
 have H : (if (l0.length : Int) = (l1.length : Int) then (laws_eqInt64S.l0 k l0 l1 0) else (some false)) = some r := h
 clear h
 by_cases c3 : (l0.length : Int) = (l1.length : Int)
 ·rw [if_pos c3] at H
  have c3b0 : ((l0.length : Int) == (l1.length : Int)) = true := beq_iff_eq.mpr c3
  have c3b1 : ((l0.length : Int) != (l1.length : Int)) = false := bne_eq_false_iff_eq.mpr c3
  have c3b2 : (l0.length == l1.length) = true := by first | simpa using c3 | (simp at c3 ⊢; omega)
  clear c3
  have H' := aM H
  clear H
  go_enter Try.func15, Try.ntmps15
  go_wp2
  repeat (go_quiet (fail); try go_wp2)
  go_loopg [5] k (fun kq v5 w' => ∃ (x5_1 : Int), v5 = .int .i64 x5_1 ∧ Aside0 (laws_eqInt64S.l0 kq l0 l1 x5_1 = some r) ∧ Aside0 (kq ≤ k) ∧ Drawn0 w w')
  case atStart => exact ⟨(0), rQ, H', ⟨Nat.le_refl _⟩, by repeat (first | exact Drawn0.refl _ | apply Drawn0.step)⟩
  case round =>
   clear H'
   try clear c1
   try clear p2
   try clear c3
   try clear c3b0
   try clear c3b1
   try clear c3b2
   obtain ⟨x5_1, rfl, HA, HK1, ⟨m1, rfl⟩⟩ := hrel
   cases gk with
   | zero => exact absurd HA.out (by simp [laws_eqInt64S.l0])
   | succ k1 =>
    have H := HA.out
    clear HA
    simp only [laws_eqInt64S.l0] at H
    by_cases c4 : x5_1 < (l0.length : Int)
    ·rw [if_pos c4] at H
     have c4b0 : decide (x5_1 < (l0.length : Int)) = true := decide_eq_true c4
     clear c4
     by_cases c5 : 0 ≤ x5_1
     ·rw [if_pos c5] at H
      have c5b0 : decide (0 ≤ x5_1) = true := decide_eq_true c5
      clear c5
      by_cases c6 : x5_1 < (l1.length : Int)
      ·rw [if_pos c6] at H
       have c6b0 : decide (x5_1 < (l1.length : Int)) = true := decide_eq_true c6
       clear c6
       by_cases c7 : (rd l0 x5_1) = (rd l1 x5_1)
       ·rw [if_pos c7] at H
        have c7b0 : ((rd l0 x5_1) == (rd l1 x5_1)) = true := beq_iff_eq.mpr c7
        have c7b1 : ((rd l0 x5_1) != (rd l1 x5_1)) = false := bne_eq_false_iff_eq.mpr c7
        clear c7
        have H' := aM H
        clear H
        have p283 : 0 ≤ (x5_1 : Int) := dA
        have q283 : x5_1 < (l0.length : Int) := dA
        obtain ⟨ad283, e283, hx283_0⟩ := Kd.at_int HR0.out x5_1 p283 q283
        cases e283
        replace p283 := eq_true p283
        replace q283 := eq_true q283
        have p284 : 0 ≤ (x5_1 : Int) := dA
        have q284 : x5_1 < (l1.length : Int) := dA
        obtain ⟨ad284, e284, hx284_0⟩ := Kd.at_int HR1.out x5_1 p284 q284
        cases e284
        replace p284 := eq_true p284
        replace q284 := eq_true q284
        go_wp2
        repeat (go_quiet (fail); try go_wp2)
        go_roundg k1
        case measure => have := HK1.out; omega
        case rel => exact ⟨(wrap64 (x5_1 + 1)), rQ, H', ⟨by have := HK1.out; omega⟩, by repeat (first | exact Drawn0.refl _ | apply Drawn0.step)⟩
       ·rw [if_neg c7] at H
        have c7b0 : ((rd l0 x5_1) == (rd l1 x5_1)) = false := beq_eq_false_iff_ne.mpr c7
        have c7b1 : ((rd l0 x5_1) != (rd l1 x5_1)) = true := bne_iff_ne.mpr c7
        obtain rfl := Option.some.inj H
        have p283 : 0 ≤ (x5_1 : Int) := dA
        have q283 : x5_1 < (l0.length : Int) := dA
        obtain ⟨ad283, e283, hx283_0⟩ := Kd.at_int HR0.out x5_1 p283 q283
        cases e283
        replace p283 := eq_true p283
        replace q283 := eq_true q283
        have p284 : 0 ≤ (x5_1 : Int) := dA
        have q284 : x5_1 < (l1.length : Int) := dA
        obtain ⟨ad284, e284, hx284_0⟩ := Kd.at_int HR1.out x5_1 p284 q284
        cases e284
        replace p284 := eq_true p284
        replace q284 := eq_true q284
        go_wp2
        repeat (go_quiet (fail); try go_wp2)
        go_ret
        exact ⟨rQ, by repeat (first | exact Drawn0.refl _ | apply Drawn0.step)⟩
      ·rw [if_neg c6] at H
       exact absurd H (by simp)
     ·rw [if_neg c5] at H
      exact absurd H (by simp)
    ·rw [if_neg c4] at H
     have c4b0 : decide (x5_1 < (l0.length : Int)) = false := decide_eq_false c4
     clear c4
     obtain rfl := Option.some.inj H
     go_wp2
     repeat (go_quiet (fail); try go_wp2)
     go_ret
     exact ⟨rQ, by repeat (first | exact Drawn0.refl _ | apply Drawn0.step)⟩
 ·rw [if_neg c3] at H
  have c3b0 : ((l0.length : Int) == (l1.length : Int)) = false := beq_eq_false_iff_ne.mpr c3
  have c3b1 : ((l0.length : Int) != (l1.length : Int)) = true := bne_iff_ne.mpr c3
  have c3b2 : (l0.length == l1.length) = false := by first | simpa using c3 | (simp at c3 ⊢; omega)
  obtain rfl := Option.some.inj H
  go_enter Try.func15, Try.ntmps15
  go_wp2
  repeat (go_quiet (fail); try go_wp2)
  go_ret
  exact ⟨rQ, by repeat (first | exact Drawn0.refl _ | apply Drawn0.step)⟩

/-! ### laws_eqInt64SS: function 72 -/
def laws_eqInt64SS.l0 : Nat → List (List Int) → List (List Int) → Int → Option (Bool)
 | 0, _, _, _ => none
 | k + 1, x0, x1, x5 => if x5 < (x0.length : Int) then (if 0 ≤ x5 then (if x5 < (x1.length : Int) then ((laws_eqInt64S.f k (rd_L1 x0 x5) (rd_L1 x1 x5)).bind fun t287 => (if t287 = true then (laws_eqInt64SS.l0 k x0 x1 (wrap64 (x5 + 1))) else (some false))) else (none)) else (none)) else (some true)
def laws_eqInt64SS.f (k : Nat) (l0 : List (List Int)) (l1 : List (List Int)) : Option (Bool) := if (l0.length : Int) = (l1.length : Int) then (laws_eqInt64SS.l0 k l0 l1 0) else (some false)
theorem laws_eqInt64SS.mono_l : ∀ k, (∀ y0 y1 y2, LeO (laws_eqInt64SS.l0 k y0 y1 y2) (laws_eqInt64SS.l0 (k + 1) y0 y1 y2))
 | 0 => fun _ _ _ r h => by simp [laws_eqInt64SS.l0] at h
 | k + 1 => by
  have ih0 := laws_eqInt64SS.mono_l k
  ·intro y0 y1 y2
   unfold laws_eqInt64SS.l0
   repeat' first
   | (with_reducible exact ih0 _ _ _)
   | (with_reducible exact laws_eqInt64S.mono _ _ _)
   | (with_reducible exact LeO.refl _)
   | (with_reducible exact LeO.none _)
   | (with_reducible refine LeO.ite ?_ ?_)
   | (with_reducible refine LeO.bind ?_ (fun _ => ?_))
   | exact ih0 _ _ _
   | exact laws_eqInt64S.mono _ _ _
   | exact LeO.none _
   | refine LeO.ite ?_ ?_
   | refine LeO.bind ?_ (fun _ => ?_)
theorem laws_eqInt64SS.mono : ∀ a0 a1 k, LeO (laws_eqInt64SS.f k a0 a1) (laws_eqInt64SS.f (k + 1) a0 a1) := by
 intro a0 a1 k
 have ih0 := laws_eqInt64SS.mono_l k
 unfold laws_eqInt64SS.f
 repeat' first
   | (with_reducible exact ih0 _ _ _)
   | (with_reducible exact laws_eqInt64S.mono _ _ _)
   | (with_reducible exact LeO.refl _)
   | (with_reducible exact LeO.none _)
   | (with_reducible refine LeO.ite ?_ ?_)
   | (with_reducible refine LeO.bind ?_ (fun _ => ?_))
   | exact ih0 _ _ _
   | exact laws_eqInt64S.mono _ _ _
   | exact LeO.none _
   | refine LeO.ite ?_ ?_
   | refine LeO.bind ?_ (fun _ => ?_)
set_option maxHeartbeats 8000000 in
set_option maxRecDepth 100000 in
theorem laws_eqInt64SS.calls (k : Nat) (A0 : Option Addr) (c0 : Nat) (l0 : List (List Int)) (A1 : Option Addr) (c1 : Nat) (l1 : List (List Int)) (r : Bool) (w : World) (hr0 : Kd.C (Kd.slice 2 (Kd.int .i64)) w A0 l0.length l0) (hc0 : l0.length ≤ c0) (hr1 : Kd.C (Kd.slice 2 (Kd.int .i64)) w A1 l1.length l1) (hc1 : l1.length ≤ c1) (h : laws_eqInt64SS.f k l0 l1 = some r) :
  Calls Try.prog 72 #[.slice A0 l0.length c0, .slice A1 l1.length c1] w fun e w' => e = .returned (.bool r) ∧ Drawn0 w w' := by
 have HR0 := aM hr0
 have HC0 := aM hc0
 clear hr0 hc0
 have HR1 := aM hr1
 have HC1 := aM hc1
 clear hr1 hc1
 have H : (if (l0.length : Int) = (l1.length : Int) then (laws_eqInt64SS.l0 k l0 l1 0) else (some false)) = some r := h
 clear h
 by_cases c3 : (l0.length : Int) = (l1.length : Int)
 ·rw [if_pos c3] at H
  have c3b0 : ((l0.length : Int) == (l1.length : Int)) = true := beq_iff_eq.mpr c3
  have c3b1 : ((l0.length : Int) != (l1.length : Int)) = false := bne_eq_false_iff_eq.mpr c3
  have c3b2 : (l0.length == l1.length) = true := by first | simpa using c3 | (simp at c3 ⊢; omega)
  clear c3
  have H' := aM H
  clear H
  go_enter Try.func72, Try.ntmps72
  go_wp2
  repeat (go_quiet (fail); try go_wp2)
  go_loopg [5] k (fun kq v5 w' => ∃ (x5_1 : Int), v5 = .int .i64 x5_1 ∧ Aside0 (laws_eqInt64SS.l0 kq l0 l1 x5_1 = some r) ∧ Aside0 (kq ≤ k) ∧ Drawn0 w w')
  case atStart => exact ⟨(0), rQ, H', ⟨Nat.le_refl _⟩, by repeat (first | exact Drawn0.refl _ | apply Drawn0.step)⟩
  case round =>
   clear H'
   try clear c1
   try clear p2
   try clear c3
   try clear c3b0
   try clear c3b1
   try clear c3b2
   obtain ⟨x5_1, rfl, HA, HK1, ⟨m1, rfl⟩⟩ := hrel
   cases gk with
   | zero => exact absurd HA.out (by simp [laws_eqInt64SS.l0])
   | succ k1 =>
    have H := HA.out
    clear HA
    simp only [laws_eqInt64SS.l0] at H
    by_cases c4 : x5_1 < (l0.length : Int)
    ·rw [if_pos c4] at H
     have c4b0 : decide (x5_1 < (l0.length : Int)) = true := decide_eq_true c4
     clear c4
     by_cases c5 : 0 ≤ x5_1
     ·rw [if_pos c5] at H
      have c5b0 : decide (0 ≤ x5_1) = true := decide_eq_true c5
      clear c5
      by_cases c6 : x5_1 < (l1.length : Int)
      ·rw [if_pos c6] at H
       have c6b0 : decide (x5_1 < (l1.length : Int)) = true := decide_eq_true c6
       clear c6
       replace H := Option.bind_eq_some_iff.mp H
       obtain ⟨t287, A70, H⟩ := H
       replace H : (if t287 = true then (laws_eqInt64SS.l0 k1 l0 l1 (wrap64 (x5_1 + 1))) else (some false)) = some r := H
       have A7 := aM A70
       clear A70
       by_cases c8 : t287 = true
       ·subst c8
        have H1 : (laws_eqInt64SS.l0 k1 l0 l1 (wrap64 (x5_1 + 1))) = some r := by rw [if_pos rfl] at H; exact H
        clear H
        have H := H1
        clear H1
        have H' := aM H
        clear H
        have p285 : 0 ≤ (x5_1 : Int) := dA
        have q285 : x5_1 < (l0.length : Int) := dA
        obtain ⟨ad285, A285_0, c285_0, e285, hx285_0, hl285_0, hi285_0⟩ := at_L1 HR0.out x5_1 p285 q285
        cases e285
        have HR285_0 := aM hi285_0
        have HC285_0 := aM hl285_0
        clear hi285_0 hl285_0
        replace p285 := eq_true p285
        replace q285 := eq_true q285
        have p286 : 0 ≤ (x5_1 : Int) := dA
        have q286 : x5_1 < (l1.length : Int) := dA
        obtain ⟨ad286, A286_0, c286_0, e286, hx286_0, hl286_0, hi286_0⟩ := at_L1 HR1.out x5_1 p286 q286
        cases e286
        have HR286_0 := aM hi286_0
        have HC286_0 := aM hl286_0
        clear hi286_0 hl286_0
        replace p286 := eq_true p286
        replace q286 := eq_true q286
        go_wp2_with (first | (go_at_call 15; (with_reducible refine (laws_eqInt64S.calls k1 _ _ (rd_L1 l0 x5_1) _ _ (rd_L1 l1 x5_1) true _ ?side1 ?side2 ?side3 ?side4 A7.out).mono ?_); (case side1 => repeat (first | exact HR285_0.out | (with_reducible first | refine cA ?_ _ | refine cN ?_ _ | refine cD ?_))); (case side2 => exact HC285_0.out); (case side3 => repeat (first | exact HR286_0.out | (with_reducible first | refine cA ?_ _ | refine cN ?_ _ | refine cD ?_))); (case side4 => exact HC286_0.out); rintro e w' ⟨rfl, ⟨nd, rfl⟩⟩; (try first | exact ⟨rfl, _, World.drewN_drewN _ _ _⟩ | exact ⟨rfl, _, Eq.trans (World.drewN_drewN _ _ _) (congrArg (World.drewN _) (Nat.add_assoc _ _ _))⟩)))
        repeat (go_quiet (first | (go_at_call 15; (with_reducible refine (laws_eqInt64S.calls k1 _ _ (rd_L1 l0 x5_1) _ _ (rd_L1 l1 x5_1) true _ ?side1 ?side2 ?side3 ?side4 A7.out).mono ?_); (case side1 => repeat (first | exact HR285_0.out | (with_reducible first | refine cA ?_ _ | refine cN ?_ _ | refine cD ?_))); (case side2 => exact HC285_0.out); (case side3 => repeat (first | exact HR286_0.out | (with_reducible first | refine cA ?_ _ | refine cN ?_ _ | refine cD ?_))); (case side4 => exact HC286_0.out); rintro e w' ⟨rfl, ⟨nd, rfl⟩⟩; (try first | exact ⟨rfl, _, World.drewN_drewN _ _ _⟩ | exact ⟨rfl, _, Eq.trans (World.drewN_drewN _ _ _) (congrArg (World.drewN _) (Nat.add_assoc _ _ _))⟩))); try go_wp2_with (first | (go_at_call 15; (with_reducible refine (laws_eqInt64S.calls k1 _ _ (rd_L1 l0 x5_1) _ _ (rd_L1 l1 x5_1) true _ ?side1 ?side2 ?side3 ?side4 A7.out).mono ?_); (case side1 => repeat (first | exact HR285_0.out | (with_reducible first | refine cA ?_ _ | refine cN ?_ _ | refine cD ?_))); (case side2 => exact HC285_0.out); (case side3 => repeat (first | exact HR286_0.out | (with_reducible first | refine cA ?_ _ | refine cN ?_ _ | refine cD ?_))); (case side4 => exact HC286_0.out); rintro e w' ⟨rfl, ⟨nd, rfl⟩⟩; (try first | exact ⟨rfl, _, World.drewN_drewN _ _ _⟩ | exact ⟨rfl, _, Eq.trans (World.drewN_drewN _ _ _) (congrArg (World.drewN _) (Nat.add_assoc _ _ _))⟩))))
        go_roundg k1
        case measure => have := HK1.out; omega
        case rel => exact ⟨(wrap64 (x5_1 + 1)), rQ, H', ⟨by have := HK1.out; omega⟩, by repeat (first | exact Drawn0.refl _ | apply Drawn0.step)⟩
       ·replace c8 := Bool.eq_false_iff.mpr c8
        subst c8
        have H1 : (some false) = some r := by rw [if_neg (show ¬ (false = true) by decide)] at H; exact H
        clear H
        have H := H1
        clear H1
        obtain rfl := Option.some.inj H
        have p285 : 0 ≤ (x5_1 : Int) := dA
        have q285 : x5_1 < (l0.length : Int) := dA
        obtain ⟨ad285, A285_0, c285_0, e285, hx285_0, hl285_0, hi285_0⟩ := at_L1 HR0.out x5_1 p285 q285
        cases e285
        have HR285_0 := aM hi285_0
        have HC285_0 := aM hl285_0
        clear hi285_0 hl285_0
        replace p285 := eq_true p285
        replace q285 := eq_true q285
        have p286 : 0 ≤ (x5_1 : Int) := dA
        have q286 : x5_1 < (l1.length : Int) := dA
        obtain ⟨ad286, A286_0, c286_0, e286, hx286_0, hl286_0, hi286_0⟩ := at_L1 HR1.out x5_1 p286 q286
        cases e286
        have HR286_0 := aM hi286_0
        have HC286_0 := aM hl286_0
        clear hi286_0 hl286_0
        replace p286 := eq_true p286
        replace q286 := eq_true q286
        go_wp2_with (first | (go_at_call 15; (with_reducible refine (laws_eqInt64S.calls k1 _ _ (rd_L1 l0 x5_1) _ _ (rd_L1 l1 x5_1) false _ ?side1 ?side2 ?side3 ?side4 A7.out).mono ?_); (case side1 => repeat (first | exact HR285_0.out | (with_reducible first | refine cA ?_ _ | refine cN ?_ _ | refine cD ?_))); (case side2 => exact HC285_0.out); (case side3 => repeat (first | exact HR286_0.out | (with_reducible first | refine cA ?_ _ | refine cN ?_ _ | refine cD ?_))); (case side4 => exact HC286_0.out); rintro e w' ⟨rfl, ⟨nd, rfl⟩⟩; (try first | exact ⟨rfl, _, World.drewN_drewN _ _ _⟩ | exact ⟨rfl, _, Eq.trans (World.drewN_drewN _ _ _) (congrArg (World.drewN _) (Nat.add_assoc _ _ _))⟩)))
        repeat (go_quiet (first | (go_at_call 15; (with_reducible refine (laws_eqInt64S.calls k1 _ _ (rd_L1 l0 x5_1) _ _ (rd_L1 l1 x5_1) false _ ?side1 ?side2 ?side3 ?side4 A7.out).mono ?_); (case side1 => repeat (first | exact HR285_0.out | (with_reducible first | refine cA ?_ _ | refine cN ?_ _ | refine cD ?_))); (case side2 => exact HC285_0.out); (case side3 => repeat (first | exact HR286_0.out | (with_reducible first | refine cA ?_ _ | refine cN ?_ _ | refine cD ?_))); (case side4 => exact HC286_0.out); rintro e w' ⟨rfl, ⟨nd, rfl⟩⟩; (try first | exact ⟨rfl, _, World.drewN_drewN _ _ _⟩ | exact ⟨rfl, _, Eq.trans (World.drewN_drewN _ _ _) (congrArg (World.drewN _) (Nat.add_assoc _ _ _))⟩))); try go_wp2_with (first | (go_at_call 15; (with_reducible refine (laws_eqInt64S.calls k1 _ _ (rd_L1 l0 x5_1) _ _ (rd_L1 l1 x5_1) false _ ?side1 ?side2 ?side3 ?side4 A7.out).mono ?_); (case side1 => repeat (first | exact HR285_0.out | (with_reducible first | refine cA ?_ _ | refine cN ?_ _ | refine cD ?_))); (case side2 => exact HC285_0.out); (case side3 => repeat (first | exact HR286_0.out | (with_reducible first | refine cA ?_ _ | refine cN ?_ _ | refine cD ?_))); (case side4 => exact HC286_0.out); rintro e w' ⟨rfl, ⟨nd, rfl⟩⟩; (try first | exact ⟨rfl, _, World.drewN_drewN _ _ _⟩ | exact ⟨rfl, _, Eq.trans (World.drewN_drewN _ _ _) (congrArg (World.drewN _) (Nat.add_assoc _ _ _))⟩))))
        go_ret
        exact ⟨rQ, by repeat (first | exact Drawn0.refl _ | apply Drawn0.step)⟩
      ·rw [if_neg c6] at H
       exact absurd H (by simp)
     ·rw [if_neg c5] at H
      exact absurd H (by simp)
    ·rw [if_neg c4] at H
     have c4b0 : decide (x5_1 < (l0.length : Int)) = false := decide_eq_false c4
     clear c4
     obtain rfl := Option.some.inj H
     go_wp2
     repeat (go_quiet (fail); try go_wp2)
     go_ret
     exact ⟨rQ, by repeat (first | exact Drawn0.refl _ | apply Drawn0.step)⟩
 ·rw [if_neg c3] at H
  have c3b0 : ((l0.length : Int) == (l1.length : Int)) = false := beq_eq_false_iff_ne.mpr c3
  have c3b1 : ((l0.length : Int) != (l1.length : Int)) = true := bne_iff_ne.mpr c3
  have c3b2 : (l0.length == l1.length) = false := by first | simpa using c3 | (simp at c3 ⊢; omega)
  obtain rfl := Option.some.inj H
  go_enter Try.func72, Try.ntmps72
  go_wp2
  repeat (go_quiet (fail); try go_wp2)
  go_ret
  exact ⟨rQ, by repeat (first | exact Drawn0.refl _ | apply Drawn0.step)⟩

end Go.Proofs.Ytdahcapolipnbaa.QFnExactRuleText
