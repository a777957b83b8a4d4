/- What some Go functions answer, each as a Lean function, and that the machine answers so: written by a program of this session out of the translation. -/
import Derived.Test.YtfabhfdjabehpaaQFnExactSourceTextx0
import Derived.Test.YtfabhfdjabehpaaQFnExactSourceTextx4
namespace Go.Proofs.Ytfabhfdjabehpaa.QFnExactSourceText
open Go.RowKit Go.Proofs.YtfabhfdjabehpaaW.PrintWords Go.Proofs.YtfabhfdjabehpaaW.PrintLast Go.Proofs.YtfabhfdjabehpaaW.PrintMore Go.Proofs.Ytfabhfdjabehpaa.Rp
attribute [local go_sem] max2_int min2_int max_two min_two max_three min_three max_four min_four   -- for this text's walks alone
set_option linter.unusedVariables false
set_option linter.unusedSimpArgs false

/-! ### spec_l24All: function 28 -/
def spec_l24All.l0 : Nat → List (S39) → Int → Option (Bool)
 | 0, _, _ => none
 | k + 1, x0, x3 => if x3 < (x0.length : Int) then (if 0 ≤ x3 then ((spec_l24Ok_at.f k x0 x3).bind fun t221 => (if t221 = true then (spec_l24All.l0 k x0 (wrap64 (x3 + 1))) else (some false))) else (none)) else (some (decide ((x0.length : Int) ≤ 120)))
def spec_l24All.f (k : Nat) (l0 : List (S39)) : Option (Bool) := spec_l24All.l0 k l0 0
theorem spec_l24All.mono_l : ∀ k, (∀ y0 y1, LeO (spec_l24All.l0 k y0 y1) (spec_l24All.l0 (k + 1) y0 y1))
 | 0 => fun _ _ r h => by simp [spec_l24All.l0] at h
 | k + 1 => by
  have ih0 := spec_l24All.mono_l k
  ·intro y0 y1
   unfold spec_l24All.l0
   repeat' first
   | (with_reducible exact ih0 _ _)
   | (with_reducible exact spec_l24Ok_at.mono _ _ _)
   | (with_reducible exact LeO.refl _)
   | (with_reducible exact LeO.none _)
   | (with_reducible refine LeO.ite ?_ ?_)
   | (with_reducible refine LeO.bind ?_ (fun _ => ?_))
   | exact ih0 _ _
   | exact spec_l24Ok_at.mono _ _ _
   | exact LeO.none _
   | refine LeO.ite ?_ ?_
   | refine LeO.bind ?_ (fun _ => ?_)
theorem spec_l24All.mono : ∀ a0 k, LeO (spec_l24All.f k a0) (spec_l24All.f (k + 1) a0) := by
 intro a0 k
 have ih0 := spec_l24All.mono_l k
 unfold spec_l24All.f
 repeat' first
   | (with_reducible exact ih0 _ _)
   | (with_reducible exact spec_l24Ok_at.mono _ _ _)
   | (with_reducible exact LeO.refl _)
   | (with_reducible exact LeO.none _)
   | (with_reducible refine LeO.ite ?_ ?_)
   | (with_reducible refine LeO.bind ?_ (fun _ => ?_))
   | exact ih0 _ _
   | exact spec_l24Ok_at.mono _ _ _
   | exact LeO.none _
   | refine LeO.ite ?_ ?_
   | refine LeO.bind ?_ (fun _ => ?_)
set_option maxHeartbeats 8000000 in
set_option maxRecDepth 100000 in
theorem spec_l24All.calls (k : Nat) (A0 : Option Addr) (c0 : Nat) (l0 : List (S39)) (r : Bool) (w : World) (hr0 : Kd.C k39 w A0 l0.length l0) (hc0 : l0.length ≤ c0) (h : spec_l24All.f k l0 = some r) :
  Calls Try.prog 28 #[.slice A0 l0.length c0] w fun e w' => e = .returned (.bool r) ∧ Below w.heap.size w w' := by
 have HR0 := aM hr0
 have HC0 := aM hc0
 clear hr0 hc0
 have HB := aM (Below.refl w.heap.size w)
 have H : (spec_l24All.l0 k l0 0) = some r := h
 clear h
 have H' := aM H
 clear H
 go_enter Try.func28, Try.ntmps28
 go_wp2
 go_loopg [3] k (fun kq v3 w' => ∃ (x3_1 : Int), v3 = .int .i64 x3_1 ∧ Aside0 (spec_l24All.l0 kq l0 x3_1 = some r) ∧ Aside0 (kq ≤ k) ∧ Aside0 (Below w.heap.size w w'))
 case atStart => exact ⟨(0), rQ, H', ⟨Nat.le_refl _⟩, ⟨bQ⟩⟩
 case round =>
  clear H'
  obtain ⟨x3_1, rfl, HA, HK1, HB⟩ := hrel
  cases gk with
  | zero => exact absurd HA.out (by simp [spec_l24All.l0])
  | succ k1 =>
   have H := HA.out
   clear HA
   simp only [spec_l24All.l0] at H
   by_cases c2 : x3_1 < (l0.length : Int)
   ·rw [if_pos c2] at H
    have c2b0 : decide (x3_1 < (l0.length : Int)) = true := decide_eq_true c2
    clear c2
    by_cases c3 : 0 ≤ x3_1
    ·rw [if_pos c3] at H
     have c3b0 : decide (0 ≤ x3_1) = true := decide_eq_true c3
     clear c3
     replace H := Option.bind_eq_some_iff.mp H
     obtain ⟨t221, A40, H⟩ := H
     replace H : (if t221 = true then (spec_l24All.l0 k1 l0 (wrap64 (x3_1 + 1))) else (some false)) = some r := H
     have A4 := aM A40
     clear A40
     by_cases c5 : t221 = true
     ·subst c5
      have H1 : (spec_l24All.l0 k1 l0 (wrap64 (x3_1 + 1))) = some r := by rw [if_pos rfl] at H; exact H
      clear H
      have H := H1
      clear H1
      have H' := aM H
      clear H
      have p220 : 0 ≤ (x3_1 : Int) := dA
      have q220 : x3_1 < (l0.length : Int) := dA
      obtain ⟨ad220, A220_2, c220_2, A220_3, c220_3, A220_4, c220_4, A220_5, c220_5, e220, hx220_0, hx220_1, hx220_2, hx220_3, hx220_4, hx220_5, hx220_6, hl220_2, hi220_2, hl220_3, hi220_3, hl220_4, hi220_4, hl220_5, hi220_5⟩ := at_T39 HR0.out x3_1 p220 q220
      cases e220
      replace hx220_0 := cB HB.out hx220_0
      replace hx220_1 := cB HB.out hx220_1
      replace hx220_2 := cB HB.out hx220_2
      replace hx220_3 := cB HB.out hx220_3
      replace hx220_4 := cB HB.out hx220_4
      replace hx220_5 := cB HB.out hx220_5
      replace hx220_6 := cB HB.out hx220_6
      have HR220_2 := aM hi220_2
      have HC220_2 := aM hl220_2
      clear hi220_2 hl220_2
      have HR220_3 := aM hi220_3
      have HC220_3 := aM hl220_3
      clear hi220_3 hl220_3
      have HR220_4 := aM hi220_4
      have HC220_4 := aM hl220_4
      clear hi220_4 hl220_4
      have HR220_5 := aM hi220_5
      have HC220_5 := aM hl220_5
      clear hi220_5 hl220_5
      replace p220 := eq_true p220
      replace q220 := eq_true q220
      go_wp2_with (first | ((with_reducible refine gate_callee (f := 33) rfl ?_); refine goesL_ (some 13) rfl rfl Try.func33 (by kernel_rfl) rfl #[.pointer (some (ad220.add ((x3_1 : Int).toNat * 7)))] rfl gQ ?_; (with_reducible refine (spec_l24Ok_at.calls k1 _ l0 x3_1 true _ ?side1 A4.out).mono ?_); (case side1 => refine RPtr.mk_ (by repeat (first | exact (Kd.C_below HR0.out HB.out) | (with_reducible first | refine cA ?_ _ | refine cN ?_ _ | refine cD ?_))) (by first | rfl | exact (Addr.add_zero' _).symm) (by first | omega | exact dA | simp_all) (by first | exact dA | omega | simp_all)); rintro e w6 ⟨rfl, hb⟩; refine ⟨_, rfl, ?_⟩; have n0_ := aM (below_step bQ hb); clear HB; have HB := n0_; clear n0_; (try clear hb); (try clear hb2); (try clear hk); (try clear hi)))
      go_roundg k1
      case measure => have := HK1.out; omega
      case rel => exact ⟨(wrap64 (x3_1 + 1)), rQ, H', ⟨by have := HK1.out; omega⟩, ⟨bQ⟩⟩
     ·replace c5 := Bool.eq_false_iff.mpr c5
      subst c5
      have H1 : (some false) = some r := by rw [if_neg (show ¬ (false = true) by decide)] at H; exact H
      clear H
      have H := H1
      clear H1
      obtain rfl := Option.some.inj H
      have p220 : 0 ≤ (x3_1 : Int) := dA
      have q220 : x3_1 < (l0.length : Int) := dA
      obtain ⟨ad220, A220_2, c220_2, A220_3, c220_3, A220_4, c220_4, A220_5, c220_5, e220, hx220_0, hx220_1, hx220_2, hx220_3, hx220_4, hx220_5, hx220_6, hl220_2, hi220_2, hl220_3, hi220_3, hl220_4, hi220_4, hl220_5, hi220_5⟩ := at_T39 HR0.out x3_1 p220 q220
      cases e220
      replace hx220_0 := cB HB.out hx220_0
      replace hx220_1 := cB HB.out hx220_1
      replace hx220_2 := cB HB.out hx220_2
      replace hx220_3 := cB HB.out hx220_3
      replace hx220_4 := cB HB.out hx220_4
      replace hx220_5 := cB HB.out hx220_5
      replace hx220_6 := cB HB.out hx220_6
      have HR220_2 := aM hi220_2
      have HC220_2 := aM hl220_2
      clear hi220_2 hl220_2
      have HR220_3 := aM hi220_3
      have HC220_3 := aM hl220_3
      clear hi220_3 hl220_3
      have HR220_4 := aM hi220_4
      have HC220_4 := aM hl220_4
      clear hi220_4 hl220_4
      have HR220_5 := aM hi220_5
      have HC220_5 := aM hl220_5
      clear hi220_5 hl220_5
      replace p220 := eq_true p220
      replace q220 := eq_true q220
      go_wp2_with (first | ((with_reducible refine gate_callee (f := 33) rfl ?_); refine goesL_ (some 13) rfl rfl Try.func33 (by kernel_rfl) rfl #[.pointer (some (ad220.add ((x3_1 : Int).toNat * 7)))] rfl gQ ?_; (with_reducible refine (spec_l24Ok_at.calls k1 _ l0 x3_1 false _ ?side1 A4.out).mono ?_); (case side1 => refine RPtr.mk_ (by repeat (first | exact (Kd.C_below HR0.out HB.out) | (with_reducible first | refine cA ?_ _ | refine cN ?_ _ | refine cD ?_))) (by first | rfl | exact (Addr.add_zero' _).symm) (by first | omega | exact dA | simp_all) (by first | exact dA | omega | simp_all)); rintro e w7 ⟨rfl, hb⟩; refine ⟨_, rfl, ?_⟩; have n0_ := aM (below_step bQ hb); clear HB; have HB := n0_; clear n0_; (try clear hb); (try clear hb2); (try clear hk); (try clear hi)))
      go_ret
      exact ⟨eQ, bQ⟩
    ·rw [if_neg c3] at H
     exact absurd H (by simp)
   ·rw [if_neg c2] at H
    have c2b0 : decide (x3_1 < (l0.length : Int)) = false := decide_eq_false c2
    clear c2
    obtain rfl := Option.some.inj H
    go_wp2
    go_ret
    exact ⟨eQ, bQ⟩

/-! ### spec_l24Words: function 56 -/
def spec_l24Words.l0 : Nat → List ByteArray → ByteArray → Int → Option (ByteArray)
 | 0, _, _, _ => none
 | k + 1, x0, x3, x4 => if x4 < (x0.length : Int) then (if 0 ≤ x4 then (if 1 + (rdOf ByteArray.empty x0 x4).size ≤ 9223372036854775807 then (if x3.size + ((⟨#[32]⟩ : ByteArray) ++ (rdOf ByteArray.empty x0 x4)).size ≤ 9223372036854775807 then (spec_l24Words.l0 k x0 (x3 ++ ((⟨#[32]⟩ : ByteArray) ++ (rdOf ByteArray.empty x0 x4))) (wrap64 (x4 + 1))) else (none)) else (none)) else (none)) else (some x3)
def spec_l24Words.f (k : Nat) (l0 : List ByteArray) : Option (ByteArray) := spec_l24Words.l0 k l0 (⟨#[]⟩ : ByteArray) 0
theorem spec_l24Words.mono_l : ∀ k, (∀ y0 y1 y2, LeO (spec_l24Words.l0 k y0 y1 y2) (spec_l24Words.l0 (k + 1) y0 y1 y2))
 | 0 => fun _ _ _ r h => by simp [spec_l24Words.l0] at h
 | k + 1 => by
  have ih0 := spec_l24Words.mono_l k
  ·intro y0 y1 y2
   unfold spec_l24Words.l0
   repeat' first
   | (with_reducible exact ih0 _ _ _)
   | (with_reducible exact LeO.refl _)
   | (with_reducible exact LeO.none _)
   | (with_reducible refine LeO.ite ?_ ?_)
   | (with_reducible refine LeO.bind ?_ (fun _ => ?_))
   | exact ih0 _ _ _
   | exact LeO.none _
   | refine LeO.ite ?_ ?_
   | refine LeO.bind ?_ (fun _ => ?_)
theorem spec_l24Words.mono : ∀ a0 k, LeO (spec_l24Words.f k a0) (spec_l24Words.f (k + 1) a0) := by
 intro a0 k
 have ih0 := spec_l24Words.mono_l k
 unfold spec_l24Words.f
 repeat' first
   | (with_reducible exact ih0 _ _ _)
   | (with_reducible exact LeO.refl _)
   | (with_reducible exact LeO.none _)
   | (with_reducible refine LeO.ite ?_ ?_)
   | (with_reducible refine LeO.bind ?_ (fun _ => ?_))
   | exact ih0 _ _ _
   | exact LeO.none _
   | refine LeO.ite ?_ ?_
   | refine LeO.bind ?_ (fun _ => ?_)
set_option maxHeartbeats 8000000 in
set_option maxRecDepth 100000 in
theorem spec_l24Words.calls (k : Nat) (A0 : Option Addr) (c0 : Nat) (l0 : List ByteArray) (r : ByteArray) (w : World) (hr0 : Kd.C Kd.string w A0 l0.length l0) (hc0 : l0.length ≤ c0) (h : spec_l24Words.f k l0 = some r) :
  Calls Try.prog 56 #[.slice A0 l0.length c0] w fun e w' => e = .returned (.string r) ∧ Drawn0 w w' := by
 have HR0 := aM hr0
 have HC0 := aM hc0
 clear hr0 hc0
 have H : (spec_l24Words.l0 k l0 (⟨#[]⟩ : ByteArray) 0) = some r := h
 clear h
 have H' := aM H
 clear H
 go_enter Try.func56, Try.ntmps56
 go_wp2
 go_loopg [3, 4] k (fun kq v3 v4 w' => ∃ (x3_1 : ByteArray) (x4_1 : Int), v3 = .string x3_1 ∧ v4 = .int .i64 x4_1 ∧ Aside0 (spec_l24Words.l0 kq l0 x3_1 x4_1 = some r) ∧ Aside0 (kq ≤ k) ∧ Drawn0 w w')
 case atStart => exact ⟨((⟨#[]⟩ : ByteArray)), (0), rQ, rQ, H', ⟨Nat.le_refl _⟩, by repeat (first | exact Drawn0.refl _ | apply Drawn0.step)⟩
 case round =>
  clear H'
  obtain ⟨x3_1, x4_1, rfl, rfl, HA, HK1, ⟨m1, rfl⟩⟩ := hrel
  cases gk with
  | zero => exact absurd HA.out (by simp [spec_l24Words.l0])
  | succ k1 =>
   have H := HA.out
   clear HA
   simp only [spec_l24Words.l0] at H
   by_cases c2 : x4_1 < (l0.length : Int)
   ·rw [if_pos c2] at H
    have c2b0 : decide (x4_1 < (l0.length : Int)) = true := decide_eq_true c2
    clear c2
    by_cases c3 : 0 ≤ x4_1
    ·rw [if_pos c3] at H
     have c3b0 : decide (0 ≤ x4_1) = true := decide_eq_true c3
     clear c3
     by_cases c4 : 1 + (rdOf ByteArray.empty l0 x4_1).size ≤ 9223372036854775807
     ·rw [if_pos c4] at H
      have c4b0 := eq_true c4
      have c4b1 : decide (1 + (rdOf ByteArray.empty l0 x4_1).size ≤ 9223372036854775807) = true := decide_eq_true c4
      try have c4b2 : (9223372036854775807 < 1 + (rdOf ByteArray.empty l0 x4_1).size) = False := eq_false (Nat.not_lt.2 c4)
      by_cases c5 : x3_1.size + ((⟨#[32]⟩ : ByteArray) ++ (rdOf ByteArray.empty l0 x4_1)).size ≤ 9223372036854775807
      ·rw [if_pos c5] at H
       have c5b0 := eq_true c5
       have c5b1 : decide (x3_1.size + ((⟨#[32]⟩ : ByteArray) ++ (rdOf ByteArray.empty l0 x4_1)).size ≤ 9223372036854775807) = true := decide_eq_true c5
       try have c5b2 : (9223372036854775807 < x3_1.size + ((⟨#[32]⟩ : ByteArray) ++ (rdOf ByteArray.empty l0 x4_1)).size) = False := eq_false (Nat.not_lt.2 c5)
       try have c5b3 : (9223372036854775807 < x3_1.size + (1 + (rdOf ByteArray.empty l0 x4_1).size)) = False := eq_false (Nat.not_lt.2 (by have h_ := c5; simp only [ByteArray.size_append] at h_; exact h_))
       try (have c5b6 := c5b0; simp only [ByteArray.size_append, ByteArray.size_extract, Nat.min_self, Int.natCast_add] at c5b6)
       try (have c5b7 := c5b1; simp only [ByteArray.size_append, ByteArray.size_extract, Nat.min_self, Int.natCast_add] at c5b7)
       have H' := aM H
       clear H
       have p222 : 0 ≤ (x4_1 : Int) := dA
       have q222 : x4_1 < (l0.length : Int) := dA
       obtain ⟨ad222, e222, hx222_0⟩ := Kd.at_string HR0.out x4_1 p222 q222
       cases e222
       replace p222 := eq_true p222
       replace q222 := eq_true q222
       go_wp2
       go_roundg k1
       case measure => have := HK1.out; omega
       case rel => exact ⟨(x3_1 ++ ((⟨#[32]⟩ : ByteArray) ++ (rdOf ByteArray.empty l0 x4_1))), (wrap64 (x4_1 + 1)), rQ, rQ, H', ⟨by have := HK1.out; omega⟩, by repeat (first | exact Drawn0.refl _ | apply Drawn0.step)⟩
      ·rw [if_neg c5] at H
       exact absurd H (by simp)
     ·rw [if_neg c4] at H
      exact absurd H (by simp)
    ·rw [if_neg c3] at H
     exact absurd H (by simp)
   ·rw [if_neg c2] at H
    have c2b0 : decide (x4_1 < (l0.length : Int)) = false := decide_eq_false c2
    clear c2
    obtain rfl := Option.some.inj H
    go_wp2
    go_ret
    exact ⟨rQ, by repeat (first | exact Drawn0.refl _ | apply Drawn0.step)⟩

/-! ### spec_l01Dec: function 57 -/
def spec_l01Dec.l0 : Nat → Int → List Int → Int → Option (ByteArray)
 | 0, _, _, _ => none
 | k + 1, x0, x3, x4 => if x4 = 0 then (if (x3.length : Int) = 0 then (some (⟨#[48]⟩ : ByteArray)) else (if x0 < 0 then (if 1 + (strOfNums x3).size ≤ 9223372036854775807 then (some ((⟨#[45]⟩ : ByteArray) ++ (strOfNums x3))) else (none)) else (some (strOfNums x3)))) else (if (Int.tmod x4 10) < 0 then ((some (([(wrap64 (48 + (wrap64 (-(Int.tmod x4 10))))) % 256] : List Int) : List Int)).bind fun y226 => (if y226.length + x3.length < 140737488355328 then (spec_l01Dec.l0 k x0 (y226 ++ x3) (wrap64 (Int.tdiv x4 10))) else (none))) else ((some (([(wrap64 (48 + (Int.tmod x4 10))) % 256] : List Int) : List Int)).bind fun y232 => (if y232.length + x3.length < 140737488355328 then (spec_l01Dec.l0 k x0 (y232 ++ x3) (wrap64 (Int.tdiv x4 10))) else (none))))
def spec_l01Dec.f (k : Nat) (a0 : Int) : Option (ByteArray) := spec_l01Dec.l0 k a0 (([] : List Int)) a0
theorem spec_l01Dec.mono_l : ∀ k, (∀ y0 y1 y2, LeO (spec_l01Dec.l0 k y0 y1 y2) (spec_l01Dec.l0 (k + 1) y0 y1 y2))
 | 0 => fun _ _ _ r h => by simp [spec_l01Dec.l0] at h
 | k + 1 => by
  have ih0 := spec_l01Dec.mono_l k
  ·intro y0 y1 y2
   unfold spec_l01Dec.l0
   repeat' first
   | (with_reducible exact ih0 _ _ _)
   | (with_reducible exact LeO.refl _)
   | (with_reducible exact LeO.none _)
   | (with_reducible refine LeO.ite ?_ ?_)
   | (with_reducible refine LeO.bind ?_ (fun _ => ?_))
   | exact ih0 _ _ _
   | exact LeO.none _
   | refine LeO.ite ?_ ?_
   | refine LeO.bind ?_ (fun _ => ?_)
theorem spec_l01Dec.mono : ∀ a0 k, LeO (spec_l01Dec.f k a0) (spec_l01Dec.f (k + 1) a0) := by
 intro a0 k
 have ih0 := spec_l01Dec.mono_l k
 unfold spec_l01Dec.f
 repeat' first
   | (with_reducible exact ih0 _ _ _)
   | (with_reducible exact LeO.refl _)
   | (with_reducible exact LeO.none _)
   | (with_reducible refine LeO.ite ?_ ?_)
   | (with_reducible refine LeO.bind ?_ (fun _ => ?_))
   | exact ih0 _ _ _
   | exact LeO.none _
   | refine LeO.ite ?_ ?_
   | refine LeO.bind ?_ (fun _ => ?_)
set_option maxHeartbeats 8000000 in
set_option maxRecDepth 100000 in
theorem spec_l01Dec.calls (k : Nat) (a0 : Int) (r : ByteArray) (w : World) (h : spec_l01Dec.f k a0 = some r) :
  Calls Try.prog 57 #[.int .i64 a0] w fun e w' => e = .returned (.string r) ∧ Below w.heap.size w w' := by
 have HB := aM (Below.refl w.heap.size w)
 have H : (spec_l01Dec.l0 k a0 (([] : List Int)) a0) = some r := h
 clear h
 obtain ⟨y223, hy223⟩ : ∃ y_ : List Int, y_ = (([] : List Int)) := ⟨_, rfl⟩
 replace H : (spec_l01Dec.l0 k a0 y223 a0) = some r := by first | (rw [hy223]; with_reducible exact H) | (have H2_ := bS H; rw [hy223]; with_reducible exact H2_) | (have H2_ := bS H; with_reducible exact H2_) | with_reducible exact H | (rw [hy223]; exact H) | exact H
 have Ny223 := aM hy223
 clear hy223
 have H' := aM H
 clear H
 go_enter Try.func57, Try.ntmps57
 go_wp2_with (first | ((with_reducible refine gate_dst (N := 6) rfl ?_); refine Kd.R_lit (Kd.int .u8) _ 5 ?hg (N := 6) ?hd (xs := ([] : List Int)) (inner := []) (ok := fun _ => True) (okp := fun _ => True) ?hr ?hp (fun _ hk => hk) trivial (Below.refl _ _) (Nat.le_refl _) (by simp) ?_; (case hd => rfl); (case hg => rfl); (case hr => first | (go_simp; done) | (go_simp; rfl)); (case hp => exact (Reps.none _ _)); intro v224 w2 ho3 hb hg_ hnew_; clear hg_ hnew_; (first | rw [← Ny223.out] at ho3 | (simp only [Int.reduceToNat] at ho3; rw [← Ny223.out] at ho3)); have n0_ := aM (Kd.R_lower ho3 (below_size bQ)); have n1_ := aM (below_step bQ hb); clear HB; have HO225 := n0_; have HB := n1_; clear n0_ n1_; clear hb ho3))
 go_loopg [3, 4] k (fun kq v3 v4 w' => ∃ (x3_1 : List Int) (x4_1 : Int), v4 = .int .i64 x4_1 ∧ Aside0 (spec_l01Dec.l0 kq a0 x3_1 x4_1 = some r) ∧ Aside0 (kq ≤ k) ∧ Aside0 (Kd.R (Kd.int .u8) 5 w' w.heap.size (fun _ => True) v3 x3_1) ∧ Aside0 (Below w.heap.size w w'))
 case atStart => exact ⟨(y223), (a0), rQ, H', ⟨Nat.le_refl _⟩, ⟨by (with_reducible repeat (first | apply rA | apply rN | apply rD)); exact HO225.out⟩, ⟨bQ⟩⟩
 case round =>
  clear H'
  try clear p2
  obtain ⟨x3_1, x4_1, rfl, HA, HK1, HO_3, HB⟩ := hrel
  cases gk with
  | zero => exact absurd HA.out (by simp [spec_l01Dec.l0])
  | succ k1 =>
   have H := HA.out
   clear HA
   simp only [spec_l01Dec.l0] at H
   by_cases c4 : x4_1 = 0
   ·rw [if_pos c4] at H
    have c4b0 : (x4_1 == 0) = true := beq_iff_eq.mpr c4
    have c4b1 : (x4_1 != 0) = false := bne_eq_false_iff_eq.mpr c4
    clear c4
    by_cases c5 : (x3_1.length : Int) = 0
    ·rw [if_pos c5] at H
     have c5b0 : ((x3_1.length : Int) == 0) = true := beq_iff_eq.mpr c5
     have c5b1 : ((x3_1.length : Int) != 0) = false := bne_eq_false_iff_eq.mpr c5
     clear c5
     obtain rfl := Option.some.inj H
     obtain ⟨Ao6, co6, eo6⟩ := Kd.R_slice HO_3.out
     subst eo6
     go_wp2
     go_ret
     exact ⟨eQ, bQ⟩
    ·rw [if_neg c5] at H
     have c5b0 : ((x3_1.length : Int) == 0) = false := beq_eq_false_iff_ne.mpr c5
     have c5b1 : ((x3_1.length : Int) != 0) = true := bne_iff_ne.mpr c5
     have c5b2 : ¬ (x3_1 = []) := fun h_ => c5 (by rw [h_]; rfl)
     by_cases c7 : a0 < 0
     ·rw [if_pos c7] at H
      have c7b0 : decide (a0 < 0) = true := decide_eq_true c7
      clear c7
      by_cases c8 : 1 + (strOfNums x3_1).size ≤ 9223372036854775807
      ·rw [if_pos c8] at H
       have c8b0 := eq_true c8
       have c8b1 : decide (1 + (strOfNums x3_1).size ≤ 9223372036854775807) = true := decide_eq_true c8
       try have c8b2 : (9223372036854775807 < 1 + (strOfNums x3_1).size) = False := eq_false (Nat.not_lt.2 c8)
       obtain rfl := Option.some.inj H
       obtain ⟨Ao9, co9, eo9⟩ := Kd.R_slice HO_3.out
       subst eo9
       have hcv10 := own_string (P := Try.prog) Try.underlying57 Try.underlying5 Try.underlying9 (Kd.own_of_R HO_3.out)
       go_wp2
       go_ret
       exact ⟨eQ, bQ⟩
      ·rw [if_neg c8] at H
       exact absurd H (by simp)
     ·rw [if_neg c7] at H
      have c7b0 : decide (a0 < 0) = false := decide_eq_false c7
      clear c7
      obtain rfl := Option.some.inj H
      obtain ⟨Ao11, co11, eo11⟩ := Kd.R_slice HO_3.out
      subst eo11
      have hcv12 := own_string (P := Try.prog) Try.underlying57 Try.underlying5 Try.underlying9 (Kd.own_of_R HO_3.out)
      go_wp2
      go_ret
      exact ⟨eQ, bQ⟩
   ·rw [if_neg c4] at H
    have c4b0 : (x4_1 == 0) = false := beq_eq_false_iff_ne.mpr c4
    have c4b1 : (x4_1 != 0) = true := bne_iff_ne.mpr c4
    by_cases c13 : (Int.tmod x4_1 10) < 0
    ·rw [if_pos c13] at H
     have c13b0 : decide ((Int.tmod x4_1 10) < 0) = true := decide_eq_true c13
     clear c13
     obtain ⟨y226, hy226⟩ : ∃ y_ : List Int, y_ = (([(wrap64 (48 + (wrap64 (-(Int.tmod x4_1 10))))) % 256] : List Int)) := ⟨_, rfl⟩
     replace H : (if y226.length + x3_1.length < 140737488355328 then (spec_l01Dec.l0 k1 a0 (y226 ++ x3_1) (wrap64 (Int.tdiv x4_1 10))) else (none)) = some r := by first | (rw [hy226]; with_reducible exact H) | (have H2_ := bS H; rw [hy226]; with_reducible exact H2_) | (have H2_ := bS H; with_reducible exact H2_) | with_reducible exact H | (rw [hy226]; exact H) | exact H
     have Ny226 := aM hy226
     clear hy226
     by_cases c14 : y226.length + x3_1.length < 140737488355328
     ·rw [if_pos c14] at H
      have LMc14 := aM c14
      clear c14
      obtain ⟨y229, hy229⟩ : ∃ y_ : List Int, y_ = (y226 ++ x3_1) := ⟨_, rfl⟩
      replace H : (spec_l01Dec.l0 k1 a0 y229 (wrap64 (Int.tdiv x4_1 10))) = some r := by first | (rw [hy229]; with_reducible exact H) | (have H2_ := bS H; rw [hy229]; with_reducible exact H2_) | (have H2_ := bS H; with_reducible exact H2_) | with_reducible exact H | (rw [hy229]; exact H) | exact H
      have Ny229 := aM hy229
      clear hy229
      have H' := aM H
      clear H
      go_wp2_with (first | ((with_reducible refine gate_dst (N := 21) rfl ?_); refine Kd.R_lit (Kd.int .u8) _ 5 ?hg (N := 21) ?hd (xs := ([(wrap64 (48 + (wrap64 (-(Int.tmod x4_1 10))))) % 256] : List Int)) (inner := [.int .u8 ((wrap64 (48 + (wrap64 (-(Int.tmod x4_1 10))))) % 256)]) (ok := fun _ => True) (okp := fun _ => True) ?hr ?hp (fun _ hk => hk) trivial (Below.refl _ _) (Nat.le_refl _) (by simp) ?_; (case hd => rfl); (case hg => rfl); (case hr => first | (go_simp; done) | (go_simp; rfl)); (case hp => exact (Reps.one (show Kd.M (Kd.int .u8) _ _ _ ((wrap64 (48 + (wrap64 (-(Int.tmod x4_1 10))))) % 256) [.int .u8 ((wrap64 (48 + (wrap64 (-(Int.tmod x4_1 10))))) % 256)] from rfl) (Reps.none _ _))); intro v227 w15 ho16 hb hg_ hnew_; clear hg_ hnew_; (first | rw [← Ny226.out] at ho16 | (simp only [Int.reduceToNat] at ho16; rw [← Ny226.out] at ho16)); have n0_ := aM (Kd.R_elder' (by (with_reducible repeat (first | apply rA | apply rN | apply rD)); exact HO_3.out) (Kd.R_base ho16) hb); have n1_ := aM (Kd.R_lower (Kd.R_new' ho16 (Kd.R_lt (by (with_reducible repeat (first | apply rA | apply rN | apply rD)); exact HO_3.out))) (below_size bQ)); have n2_ := aM (below_step bQ hb); clear HO_3; clear HB; have HO_3 := n0_; have HO228 := n1_; have HB := n2_; clear n0_ n1_ n2_; clear hb ho16; obtain ⟨Ao18, co18, eo18⟩ := Kd.R_slice HO_3.out; subst eo18) | ((with_reducible refine gate_builtin (b := .append) (xs := #[.tmp 21, .tmp 22]) rfl ?_); at_builtin; refine Kd.R_append_rows (Kd.int .u8) (w0 := w) w.heap.size rfl (.tmp 21) (.tmp 22) 57 5 (.int .u8 0) 1 rfl Try.underlying57 info5 rfl (by decide) (by omega) v227 y226 x3_1 _ _ _ (fun k_ => some k_ ≠ (.slice Ao18 x3_1.length co18 : Value).ownBlock) (fun _ => False) rfl rfl ?aO ?aR (fun _ _ h => h) (fun _ h => h.elim) ?aF ?aB ?aS ?aL ?_; (case aR => repeat (first | exact (Kd.R_reads' HO_3.out).2.2 | (with_reducible first | refine cA ?_ _ | refine cN ?_ _ | refine cD ?_))); (case aB => exact bQ); (case aF => exact (fun k_ hk => Kd.fresh' (Kd.R_lt (by (with_reducible repeat (first | apply rA | apply rN | apply rD)); exact HO_3.out)) k_ hk)); (case aO => exact (by (with_reducible repeat (first | apply rA | apply rN | apply rD)); exact Kd.R_mono HO228.out h2_)); (case aS => exact (below_size bQ)); (case aL => have := LMc14.out; omega); intro v230 w17 ho hb hg hat; rw [← Ny229.out] at ho; have n0_ := aM (Kd.R_after (ok := (fun _ => True)) (by (with_reducible repeat (first | apply rA | apply rN | apply rD)); exact HO_3.out) hg hat); have n1_ := aM (hb); have n2_ := aM (ho); clear HO_3; clear HB; clear HO228; have HO_3 := n0_; have HB := n1_; have HO231 := n2_; clear n0_ n1_ n2_; clear ho hb hg hat))
      go_roundg k1
      case measure => have := HK1.out; omega
      case rel => exact ⟨(y229), (wrap64 (Int.tdiv x4_1 10)), rQ, H', ⟨by have := HK1.out; omega⟩, ⟨by (with_reducible repeat (first | apply rA | apply rN | apply rD)); exact Kd.R_mono HO231.out (fun _ hk => trivial)⟩, ⟨bQ⟩⟩
     ·rw [if_neg c14] at H
      exact absurd H (by simp)
    ·rw [if_neg c13] at H
     have c13b0 : decide ((Int.tmod x4_1 10) < 0) = false := decide_eq_false c13
     clear c13
     obtain ⟨y232, hy232⟩ : ∃ y_ : List Int, y_ = (([(wrap64 (48 + (Int.tmod x4_1 10))) % 256] : List Int)) := ⟨_, rfl⟩
     replace H : (if y232.length + x3_1.length < 140737488355328 then (spec_l01Dec.l0 k1 a0 (y232 ++ x3_1) (wrap64 (Int.tdiv x4_1 10))) else (none)) = some r := by first | (rw [hy232]; with_reducible exact H) | (have H2_ := bS H; rw [hy232]; with_reducible exact H2_) | (have H2_ := bS H; with_reducible exact H2_) | with_reducible exact H | (rw [hy232]; exact H) | exact H
     have Ny232 := aM hy232
     clear hy232
     by_cases c19 : y232.length + x3_1.length < 140737488355328
     ·rw [if_pos c19] at H
      have LMc19 := aM c19
      clear c19
      obtain ⟨y235, hy235⟩ : ∃ y_ : List Int, y_ = (y232 ++ x3_1) := ⟨_, rfl⟩
      replace H : (spec_l01Dec.l0 k1 a0 y235 (wrap64 (Int.tdiv x4_1 10))) = some r := by first | (rw [hy235]; with_reducible exact H) | (have H2_ := bS H; rw [hy235]; with_reducible exact H2_) | (have H2_ := bS H; with_reducible exact H2_) | with_reducible exact H | (rw [hy235]; exact H) | exact H
      have Ny235 := aM hy235
      clear hy235
      have H' := aM H
      clear H
      go_wp2_with (first | ((with_reducible refine gate_dst (N := 21) rfl ?_); refine Kd.R_lit (Kd.int .u8) _ 5 ?hg (N := 21) ?hd (xs := ([(wrap64 (48 + (Int.tmod x4_1 10))) % 256] : List Int)) (inner := [.int .u8 ((wrap64 (48 + (Int.tmod x4_1 10))) % 256)]) (ok := fun _ => True) (okp := fun _ => True) ?hr ?hp (fun _ hk => hk) trivial (Below.refl _ _) (Nat.le_refl _) (by simp) ?_; (case hd => rfl); (case hg => rfl); (case hr => first | (go_simp; done) | (go_simp; rfl)); (case hp => exact (Reps.one (show Kd.M (Kd.int .u8) _ _ _ ((wrap64 (48 + (Int.tmod x4_1 10))) % 256) [.int .u8 ((wrap64 (48 + (Int.tmod x4_1 10))) % 256)] from rfl) (Reps.none _ _))); intro v233 w20 ho21 hb hg_ hnew_; clear hg_ hnew_; (first | rw [← Ny232.out] at ho21 | (simp only [Int.reduceToNat] at ho21; rw [← Ny232.out] at ho21)); have n0_ := aM (Kd.R_elder' (by (with_reducible repeat (first | apply rA | apply rN | apply rD)); exact HO_3.out) (Kd.R_base ho21) hb); have n1_ := aM (Kd.R_lower (Kd.R_new' ho21 (Kd.R_lt (by (with_reducible repeat (first | apply rA | apply rN | apply rD)); exact HO_3.out))) (below_size bQ)); have n2_ := aM (below_step bQ hb); clear HO_3; clear HB; have HO_3 := n0_; have HO234 := n1_; have HB := n2_; clear n0_ n1_ n2_; clear hb ho21; obtain ⟨Ao23, co23, eo23⟩ := Kd.R_slice HO_3.out; subst eo23) | ((with_reducible refine gate_builtin (b := .append) (xs := #[.tmp 21, .tmp 22]) rfl ?_); at_builtin; refine Kd.R_append_rows (Kd.int .u8) (w0 := w) w.heap.size rfl (.tmp 21) (.tmp 22) 57 5 (.int .u8 0) 1 rfl Try.underlying57 info5 rfl (by decide) (by omega) v233 y232 x3_1 _ _ _ (fun k_ => some k_ ≠ (.slice Ao23 x3_1.length co23 : Value).ownBlock) (fun _ => False) rfl rfl ?aO ?aR (fun _ _ h => h) (fun _ h => h.elim) ?aF ?aB ?aS ?aL ?_; (case aR => repeat (first | exact (Kd.R_reads' HO_3.out).2.2 | (with_reducible first | refine cA ?_ _ | refine cN ?_ _ | refine cD ?_))); (case aB => exact bQ); (case aF => exact (fun k_ hk => Kd.fresh' (Kd.R_lt (by (with_reducible repeat (first | apply rA | apply rN | apply rD)); exact HO_3.out)) k_ hk)); (case aO => exact (by (with_reducible repeat (first | apply rA | apply rN | apply rD)); exact Kd.R_mono HO234.out h2_)); (case aS => exact (below_size bQ)); (case aL => have := LMc19.out; omega); intro v236 w22 ho hb hg hat; rw [← Ny235.out] at ho; have n0_ := aM (Kd.R_after (ok := (fun _ => True)) (by (with_reducible repeat (first | apply rA | apply rN | apply rD)); exact HO_3.out) hg hat); have n1_ := aM (hb); have n2_ := aM (ho); clear HO_3; clear HB; clear HO234; have HO_3 := n0_; have HB := n1_; have HO237 := n2_; clear n0_ n1_ n2_; clear ho hb hg hat))
      go_roundg k1
      case measure => have := HK1.out; omega
      case rel => exact ⟨(y235), (wrap64 (Int.tdiv x4_1 10)), rQ, H', ⟨by have := HK1.out; omega⟩, ⟨by (with_reducible repeat (first | apply rA | apply rN | apply rD)); exact Kd.R_mono HO237.out (fun _ hk => trivial)⟩, ⟨bQ⟩⟩
     ·rw [if_neg c19] at H
      exact absurd H (by simp)

/-! ### spec_l24Kind: function 58 -/
def spec_l24Kind.f (a0 : Int) : Option (ByteArray) := (some (([(⟨#[]⟩ : ByteArray), (⟨#[100, 117, 97, 108]⟩ : ByteArray), (⟨#[114, 105, 103, 104, 116]⟩ : ByteArray), (⟨#[116, 114, 97, 110, 115, 112, 97, 114, 101, 110, 116]⟩ : ByteArray)] : List ByteArray) : List ByteArray)).bind fun y238 => (if 0 ≤ a0 then (if a0 < (y238.length : Int) then (some (rdOf ByteArray.empty y238 a0)) else (none)) else (none))
set_option maxHeartbeats 8000000 in
set_option maxRecDepth 100000 in
theorem spec_l24Kind.calls (a0 : Int) (r : ByteArray) (w : World) (h : spec_l24Kind.f a0 = some r) :
  Calls Try.prog 58 #[.int .i64 a0] w fun e w' => e = .returned (.string r) ∧ Below w.heap.size w w' := by
 have HB := aM (Below.refl w.heap.size w)
 have H : ((some (([(⟨#[]⟩ : ByteArray), (⟨#[100, 117, 97, 108]⟩ : ByteArray), (⟨#[114, 105, 103, 104, 116]⟩ : ByteArray), (⟨#[116, 114, 97, 110, 115, 112, 97, 114, 101, 110, 116]⟩ : ByteArray)] : List ByteArray) : List ByteArray)).bind fun y238 => (if 0 ≤ a0 then (if a0 < (y238.length : Int) then (some (rdOf ByteArray.empty y238 a0)) else (none)) else (none))) = some r := h
 clear h
 obtain ⟨y238, hy238⟩ : ∃ y_ : List ByteArray, y_ = (([(⟨#[]⟩ : ByteArray), (⟨#[100, 117, 97, 108]⟩ : ByteArray), (⟨#[114, 105, 103, 104, 116]⟩ : ByteArray), (⟨#[116, 114, 97, 110, 115, 112, 97, 114, 101, 110, 116]⟩ : ByteArray)] : List ByteArray)) := ⟨_, rfl⟩
 replace H : (if 0 ≤ a0 then (if a0 < (y238.length : Int) then (some (rdOf ByteArray.empty y238 a0)) else (none)) else (none)) = some r := by first | (rw [hy238]; with_reducible exact H) | (have H2_ := bS H; rw [hy238]; with_reducible exact H2_) | (have H2_ := bS H; with_reducible exact H2_) | with_reducible exact H | (rw [hy238]; exact H) | exact H
 have Ny238 := aM hy238
 clear hy238
 by_cases c2 : 0 ≤ a0
 ·rw [if_pos c2] at H
  have c2b0 : decide (0 ≤ a0) = true := decide_eq_true c2
  clear c2
  by_cases c3 : a0 < (y238.length : Int)
  ·rw [if_pos c3] at H
   have c3b0 : decide (a0 < (y238.length : Int)) = true := decide_eq_true c3
   clear c3
   obtain rfl := Option.some.inj H
   go_enter Try.func58, Try.ntmps58
   go_wp2_with (first | ((with_reducible refine gate_dst (N := 3) rfl ?_); refine Kd.R_lit Kd.string _ 9 ?hg (N := 3) ?hd (xs := ([(⟨#[]⟩ : ByteArray), (⟨#[100, 117, 97, 108]⟩ : ByteArray), (⟨#[114, 105, 103, 104, 116]⟩ : ByteArray), (⟨#[116, 114, 97, 110, 115, 112, 97, 114, 101, 110, 116]⟩ : ByteArray)] : List ByteArray)) (inner := [.string (⟨#[]⟩ : ByteArray), .string (⟨#[100, 117, 97, 108]⟩ : ByteArray), .string (⟨#[114, 105, 103, 104, 116]⟩ : ByteArray), .string (⟨#[116, 114, 97, 110, 115, 112, 97, 114, 101, 110, 116]⟩ : ByteArray)]) (ok := fun _ => True) (okp := fun _ => True) ?hr ?hp (fun _ hk => hk) trivial (Below.refl _ _) (Nat.le_refl _) (by simp) ?_; (case hd => rfl); (case hg => rfl); (case hr => first | (go_simp; done) | (go_simp; rfl)); (case hp => exact (Reps.one (show Kd.M Kd.string _ _ _ (⟨#[]⟩ : ByteArray) [.string (⟨#[]⟩ : ByteArray)] from rfl) (Reps.one (show Kd.M Kd.string _ _ _ (⟨#[100, 117, 97, 108]⟩ : ByteArray) [.string (⟨#[100, 117, 97, 108]⟩ : ByteArray)] from rfl) (Reps.one (show Kd.M Kd.string _ _ _ (⟨#[114, 105, 103, 104, 116]⟩ : ByteArray) [.string (⟨#[114, 105, 103, 104, 116]⟩ : ByteArray)] from rfl) (Reps.one (show Kd.M Kd.string _ _ _ (⟨#[116, 114, 97, 110, 115, 112, 97, 114, 101, 110, 116]⟩ : ByteArray) [.string (⟨#[116, 114, 97, 110, 115, 112, 97, 114, 101, 110, 116]⟩ : ByteArray)] from rfl) (Reps.none _ _)))))); intro v239 w4 ho5 hb hg_ hnew_; clear hg_ hnew_; (first | rw [← Ny238.out] at ho5 | (simp only [Int.reduceToNat] at ho5; rw [← Ny238.out] at ho5)); have n0_ := aM (Kd.R_lower ho5 (below_size bQ)); have n1_ := aM (below_step bQ hb); clear HB; have HO240 := n0_; have HB := n1_; clear n0_ n1_; clear hb ho5; obtain ⟨Ao6, co6, eo6⟩ := Kd.R_slice HO240.out; subst eo6; have p241 : 0 ≤ (a0 : Int) := dA; have q241 : a0 < (y238.length : Int) := dA; obtain ⟨ad241, e241, hx241_0⟩ := Kd.at_string (Kd.R_reads' HO240.out).2.2 a0 p241 q241; cases e241; replace p241 := eq_true p241; replace q241 := eq_true q241))
   go_ret
   exact ⟨eQ, bQ⟩
  ·rw [if_neg c3] at H
   exact absurd H (by simp)
 ·rw [if_neg c2] at H
  exact absurd H (by simp)

end Go.Proofs.Ytfabhfdjabehpaa.QFnExactSourceText
