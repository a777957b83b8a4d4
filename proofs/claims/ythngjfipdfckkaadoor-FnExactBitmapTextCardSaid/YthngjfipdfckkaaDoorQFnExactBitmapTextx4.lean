/- What some Go functions answer, each as a Lean function, and that the machine answers so: written by a program of this session out of the translation. -/
import Derived.Test.YthngjfipdfckkaaDoorQFnExactBitmapTextx0
import Derived.Test.YthngjfipdfckkaaDoorQFnExactBitmapTextx2
import Derived.Test.YthngjfipdfckkaaDoorQFnExactBitmapTextx3
namespace Go.Proofs.YthngjfipdfckkaaDoor.QFnExactBitmapText
open Go.RowKit Go.Proofs.YthngjfipdfckkaaDoorW.PrintWords Go.Proofs.YthngjfipdfckkaaDoorW.PrintLast Go.Proofs.YthngjfipdfckkaaDoorW.PrintMore Go.Proofs.YthngjfipdfckkaaDoor.Rp
attribute [local go_sem] max2_int min2_int max_two min_two max_three min_three max_four min_four   -- for this text's walks alone
set_option linter.unusedVariables false
set_option linter.unusedSimpArgs false

/-! ### spec_l22Lines_at: function 38 -/
abbrev mkspec_l548_0 : Array Bool := #[ff,ff,ff,ff,ff,ff,ff,ff,ff,ff,ff,ff,ff,ff,ff]
abbrev mkspec_l548_1 : Array Bool := #[tt,ff,ff,ff,ff,ff,ff,ff,ff,ff,ff,ff,ff,ff,ff]
abbrev mkspec_l548_2 : Array Bool := #[tt,tt,ff,ff,ff,ff,ff,ff,ff,ff,ff,ff,ff,ff,ff]
abbrev mkspec_l548_3 : Array Bool := #[tt,tt,tt,ff,ff,ff,ff,ff,ff,ff,ff,ff,ff,ff,ff]
abbrev mkspec_l548_4 : Array Bool := #[tt,tt,tt,ff,ff,ff,ff,tt,ff,ff,ff,ff,ff,ff,ff]
abbrev mkspec_l548_5 : Array Bool := #[tt,tt,tt,ff,ff,ff,ff,tt,tt,ff,ff,ff,ff,ff,ff]
abbrev mkspec_l548_6 : Array Bool := #[tt,tt,tt,ff,ff,ff,ff,tt,tt,tt,ff,ff,ff,ff,ff]
abbrev mkspec_l548_7 : Array Bool := #[tt,tt,tt,tt,ff,ff,ff,tt,tt,tt,ff,ff,ff,ff,ff]
abbrev mkspec_l548_8 : Array Bool := #[tt,tt,tt,tt,ff,ff,ff,tt,tt,tt,tt,ff,ff,ff,ff]
abbrev mkspec_l548_9 : Array Bool := #[tt,tt,tt,tt,tt,ff,ff,tt,tt,tt,tt,ff,ff,ff,ff]
abbrev mkspec_l548_10 : Array Bool := #[tt,tt,tt,tt,tt,tt,ff,tt,tt,tt,tt,ff,ff,ff,ff]
abbrev mkspec_l548_11 : Array Bool := #[tt,tt,tt,tt,tt,tt,tt,tt,tt,tt,tt,ff,ff,ff,ff]
abbrev mkspec_l548_12 : Array Bool := #[tt,tt,tt,tt,tt,tt,tt,tt,tt,tt,tt,tt,ff,ff,ff]
abbrev mkspec_l548_13 : Array Bool := #[tt,tt,tt,tt,tt,tt,tt,tt,tt,tt,tt,tt,tt,ff,ff]
abbrev mkspec_l548_14 : Array Bool := #[tt,tt,tt,tt,tt,tt,tt,tt,tt,tt,tt,tt,tt,tt,ff]
abbrev mkspec_l548_15 : Array Bool := #[tt,tt,tt,tt,tt,tt,tt,tt,tt,tt,tt,tt,tt,tt,tt]
def spec_l22Lines_at.l0 : Nat → ByteArray → Int → List (S27) → Int → Option (ByteArray)
 | 0, _, _, _, _ => none
 | k + 1, x3, x4, x1000, x1001 => if x4 < (((rd_T27 x1000 x1001).f3).length : Int) then (if 0 ≤ x4 then (if (rdOf ByteArray.empty ((rd_T27 x1000 x1001).f3) x4).size + 1 ≤ 9223372036854775807 then (if x3.size + ((rdOf ByteArray.empty ((rd_T27 x1000 x1001).f3) x4) ++ (⟨#[10]⟩ : ByteArray)).size ≤ 9223372036854775807 then (spec_l22Lines_at.l0 k (x3 ++ ((rdOf ByteArray.empty ((rd_T27 x1000 x1001).f3) x4) ++ (⟨#[10]⟩ : ByteArray))) (wrap64 (x4 + 1)) x1000 x1001) else (none)) else (none)) else (none)) else (some x3)
def spec_l22Lines_at.f (k : Nat) (l0_0 : List (S27)) (a0_1 : Int) : Option (ByteArray) := (spec_l01Dec.f k ((rd_T27 l0_0 a0_1).f0)).bind fun t158 => (if 7 + t158.size ≤ 9223372036854775807 then (if ((⟨#[98, 105, 116, 109, 97, 112, 32]⟩ : ByteArray) ++ t158).size + 1 ≤ 9223372036854775807 then ((spec_l01Dec.f k ((rd_T27 l0_0 a0_1).f1)).bind fun t160 => (if (((⟨#[98, 105, 116, 109, 97, 112, 32]⟩ : ByteArray) ++ t158) ++ (⟨#[32]⟩ : ByteArray)).size + t160.size ≤ 9223372036854775807 then (if ((((⟨#[98, 105, 116, 109, 97, 112, 32]⟩ : ByteArray) ++ t158) ++ (⟨#[32]⟩ : ByteArray)) ++ t160).size + 1 ≤ 9223372036854775807 then (spec_l22Lines_at.l0 k (((((⟨#[98, 105, 116, 109, 97, 112, 32]⟩ : ByteArray) ++ t158) ++ (⟨#[32]⟩ : ByteArray)) ++ t160) ++ (⟨#[10]⟩ : ByteArray)) 0 l0_0 a0_1) else (none)) else (none))) else (none)) else (none))
theorem spec_l22Lines_at.mono_l : ∀ k, (∀ y0 y1 y2 y3, LeO (spec_l22Lines_at.l0 k y0 y1 y2 y3) (spec_l22Lines_at.l0 (k + 1) y0 y1 y2 y3))
 | 0 => fun _ _ _ _ r h => by simp [spec_l22Lines_at.l0] at h
 | k + 1 => by
  have ih0 := spec_l22Lines_at.mono_l k
  ·intro y0 y1 y2 y3
   unfold spec_l22Lines_at.l0
   repeat' first
   | (with_reducible exact ih0 _ _ _ _)
   | (with_reducible exact spec_l01Dec.mono _ _)
   | (with_reducible exact LeO.refl _)
   | (with_reducible exact LeO.none _)
   | (with_reducible refine LeO.ite ?_ ?_)
   | (with_reducible refine LeO.bind ?_ (fun _ => ?_))
   | exact ih0 _ _ _ _
   | exact spec_l01Dec.mono _ _
   | exact LeO.none _
   | refine LeO.ite ?_ ?_
   | refine LeO.bind ?_ (fun _ => ?_)
theorem spec_l22Lines_at.mono : ∀ a0 a1 k, LeO (spec_l22Lines_at.f k a0 a1) (spec_l22Lines_at.f (k + 1) a0 a1) := by
 intro a0 a1 k
 have ih0 := spec_l22Lines_at.mono_l k
 unfold spec_l22Lines_at.f
 repeat' first
   | (with_reducible exact ih0 _ _ _ _)
   | (with_reducible exact spec_l01Dec.mono _ _)
   | (with_reducible exact LeO.refl _)
   | (with_reducible exact LeO.none _)
   | (with_reducible refine LeO.ite ?_ ?_)
   | (with_reducible refine LeO.bind ?_ (fun _ => ?_))
   | exact ih0 _ _ _ _
   | exact spec_l01Dec.mono _ _
   | exact LeO.none _
   | refine LeO.ite ?_ ?_
   | refine LeO.bind ?_ (fun _ => ?_)
def spec_l22Lines_at.T1 : Bool × List (List Nat × List Nat) := (true, [([], []), ([0], [0]), ([1], [1]), ([2], [2]), ([3], [3]), ([4], [4]), ([5], [5]), ([], []), ([7], [7]), ([8], [8]), ([9], [9]), ([10, 4], [10]), ([6, 11], [6, 11]), ([12], [12]), ([13, 11, 0, 1, 2, 3, 4, 5, 6, 7, 8, 9, 10, 11, 12, 13], [13])])
def spec_l22Lines_at.B1 : List Nat := [0, 1, 3, 7, 15, 31, 63, 0, 128, 384, 896, 1951, 4095, 8191, 16383]
theorem spec_l22Lines_at.tab1 : rtab .any (opsOf Tryd.f38 1) = spec_l22Lines_at.T1 := by kernel_rfl
theorem spec_l22Lines_at.bits1 : waitsOk spec_l22Lines_at.T1.2 spec_l22Lines_at.B1 = true := by kernel_rfl
set_option maxHeartbeats 8000000 in
set_option maxRecDepth 100000 in
theorem spec_l22Lines_at.calls (k : Nat) (p0_ : Addr) (l0_0 : List (S27)) (a0_1 : Int) (r : ByteArray) (w : World) (hP0_ : RPtr k27 ((a0_1 : Int).toNat * 4) w p0_ l0_0 a0_1) (h : spec_l22Lines_at.f k l0_0 a0_1 = some r) :
  Calls Tryd.prog 38 #[.pointer (some p0_)] w fun e w' => e = .returned (.string r) ∧ Below w.heap.size w w' := by
 obtain ⟨ad0_, rfl, hr0_0, hi0_, hj0_⟩ := hP0_
 have hc0_0 : l0_0.length ≤ l0_0.length := Nat.le_refl _
 replace hi0_ := decide_eq_true hi0_
 replace hj0_ := decide_eq_true hj0_
 obtain ⟨ad9000, A9000_3, c9000_3, e9000, HX9000_0, HX9000_1, HX9000_2, HX9000_3, HC9000_3, HR9000_3⟩ := at_T27 hr0_0 a0_1 (of_decide_eq_true hi0_) (of_decide_eq_true hj0_)
 obtain rfl : ad0_ = ad9000 := (by injection e9000)
 replace HX9000_0 := aM HX9000_0
 replace HX9000_1 := aM HX9000_1
 replace HX9000_2 := aM HX9000_2
 replace HX9000_3 := aM HX9000_3
 replace HC9000_3 := aM HC9000_3
 replace HR9000_3 := aM HR9000_3
 have HR0_0 := aM hr0_0
 have HC0_0 := aM hc0_0
 clear hr0_0 hc0_0
 have HB := aM (Below.refl w.heap.size w)
 have H : ((spec_l01Dec.f k ((rd_T27 l0_0 a0_1).f0)).bind fun t158 => (if 7 + t158.size ≤ 9223372036854775807 then (if ((⟨#[98, 105, 116, 109, 97, 112, 32]⟩ : ByteArray) ++ t158).size + 1 ≤ 9223372036854775807 then ((spec_l01Dec.f k ((rd_T27 l0_0 a0_1).f1)).bind fun t160 => (if (((⟨#[98, 105, 116, 109, 97, 112, 32]⟩ : ByteArray) ++ t158) ++ (⟨#[32]⟩ : ByteArray)).size + t160.size ≤ 9223372036854775807 then (if ((((⟨#[98, 105, 116, 109, 97, 112, 32]⟩ : ByteArray) ++ t158) ++ (⟨#[32]⟩ : ByteArray)) ++ t160).size + 1 ≤ 9223372036854775807 then (spec_l22Lines_at.l0 k (((((⟨#[98, 105, 116, 109, 97, 112, 32]⟩ : ByteArray) ++ t158) ++ (⟨#[32]⟩ : ByteArray)) ++ t160) ++ (⟨#[10]⟩ : ByteArray)) 0 l0_0 a0_1) else (none)) else (none))) else (none)) else (none))) = some r := h
 clear h
 replace H := Option.bind_eq_some_iff.mp H
 obtain ⟨t158, A20, H⟩ := H
 replace H : (if 7 + t158.size ≤ 9223372036854775807 then (if ((⟨#[98, 105, 116, 109, 97, 112, 32]⟩ : ByteArray) ++ t158).size + 1 ≤ 9223372036854775807 then ((spec_l01Dec.f k ((rd_T27 l0_0 a0_1).f1)).bind fun t160 => (if (((⟨#[98, 105, 116, 109, 97, 112, 32]⟩ : ByteArray) ++ t158) ++ (⟨#[32]⟩ : ByteArray)).size + t160.size ≤ 9223372036854775807 then (if ((((⟨#[98, 105, 116, 109, 97, 112, 32]⟩ : ByteArray) ++ t158) ++ (⟨#[32]⟩ : ByteArray)) ++ t160).size + 1 ≤ 9223372036854775807 then (spec_l22Lines_at.l0 k (((((⟨#[98, 105, 116, 109, 97, 112, 32]⟩ : ByteArray) ++ t158) ++ (⟨#[32]⟩ : ByteArray)) ++ t160) ++ (⟨#[10]⟩ : ByteArray)) 0 l0_0 a0_1) else (none)) else (none))) else (none)) else (none)) = some r := H
 have A2 := aM A20
 clear A20
 by_cases c3 : 7 + t158.size ≤ 9223372036854775807
 ·rw [if_pos c3] at H
  have c3b0 := eq_true c3
  have c3b1 : decide (7 + t158.size ≤ 9223372036854775807) = true := decide_eq_true c3
  try have c3b2 : (9223372036854775807 < 7 + t158.size) = False := eq_false (Nat.not_lt.2 c3)
  by_cases c4 : ((⟨#[98, 105, 116, 109, 97, 112, 32]⟩ : ByteArray) ++ t158).size + 1 ≤ 9223372036854775807
  ·rw [if_pos c4] at H
   have c4b0 := eq_true c4
   have c4b1 : decide (((⟨#[98, 105, 116, 109, 97, 112, 32]⟩ : ByteArray) ++ t158).size + 1 ≤ 9223372036854775807) = true := decide_eq_true c4
   try have c4b2 : (9223372036854775807 < ((⟨#[98, 105, 116, 109, 97, 112, 32]⟩ : ByteArray) ++ t158).size + 1) = False := eq_false (Nat.not_lt.2 c4)
   try have c4b3 : (9223372036854775807 < 7 + t158.size + 1) = False := eq_false (Nat.not_lt.2 (by have h_ := c4; simp only [ByteArray.size_append] at h_; exact h_))
   replace H := Option.bind_eq_some_iff.mp H
   obtain ⟨t160, A50, H⟩ := H
   replace H : (if (((⟨#[98, 105, 116, 109, 97, 112, 32]⟩ : ByteArray) ++ t158) ++ (⟨#[32]⟩ : ByteArray)).size + t160.size ≤ 9223372036854775807 then (if ((((⟨#[98, 105, 116, 109, 97, 112, 32]⟩ : ByteArray) ++ t158) ++ (⟨#[32]⟩ : ByteArray)) ++ t160).size + 1 ≤ 9223372036854775807 then (spec_l22Lines_at.l0 k (((((⟨#[98, 105, 116, 109, 97, 112, 32]⟩ : ByteArray) ++ t158) ++ (⟨#[32]⟩ : ByteArray)) ++ t160) ++ (⟨#[10]⟩ : ByteArray)) 0 l0_0 a0_1) else (none)) else (none)) = some r := H
   have A5 := aM A50
   clear A50
   by_cases c6 : (((⟨#[98, 105, 116, 109, 97, 112, 32]⟩ : ByteArray) ++ t158) ++ (⟨#[32]⟩ : ByteArray)).size + t160.size ≤ 9223372036854775807
   ·rw [if_pos c6] at H
    have c6b0 := eq_true c6
    have c6b1 : decide ((((⟨#[98, 105, 116, 109, 97, 112, 32]⟩ : ByteArray) ++ t158) ++ (⟨#[32]⟩ : ByteArray)).size + t160.size ≤ 9223372036854775807) = true := decide_eq_true c6
    try have c6b2 : (9223372036854775807 < (((⟨#[98, 105, 116, 109, 97, 112, 32]⟩ : ByteArray) ++ t158) ++ (⟨#[32]⟩ : ByteArray)).size + t160.size) = False := eq_false (Nat.not_lt.2 c6)
    try have c6b3 : (9223372036854775807 < 7 + t158.size + 1 + t160.size) = False := eq_false (Nat.not_lt.2 (by have h_ := c6; simp only [ByteArray.size_append] at h_; exact h_))
    by_cases c7 : ((((⟨#[98, 105, 116, 109, 97, 112, 32]⟩ : ByteArray) ++ t158) ++ (⟨#[32]⟩ : ByteArray)) ++ t160).size + 1 ≤ 9223372036854775807
    ·rw [if_pos c7] at H
     have c7b0 := eq_true c7
     have c7b1 : decide (((((⟨#[98, 105, 116, 109, 97, 112, 32]⟩ : ByteArray) ++ t158) ++ (⟨#[32]⟩ : ByteArray)) ++ t160).size + 1 ≤ 9223372036854775807) = true := decide_eq_true c7
     try have c7b2 : (9223372036854775807 < ((((⟨#[98, 105, 116, 109, 97, 112, 32]⟩ : ByteArray) ++ t158) ++ (⟨#[32]⟩ : ByteArray)) ++ t160).size + 1) = False := eq_false (Nat.not_lt.2 c7)
     try have c7b3 : (9223372036854775807 < 7 + t158.size + 1 + t160.size + 1) = False := eq_false (Nat.not_lt.2 (by have h_ := c7; simp only [ByteArray.size_append] at h_; exact h_))
     have H' := aM H
     clear H
     go_enter Tryd.func38, Tryd.ntmps38
     try go_wp2
     have n0_ := aM (below_drew1 HB.out)
     clear HB
     have HB := n0_
     clear n0_
     have hx157_0 := HX9000_0.out
     have hx157_1 := HX9000_1.out
     have hx157_2 := HX9000_2.out
     have hx157_3 := HX9000_3.out
     have hw157_3 := hx157_3
     have hw157_2 := hx157_2
     have hw157_1 := hx157_1
     have hw157_0 := hx157_0
     replace hx157_0 := cB HB.out hx157_0
     replace hx157_1 := cB HB.out hx157_1
     replace hx157_2 := cB HB.out hx157_2
     replace hx157_3 := cB HB.out hx157_3
     have HR157_3 := HR9000_3
     have HC157_3 := HC9000_3
     have hx159_0 := HX9000_0.out
     have hx159_1 := HX9000_1.out
     have hx159_2 := HX9000_2.out
     have hx159_3 := HX9000_3.out
     have hw159_3 := hx159_3
     have hw159_2 := hx159_2
     have hw159_1 := hx159_1
     have hw159_0 := hx159_0
     replace hx159_0 := cB HB.out hx159_0
     replace hx159_1 := cB HB.out hx159_1
     replace hx159_2 := cB HB.out hx159_2
     replace hx159_3 := cB HB.out hx159_3
     have HR159_3 := HR9000_3
     have HC159_3 := HC9000_3
     refine start_ (n := 15) (S := fun w' => w'.cell? (ad0_.add ((a0_1).toNat * 4)) = some (.int .i64 ((rd_T27 l0_0 a0_1).f0)) ∧ w'.cell? ⟨(ad0_.add ((a0_1).toNat * 4)).block, (ad0_.add ((a0_1).toNat * 4)).off + 1, none⟩ = some (.int .i64 ((rd_T27 l0_0 a0_1).f1)) ∧ w'.cell? ⟨(ad0_.add ((a0_1).toNat * 4)).block, (ad0_.add ((a0_1).toNat * 4)).off + 2, none⟩ = some (.int .i64 ((rd_T27 l0_0 a0_1).f2)) ∧ w'.cell? ⟨(ad0_.add ((a0_1).toNat * 4)).block, (ad0_.add ((a0_1).toNat * 4)).off + 3, none⟩ = some (.slice A9000_3 ((rd_T27 l0_0 a0_1).f3).length c9000_3) ∧ w'.cell? (ad0_.add ((a0_1).toNat * 4)) = some (.int .i64 ((rd_T27 l0_0 a0_1).f0)) ∧ w'.cell? ⟨(ad0_.add ((a0_1).toNat * 4)).block, (ad0_.add ((a0_1).toNat * 4)).off + 1, none⟩ = some (.int .i64 ((rd_T27 l0_0 a0_1).f1)) ∧ w'.cell? ⟨(ad0_.add ((a0_1).toNat * 4)).block, (ad0_.add ((a0_1).toNat * 4)).off + 2, none⟩ = some (.int .i64 ((rd_T27 l0_0 a0_1).f2)) ∧ w'.cell? ⟨(ad0_.add ((a0_1).toNat * 4)).block, (ad0_.add ((a0_1).toNat * 4)).off + 3, none⟩ = some (.slice A9000_3 ((rd_T27 l0_0 a0_1).f3).length c9000_3)) (ds := []) mkspec_l548_0 (by kernel_rfl) rfl rfl ⟨(cB HB.out hw157_0), (cB HB.out hw157_1), (cB HB.out hw157_2), (cB HB.out hw157_3), (cB HB.out hw159_0), (cB HB.out hw159_1), (cB HB.out hw159_2), (cB HB.out hw159_3)⟩ (fun hHeld => ?_); refine with_tabW spec_l22Lines_at.tab1 spec_l22Lines_at.bits1 (fun HT_ HW_ => ?_)
     generalize w.drew = w8 at HB HR157_3 HR159_3 hx157_0 hx157_1 hx157_2 hx157_3 hx159_0 hx159_1 hx159_2 hx159_3 hHeld ⊢
     refine pQ (i := 0) (N := some 5) mkspec_l548_1 ?_
     refine pQ (i := 1) (N := some 6) mkspec_l548_2 ?_
     refine pQ (i := 2) (N := some 7) mkspec_l548_3 ?_
     refine pQ (i := 7) (N := some 12) mkspec_l548_4 ?_
     refine pQ (i := 8) (N := some 13) mkspec_l548_5 ?_
     refine pQ (i := 9) (N := some 14) mkspec_l548_6 ?_
     refine tQ (i := 3) (N := some 8) mkspec_l548_7 rfl hHeld (Or.inl ⟨by rfl, by rintro w' ⟨s0, s1, s2, s3, s4, s5, s6, s7⟩; go_simp; with_reducible rfl⟩) ?_
     refine tQ (i := 10) (N := some 15) mkspec_l548_8 rfl hHeld (Or.inl ⟨by rfl, by rintro w' ⟨s0, s1, s2, s3, s4, s5, s6, s7⟩; go_simp; with_reducible rfl⟩) ?_
     refine one_ (i := 4) (N := some 9) mkspec_l548_9 rfl rfl (one_of HT_.out (by kernel_rfl)) (by decide) (fun K hK => ?_)
     refine goes_ Tryd.func59 (by kernel_rfl) rfl #[.int .i64 ((rd_T27 l0_0 a0_1).f0)] (by rfl) rfl rfl gQ ?_
     with_reducible refine (spec_l01Dec.calls k ((rd_T27 l0_0 a0_1).f0) t158 _ A2.out).mono ?_
     rintro e w9 ⟨rfl, hb⟩
     refine ⟨_, rfl, ?_⟩
     have n0_ := aM (below_step bQ hb)
     clear HB
     have HB := n0_
     clear n0_
     (try clear hb)
     (try clear hb2)
     (try clear hk)
     (try clear hi)
     refine hK.out _ _ ⟨(cB HB.out hw157_0), (cB HB.out hw157_1), (cB HB.out hw157_2), (cB HB.out hw157_3), (cB HB.out hw159_0), (cB HB.out hw159_1), (cB HB.out hw159_2), (cB HB.out hw159_3)⟩ (fun hHeld => ?_)
     clear hK K
     refine norm_ (a' := ?_) ?_ ?_
     rotate_left
     ·show Act.put _ (some 9) _ = _
      simp only [Act.put, sI, sZ, sS, i64_w, i32_w]
      rfl
     refine pQ (i := 5) (N := some 10) mkspec_l548_10 ?_
     refine pQ (i := 6) (N := some 11) mkspec_l548_11 ?_
     refine one_ (i := 11) (N := some 16) mkspec_l548_12 rfl rfl (one_of HT_.out (by kernel_rfl)) (by decide) (fun K hK => ?_)
     refine goes_ Tryd.func59 (by kernel_rfl) rfl #[.int .i64 ((rd_T27 l0_0 a0_1).f1)] (by rfl) rfl rfl gQ ?_
     with_reducible refine (spec_l01Dec.calls k ((rd_T27 l0_0 a0_1).f1) t160 _ A5.out).mono ?_
     rintro e w10 ⟨rfl, hb⟩
     refine ⟨_, rfl, ?_⟩
     have n0_ := aM (below_step bQ hb)
     clear HB
     have HB := n0_
     clear n0_
     (try clear hb)
     (try clear hb2)
     (try clear hk)
     (try clear hi)
     refine hK.out _ _ ⟨(cB HB.out hw157_0), (cB HB.out hw157_1), (cB HB.out hw157_2), (cB HB.out hw157_3), (cB HB.out hw159_0), (cB HB.out hw159_1), (cB HB.out hw159_2), (cB HB.out hw159_3)⟩ (fun hHeld => ?_)
     clear hK K
     refine norm_ (a' := ?_) ?_ ?_
     rotate_left
     ·show Act.put _ (some 16) _ = _
      simp only [Act.put, sI, sZ, sS, i64_w, i32_w]
      rfl
     refine pQ (i := 12) (N := some 17) mkspec_l548_13 ?_
     refine pQ (i := 13) (N := some 18) mkspec_l548_14 ?_
     refine pQ (i := 14) (N := some 3) mkspec_l548_15 ?_
     refine done_ (done_of HT_.out (by kernel_rfl)) ?_
     try go_wp2
     go_loopg [3, 4] k (fun kq v3 v4 w' => ∃ (x3_1 : ByteArray) (x4_1 : Int), v3 = .string x3_1 ∧ v4 = .int .i64 x4_1 ∧ Aside0 (spec_l22Lines_at.l0 kq x3_1 x4_1 l0_0 a0_1 = some r) ∧ Aside0 (kq ≤ k) ∧ Aside0 (Below w.heap.size w w'))
     case atStart => exact ⟨(((((⟨#[98, 105, 116, 109, 97, 112, 32]⟩ : ByteArray) ++ t158) ++ (⟨#[32]⟩ : ByteArray)) ++ t160) ++ (⟨#[10]⟩ : ByteArray)), (0), rQ, rQ, H', ⟨Nat.le_refl _⟩, ⟨bQ⟩⟩
     case round =>
      clear H'
      try clear hx1
      try clear p2
      try clear c3
      try clear c3b0
      try clear c3b1
      try clear c3b2
      try clear c4
      try clear c4b0
      try clear c4b1
      try clear c4b2
      try clear c5
      try clear c6
      try clear c6b0
      try clear c6b1
      try clear c6b2
      try clear c7
      try clear c7b0
      try clear c7b1
      try clear c7b2
      try clear c9
      try clear hx157_0
      try clear hx157_1
      try clear hx157_2
      try clear hx157_3
      try clear hx159_0
      try clear hx159_1
      try clear hx159_2
      try clear hx159_3
      obtain ⟨x3_1, x4_1, rfl, rfl, HA, HK1, HB⟩ := hrel
      cases gk with
      | zero => exact absurd HA.out (by simp [spec_l22Lines_at.l0])
      | succ k1 =>
       have H := HA.out
       clear HA
       simp only [spec_l22Lines_at.l0] at H
       by_cases c11 : x4_1 < (((rd_T27 l0_0 a0_1).f3).length : Int)
       ·rw [if_pos c11] at H
        have c11b0 : decide (x4_1 < (((rd_T27 l0_0 a0_1).f3).length : Int)) = true := decide_eq_true c11
        clear c11
        by_cases c12 : 0 ≤ x4_1
        ·rw [if_pos c12] at H
         have c12b0 : decide (0 ≤ x4_1) = true := decide_eq_true c12
         clear c12
         by_cases c13 : (rdOf ByteArray.empty ((rd_T27 l0_0 a0_1).f3) x4_1).size + 1 ≤ 9223372036854775807
         ·rw [if_pos c13] at H
          have c13b0 := eq_true c13
          have c13b1 : decide ((rdOf ByteArray.empty ((rd_T27 l0_0 a0_1).f3) x4_1).size + 1 ≤ 9223372036854775807) = true := decide_eq_true c13
          try have c13b2 : (9223372036854775807 < (rdOf ByteArray.empty ((rd_T27 l0_0 a0_1).f3) x4_1).size + 1) = False := eq_false (Nat.not_lt.2 c13)
          by_cases c14 : x3_1.size + ((rdOf ByteArray.empty ((rd_T27 l0_0 a0_1).f3) x4_1) ++ (⟨#[10]⟩ : ByteArray)).size ≤ 9223372036854775807
          ·rw [if_pos c14] at H
           have c14b0 := eq_true c14
           have c14b1 : decide (x3_1.size + ((rdOf ByteArray.empty ((rd_T27 l0_0 a0_1).f3) x4_1) ++ (⟨#[10]⟩ : ByteArray)).size ≤ 9223372036854775807) = true := decide_eq_true c14
           try have c14b2 : (9223372036854775807 < x3_1.size + ((rdOf ByteArray.empty ((rd_T27 l0_0 a0_1).f3) x4_1) ++ (⟨#[10]⟩ : ByteArray)).size) = False := eq_false (Nat.not_lt.2 c14)
           try have c14b3 : (9223372036854775807 < x3_1.size + ((rdOf ByteArray.empty ((rd_T27 l0_0 a0_1).f3) x4_1).size + 1)) = False := eq_false (Nat.not_lt.2 (by have h_ := c14; simp only [ByteArray.size_append] at h_; exact h_))
           have H' := aM H
           clear H
           have hx161_0 := HX9000_0.out
           have hx161_1 := HX9000_1.out
           have hx161_2 := HX9000_2.out
           have hx161_3 := HX9000_3.out
           replace hx161_0 := cB HB.out hx161_0
           replace hx161_1 := cB HB.out hx161_1
           replace hx161_2 := cB HB.out hx161_2
           replace hx161_3 := cB HB.out hx161_3
           have HR161_3 := HR9000_3
           have HC161_3 := HC9000_3
           have hx162_0 := HX9000_0.out
           have hx162_1 := HX9000_1.out
           have hx162_2 := HX9000_2.out
           have hx162_3 := HX9000_3.out
           replace hx162_0 := cB HB.out hx162_0
           replace hx162_1 := cB HB.out hx162_1
           replace hx162_2 := cB HB.out hx162_2
           replace hx162_3 := cB HB.out hx162_3
           have HR162_3 := HR9000_3
           have HC162_3 := HC9000_3
           have p163 : 0 ≤ (x4_1 : Int) := dA
           have q163 : x4_1 < (((rd_T27 l0_0 a0_1).f3).length : Int) := dA
           obtain ⟨ad163, e163, hx163_0⟩ := Kd.at_string HR162_3.out x4_1 p163 q163
           cases e163
           replace hx163_0 := cB HB.out hx163_0
           replace p163 := eq_true p163
           replace q163 := eq_true q163
           go_wp2
           go_roundg k1
           case measure => have := HK1.out; omega
           case rel => exact ⟨(x3_1 ++ ((rdOf ByteArray.empty ((rd_T27 l0_0 a0_1).f3) x4_1) ++ (⟨#[10]⟩ : ByteArray))), (wrap64 (x4_1 + 1)), rQ, rQ, H', ⟨by have := HK1.out; omega⟩, ⟨bQ⟩⟩
          ·rw [if_neg c14] at H
           exact absurd H (by simp)
         ·rw [if_neg c13] at H
          exact absurd H (by simp)
        ·rw [if_neg c12] at H
         exact absurd H (by simp)
       ·rw [if_neg c11] at H
        have c11b0 : decide (x4_1 < (((rd_T27 l0_0 a0_1).f3).length : Int)) = false := decide_eq_false c11
        clear c11
        obtain rfl := Option.some.inj H
        have hx161_0 := HX9000_0.out
        have hx161_1 := HX9000_1.out
        have hx161_2 := HX9000_2.out
        have hx161_3 := HX9000_3.out
        replace hx161_0 := cB HB.out hx161_0
        replace hx161_1 := cB HB.out hx161_1
        replace hx161_2 := cB HB.out hx161_2
        replace hx161_3 := cB HB.out hx161_3
        have HR161_3 := HR9000_3
        have HC161_3 := HC9000_3
        go_wp2
        go_ret
        exact ⟨eQ, bQ⟩
    ·rw [if_neg c7] at H
     exact absurd H (by simp)
   ·rw [if_neg c6] at H
    exact absurd H (by simp)
  ·rw [if_neg c4] at H
   exact absurd H (by simp)
 ·rw [if_neg c3] at H
  exact absurd H (by simp)

/-! ### spec_BitmapText: function 18 -/
def spec_BitmapText.f (k : Nat) (a0_0 : Int) (a0_1 : Int) (a0_2 : Int) (l0_3 : List ByteArray) : Option (ByteArray) := (spec_l22Ok_at.f k [(⟨a0_0, a0_1, a0_2, l0_3⟩ : S27)] 0).bind fun t165 => (if t165 = true then ((spec_l22Lines_at.f k [(⟨a0_0, a0_1, a0_2, l0_3⟩ : S27)] 0).bind fun t166 => (some t166)) else (some (⟨#[]⟩ : ByteArray)))
theorem spec_BitmapText.mono : ∀ a0 a1 a2 a3 k, LeO (spec_BitmapText.f k a0 a1 a2 a3) (spec_BitmapText.f (k + 1) a0 a1 a2 a3) := by
 intro a0 a1 a2 a3 k
 unfold spec_BitmapText.f
 repeat' first
   | (with_reducible exact spec_l22Lines_at.mono _ _ _)
   | (with_reducible exact spec_l22Ok_at.mono _ _ _)
   | (with_reducible exact LeO.refl _)
   | (with_reducible exact LeO.none _)
   | (with_reducible refine LeO.ite ?_ ?_)
   | (with_reducible refine LeO.bind ?_ (fun _ => ?_))
   | exact spec_l22Lines_at.mono _ _ _
   | exact spec_l22Ok_at.mono _ _ _
   | exact LeO.none _
   | refine LeO.ite ?_ ?_
   | refine LeO.bind ?_ (fun _ => ?_)
set_option maxHeartbeats 8000000 in
set_option maxRecDepth 100000 in
theorem spec_BitmapText.calls (k : Nat) (a0_0 : Int) (a0_1 : Int) (a0_2 : Int) (A0_3 : Option Addr) (c0_3 : Nat) (l0_3 : List ByteArray) (r : ByteArray) (w : World) (hr0_3 : Kd.C Kd.string w A0_3 l0_3.length l0_3) (hc0_3 : l0_3.length ≤ c0_3) (h : spec_BitmapText.f k a0_0 a0_1 a0_2 l0_3 = some r) :
  Calls Tryd.prog 18 #[.agg #[.int .i64 a0_0, .int .i64 a0_1, .int .i64 a0_2, .slice A0_3 l0_3.length c0_3]] w fun e w' => e = .returned (.string r) ∧ Below w.heap.size w w' := by
 have hu27 := Tryd.underlying27
 have HR0_3 := aM hr0_3
 have HC0_3 := aM hc0_3
 clear hr0_3 hc0_3
 have HB := aM (Below.refl w.heap.size w)
 have H : ((spec_l22Ok_at.f k [(⟨a0_0, a0_1, a0_2, l0_3⟩ : S27)] 0).bind fun t165 => (if t165 = true then ((spec_l22Lines_at.f k [(⟨a0_0, a0_1, a0_2, l0_3⟩ : S27)] 0).bind fun t166 => (some t166)) else (some (⟨#[]⟩ : ByteArray)))) = some r := h
 clear h
 replace H := Option.bind_eq_some_iff.mp H
 obtain ⟨t165, A20, H⟩ := H
 replace H : (if t165 = true then ((spec_l22Lines_at.f k [(⟨a0_0, a0_1, a0_2, l0_3⟩ : S27)] 0).bind fun t166 => (some t166)) else (some (⟨#[]⟩ : ByteArray))) = some r := H
 have A2 := aM A20
 clear A20
 by_cases c3 : t165 = true
 ·subst c3
  have H1 : ((spec_l22Lines_at.f k [(⟨a0_0, a0_1, a0_2, l0_3⟩ : S27)] 0).bind fun t166 => (some t166)) = some r := by rw [if_pos rfl] at H; exact H
  clear H
  have H := H1
  clear H1
  replace H := Option.bind_eq_some_iff.mp H
  obtain ⟨t166, A40, H⟩ := H
  replace H : (some t166) = some r := H
  have A4 := aM A40
  clear A40
  obtain rfl := Option.some.inj H
  go_enter Tryd.func18, Tryd.ntmps18
  go_wp2_with (first | ((with_reducible refine gate_dst (N := 1) rfl ?_); refine box_event ?hg (N := 1) ?hd (cs := #[.int .i64 a0_0, .int .i64 a0_1, .int .i64 a0_2, .slice A0_3 l0_3.length c0_3]) (t := 27) ?hr ?_; (case hd => rfl); (case hg => rfl); (case hr => first | (go_simp; done) | (go_simp; rfl)); intro gb164 hg w5 hbox hb; have n0_ := aM (below_step bQ hb); have n1_ := aM (hbox); have n2_ := aM ((by rw [hg]; exact (below_size bQ) : w.heap.size ≤ gb164)); have n3_ := aM ((by rw [hg]; exact (below_size bQ) : w.heap.size ≤ gb164)); clear HB; have HB := n0_; have BK164 := n1_; have GW164 := n2_; have GE164 := n3_; clear n0_ n1_ n2_ n3_; clear hb hbox hg; have hcz6_0 : w5.cell? ⟨gb164, 0, none⟩ = some (.int .i64 a0_0) := (blk_cell BK164.out 0).trans rfl; have hcz6_1 : w5.cell? ⟨gb164, 1, none⟩ = some (.int .i64 a0_1) := (blk_cell BK164.out 1).trans rfl; have hcz6_2 : w5.cell? ⟨gb164, 2, none⟩ = some (.int .i64 a0_2) := (blk_cell BK164.out 2).trans rfl; have hcz6_3 : w5.cell? ⟨gb164, 3, none⟩ = some (.slice A0_3 l0_3.length c0_3) := (blk_cell BK164.out 3).trans rfl; have hfz6_0 := blk_frozen BK164.out 0; have hfz6_1 := blk_frozen BK164.out 1; have hfz6_2 := blk_frozen BK164.out 2; have hfz6_3 := blk_frozen BK164.out 3) | ((with_reducible refine gate_callee (f := 27) rfl ?_); refine goesL_ (some 3) rfl rfl Tryd.func27 (by kernel_rfl) rfl #[.pointer (some ⟨gb164, 0, none⟩)] rfl gQ ?_; (with_reducible refine (spec_l22Ok_at.calls k _ [(⟨a0_0, a0_1, a0_2, l0_3⟩ : S27)] 0 true _ ?side1 A2.out).mono ?_); (case side1 => exact RPtr.box (k27_mk _ _ (by exact HC0_3.out) (by repeat (first | exact (Kd.C_below HR0_3.out HB.out) | (with_reducible first | refine cA ?_ _ | refine cN ?_ _ | refine cD ?_)))) (by (with_reducible repeat (first | refine blk_drewN ?_ _ | refine blk_drew ?_ | refine blk_alloc ?_ _)); exact BK164.out) rfl); rintro e w7 ⟨rfl, hb⟩; refine ⟨_, rfl, ?_⟩; have n0_ := aM (blk_below (g := gb164) (o := .cells #[.int .i64 a0_0, .int .i64 a0_1, .int .i64 a0_2, .slice A0_3 l0_3.length c0_3] 27 (0, 0)) (by (with_reducible repeat (first | refine blk_drewN ?_ _ | refine blk_drew ?_ | refine blk_alloc ?_ _)); exact BK164.out) hb); have n1_ := aM (below_step (by repeat (first | (with_reducible first | exact HB.out | apply bA | apply bN | apply bD | refine below_set ?_ GE164.out) | exact HB.out)) hb); clear BK164; clear HB; have BK164 := n0_; have HB := n1_; clear n0_ n1_; (try clear hb); (try clear hb2); (try clear hk); (try clear hi); have hcz8_0 : w7.cell? ⟨gb164, 0, none⟩ = some (.int .i64 a0_0) := (blk_cell BK164.out 0).trans rfl; have hcz8_1 : w7.cell? ⟨gb164, 1, none⟩ = some (.int .i64 a0_1) := (blk_cell BK164.out 1).trans rfl; have hcz8_2 : w7.cell? ⟨gb164, 2, none⟩ = some (.int .i64 a0_2) := (blk_cell BK164.out 2).trans rfl; have hcz8_3 : w7.cell? ⟨gb164, 3, none⟩ = some (.slice A0_3 l0_3.length c0_3) := (blk_cell BK164.out 3).trans rfl; have hfz8_0 := blk_frozen BK164.out 0; have hfz8_1 := blk_frozen BK164.out 1; have hfz8_2 := blk_frozen BK164.out 2; have hfz8_3 := blk_frozen BK164.out 3) | ((with_reducible refine gate_callee (f := 38) rfl ?_); refine goesL_ (some 5) rfl rfl Tryd.func38 (by kernel_rfl) rfl #[.pointer (some ⟨gb164, 0, none⟩)] rfl gQ ?_; (with_reducible refine (spec_l22Lines_at.calls k _ [(⟨a0_0, a0_1, a0_2, l0_3⟩ : S27)] 0 t166 _ ?side1 A4.out).mono ?_); (case side1 => exact RPtr.box (k27_mk _ _ (by exact HC0_3.out) (by repeat (first | exact (Kd.C_below HR0_3.out HB.out) | (with_reducible first | refine cA ?_ _ | refine cN ?_ _ | refine cD ?_)))) (by (with_reducible repeat (first | refine blk_drewN ?_ _ | refine blk_drew ?_ | refine blk_alloc ?_ _)); exact BK164.out) rfl); rintro e w9 ⟨rfl, hb⟩; refine ⟨_, rfl, ?_⟩; have n0_ := aM (blk_below (g := gb164) (o := .cells #[.int .i64 a0_0, .int .i64 a0_1, .int .i64 a0_2, .slice A0_3 l0_3.length c0_3] 27 (0, 0)) (by (with_reducible repeat (first | refine blk_drewN ?_ _ | refine blk_drew ?_ | refine blk_alloc ?_ _)); exact BK164.out) hb); have n1_ := aM (below_step (by repeat (first | (with_reducible first | exact HB.out | apply bA | apply bN | apply bD | refine below_set ?_ GE164.out) | exact HB.out)) hb); clear BK164; clear HB; have BK164 := n0_; have HB := n1_; clear n0_ n1_; (try clear hb); (try clear hb2); (try clear hk); (try clear hi)))
  go_ret
  exact ⟨eQ, by repeat (first | (with_reducible first | exact HB.out | apply bA | apply bN | apply bD | refine below_set ?_ GE164.out) | exact HB.out)⟩
 ·replace c3 := Bool.eq_false_iff.mpr c3
  subst c3
  have H1 : (some (⟨#[]⟩ : ByteArray)) = some r := by rw [if_neg (show ¬ (false = true) by decide)] at H; exact H
  clear H
  have H := H1
  clear H1
  obtain rfl := Option.some.inj H
  go_enter Tryd.func18, Tryd.ntmps18
  go_wp2_with (first | ((with_reducible refine gate_dst (N := 1) rfl ?_); refine box_event ?hg (N := 1) ?hd (cs := #[.int .i64 a0_0, .int .i64 a0_1, .int .i64 a0_2, .slice A0_3 l0_3.length c0_3]) (t := 27) ?hr ?_; (case hd => rfl); (case hg => rfl); (case hr => first | (go_simp; done) | (go_simp; rfl)); intro gb164 hg w10 hbox hb; have n0_ := aM (below_step bQ hb); have n1_ := aM (hbox); have n2_ := aM ((by rw [hg]; exact (below_size bQ) : w.heap.size ≤ gb164)); have n3_ := aM ((by rw [hg]; exact (below_size bQ) : w.heap.size ≤ gb164)); clear HB; have HB := n0_; have BK164 := n1_; have GW164 := n2_; have GE164 := n3_; clear n0_ n1_ n2_ n3_; clear hb hbox hg; have hcz11_0 : w10.cell? ⟨gb164, 0, none⟩ = some (.int .i64 a0_0) := (blk_cell BK164.out 0).trans rfl; have hcz11_1 : w10.cell? ⟨gb164, 1, none⟩ = some (.int .i64 a0_1) := (blk_cell BK164.out 1).trans rfl; have hcz11_2 : w10.cell? ⟨gb164, 2, none⟩ = some (.int .i64 a0_2) := (blk_cell BK164.out 2).trans rfl; have hcz11_3 : w10.cell? ⟨gb164, 3, none⟩ = some (.slice A0_3 l0_3.length c0_3) := (blk_cell BK164.out 3).trans rfl; have hfz11_0 := blk_frozen BK164.out 0; have hfz11_1 := blk_frozen BK164.out 1; have hfz11_2 := blk_frozen BK164.out 2; have hfz11_3 := blk_frozen BK164.out 3) | ((with_reducible refine gate_callee (f := 27) rfl ?_); refine goesL_ (some 3) rfl rfl Tryd.func27 (by kernel_rfl) rfl #[.pointer (some ⟨gb164, 0, none⟩)] rfl gQ ?_; (with_reducible refine (spec_l22Ok_at.calls k _ [(⟨a0_0, a0_1, a0_2, l0_3⟩ : S27)] 0 false _ ?side1 A2.out).mono ?_); (case side1 => exact RPtr.box (k27_mk _ _ (by exact HC0_3.out) (by repeat (first | exact (Kd.C_below HR0_3.out HB.out) | (with_reducible first | refine cA ?_ _ | refine cN ?_ _ | refine cD ?_)))) (by (with_reducible repeat (first | refine blk_drewN ?_ _ | refine blk_drew ?_ | refine blk_alloc ?_ _)); exact BK164.out) rfl); rintro e w12 ⟨rfl, hb⟩; refine ⟨_, rfl, ?_⟩; have n0_ := aM (blk_below (g := gb164) (o := .cells #[.int .i64 a0_0, .int .i64 a0_1, .int .i64 a0_2, .slice A0_3 l0_3.length c0_3] 27 (0, 0)) (by (with_reducible repeat (first | refine blk_drewN ?_ _ | refine blk_drew ?_ | refine blk_alloc ?_ _)); exact BK164.out) hb); have n1_ := aM (below_step (by repeat (first | (with_reducible first | exact HB.out | apply bA | apply bN | apply bD | refine below_set ?_ GE164.out) | exact HB.out)) hb); clear BK164; clear HB; have BK164 := n0_; have HB := n1_; clear n0_ n1_; (try clear hb); (try clear hb2); (try clear hk); (try clear hi)))
  go_ret
  exact ⟨eQ, by repeat (first | (with_reducible first | exact HB.out | apply bA | apply bN | apply bD | refine below_set ?_ GE164.out) | exact HB.out)⟩

/-! ### strings_Trim: function 31, given -/
def strings_Trim.f (a0 : ByteArray) (a1 : ByteArray) : Option (ByteArray) := Go.Proofs.YthngjfipdfckkaaDoor.Gv.trimF a0 a1
theorem strings_Trim.calls (a0 : ByteArray) (a1 : ByteArray) (r : ByteArray) (w : World) (h : strings_Trim.f a0 a1 = some r) :
  Calls Tryd.prog 31 #[.string a0, .string a1] w fun e w' => e = .returned (.string r) ∧ Below w.heap.size w w' := Go.Proofs.YthngjfipdfckkaaDoor.Gv.trimF_calls a0 a1 r w h

/-! ### impl_ValidBitmap_1_at: function 30 -/
def impl_ValidBitmap_1_at.f (a0 : ByteArray) (l1_0 : List (S27)) (a1_1 : Int) : Option (Bool) := if (a0.size : Int) = ((rd_T27 l1_0 a1_1).f2) then ((strings_Trim.f a0 (⟨#[35, 46]⟩ : ByteArray)).bind fun t169 => (some (t169.toList != ([] : List UInt8)))) else (some true)
set_option maxHeartbeats 8000000 in
set_option maxRecDepth 100000 in
theorem impl_ValidBitmap_1_at.calls (a0 : ByteArray) (p1_ : Addr) (l1_0 : List (S27)) (a1_1 : Int) (r : Bool) (w : World) (hP1_ : RPtr k27 ((a1_1 : Int).toNat * 4) w p1_ l1_0 a1_1) (h : impl_ValidBitmap_1_at.f a0 l1_0 a1_1 = some r) :
  Calls Tryd.prog 30 #[.string a0, .pointer (some p1_)] w fun e w' => e = .returned (.bool r) ∧ Below w.heap.size w w' := by
 obtain ⟨ad1_, rfl, hr1_0, hi1_, hj1_⟩ := hP1_
 have hc1_0 : l1_0.length ≤ l1_0.length := Nat.le_refl _
 replace hi1_ := decide_eq_true hi1_
 replace hj1_ := decide_eq_true hj1_
 obtain ⟨ad9010, A9010_3, c9010_3, e9010, HX9010_0, HX9010_1, HX9010_2, HX9010_3, HC9010_3, HR9010_3⟩ := at_T27 hr1_0 a1_1 (of_decide_eq_true hi1_) (of_decide_eq_true hj1_)
 obtain rfl : ad1_ = ad9010 := (by injection e9010)
 replace HX9010_0 := aM HX9010_0
 replace HX9010_1 := aM HX9010_1
 replace HX9010_2 := aM HX9010_2
 replace HX9010_3 := aM HX9010_3
 replace HC9010_3 := aM HC9010_3
 replace HR9010_3 := aM HR9010_3
 have HR1_0 := aM hr1_0
 have HC1_0 := aM hc1_0
 clear hr1_0 hc1_0
 have HB := aM (Below.refl w.heap.size w)
 have H : (if (a0.size : Int) = ((rd_T27 l1_0 a1_1).f2) then ((strings_Trim.f a0 (⟨#[35, 46]⟩ : ByteArray)).bind fun t169 => (some (t169.toList != ([] : List UInt8)))) else (some true)) = some r := h
 clear h
 by_cases c3 : (a0.size : Int) = ((rd_T27 l1_0 a1_1).f2)
 ·rw [if_pos c3] at H
  have c3b0 : ((a0.size : Int) == ((rd_T27 l1_0 a1_1).f2)) = true := beq_iff_eq.mpr c3
  have c3b1 : ((a0.size : Int) != ((rd_T27 l1_0 a1_1).f2)) = false := bne_eq_false_iff_eq.mpr c3
  clear c3
  replace H := Option.bind_eq_some_iff.mp H
  obtain ⟨t169, A40, H⟩ := H
  replace H : (some (t169.toList != ([] : List UInt8))) = some r := H
  have A4 := aM A40
  clear A40
  obtain rfl := Option.some.inj H
  have hx168_0 := HX9010_0.out
  have hx168_1 := HX9010_1.out
  have hx168_2 := HX9010_2.out
  have hx168_3 := HX9010_3.out
  have HR168_3 := HR9010_3
  have HC168_3 := HC9010_3
  go_enter Tryd.func30, Tryd.ntmps30
  go_wp2_with (first | (go_at_call 31; (with_reducible refine (strings_Trim.calls a0 (⟨#[35, 46]⟩ : ByteArray) t169 _ A4.out).mono ?_); rintro e w5 ⟨rfl, hb⟩; have n0_ := aM (below_step bQ hb); clear HB; have HB := n0_; clear n0_; (try clear hb); (try clear hb2); (try clear hk); (try clear hi)))
  go_ret
  exact ⟨eQ, bQ⟩
 ·rw [if_neg c3] at H
  have c3b0 : ((a0.size : Int) == ((rd_T27 l1_0 a1_1).f2)) = false := beq_eq_false_iff_ne.mpr c3
  have c3b1 : ((a0.size : Int) != ((rd_T27 l1_0 a1_1).f2)) = true := bne_iff_ne.mpr c3
  obtain rfl := Option.some.inj H
  have hx168_0 := HX9010_0.out
  have hx168_1 := HX9010_1.out
  have hx168_2 := HX9010_2.out
  have hx168_3 := HX9010_3.out
  have HR168_3 := HR9010_3
  have HC168_3 := HC9010_3
  go_enter Tryd.func30, Tryd.ntmps30
  go_wp2
  go_ret
  exact ⟨eQ, bQ⟩

/-! ### slices_IndexFunc_string_string_by_impl_ValidBitmap_1: function 51 -/
def slices_IndexFunc_string_string_by_impl_ValidBitmap_1.l0 : Nat → List ByteArray → Int → Int → List (S27) → Int → Option (Int)
 | 0, _, _, _, _, _ => none
 | k + 1, x0, x7, x8, x1016, x1017 => if x8 < x7 then (if 0 ≤ x8 then (if x8 < (x0.length : Int) then ((impl_ValidBitmap_1_at.f (rdOf ByteArray.empty x0 x8) x1016 x1017).bind fun t171 => (if t171 = true then (some x8) else (slices_IndexFunc_string_string_by_impl_ValidBitmap_1.l0 k x0 x7 (wrap64 (x8 + 1)) x1016 x1017))) else (none)) else (none)) else (some (-1))
def slices_IndexFunc_string_string_by_impl_ValidBitmap_1.f (k : Nat) (l0 : List ByteArray) (l1_0 : List (S27)) (a1_1 : Int) : Option (Int) := slices_IndexFunc_string_string_by_impl_ValidBitmap_1.l0 k l0 (l0.length : Int) 0 l1_0 a1_1
theorem slices_IndexFunc_string_string_by_impl_ValidBitmap_1.mono_l : ∀ k, (∀ y0 y1 y2 y3 y4, LeO (slices_IndexFunc_string_string_by_impl_ValidBitmap_1.l0 k y0 y1 y2 y3 y4) (slices_IndexFunc_string_string_by_impl_ValidBitmap_1.l0 (k + 1) y0 y1 y2 y3 y4))
 | 0 => fun _ _ _ _ _ r h => by simp [slices_IndexFunc_string_string_by_impl_ValidBitmap_1.l0] at h
 | k + 1 => by
  have ih0 := slices_IndexFunc_string_string_by_impl_ValidBitmap_1.mono_l k
  ·intro y0 y1 y2 y3 y4
   unfold slices_IndexFunc_string_string_by_impl_ValidBitmap_1.l0
   repeat' first
   | (with_reducible exact ih0 _ _ _ _ _)
   | (with_reducible exact LeO.refl _)
   | (with_reducible exact LeO.none _)
   | (with_reducible refine LeO.ite ?_ ?_)
   | (with_reducible refine LeO.bind ?_ (fun _ => ?_))
   | exact ih0 _ _ _ _ _
   | exact LeO.none _
   | refine LeO.ite ?_ ?_
   | refine LeO.bind ?_ (fun _ => ?_)
theorem slices_IndexFunc_string_string_by_impl_ValidBitmap_1.mono : ∀ a0 a1 a2 k, LeO (slices_IndexFunc_string_string_by_impl_ValidBitmap_1.f k a0 a1 a2) (slices_IndexFunc_string_string_by_impl_ValidBitmap_1.f (k + 1) a0 a1 a2) := by
 intro a0 a1 a2 k
 have ih0 := slices_IndexFunc_string_string_by_impl_ValidBitmap_1.mono_l k
 unfold slices_IndexFunc_string_string_by_impl_ValidBitmap_1.f
 repeat' first
   | (with_reducible exact ih0 _ _ _ _ _)
   | (with_reducible exact LeO.refl _)
   | (with_reducible exact LeO.none _)
   | (with_reducible refine LeO.ite ?_ ?_)
   | (with_reducible refine LeO.bind ?_ (fun _ => ?_))
   | exact ih0 _ _ _ _ _
   | exact LeO.none _
   | refine LeO.ite ?_ ?_
   | refine LeO.bind ?_ (fun _ => ?_)
set_option maxHeartbeats 8000000 in
set_option maxRecDepth 100000 in
theorem slices_IndexFunc_string_string_by_impl_ValidBitmap_1.calls (k : Nat) (A0 : Option Addr) (c0 : Nat) (l0 : List ByteArray) (p1_ : Addr) (l1_0 : List (S27)) (a1_1 : Int) (r : Int) (w : World) (hr0 : Kd.C Kd.string w A0 l0.length l0) (hc0 : l0.length ≤ c0) (hP1_ : RPtr k27 ((a1_1 : Int).toNat * 4) w p1_ l1_0 a1_1) (h : slices_IndexFunc_string_string_by_impl_ValidBitmap_1.f k l0 l1_0 a1_1 = some r) :
  Calls Tryd.prog 51 #[.slice A0 l0.length c0, .func (.func 30) #[] #[.pointer (some p1_)]] w fun e w' => e = .returned (.int .i64 r) ∧ Below w.heap.size w w' := by
 obtain ⟨ad1_, rfl, hr1_0, hi1_, hj1_⟩ := hP1_
 have hc1_0 : l1_0.length ≤ l1_0.length := Nat.le_refl _
 replace hi1_ := decide_eq_true hi1_
 replace hj1_ := decide_eq_true hj1_
 obtain ⟨ad9010, A9010_3, c9010_3, e9010, HX9010_0, HX9010_1, HX9010_2, HX9010_3, HC9010_3, HR9010_3⟩ := at_T27 hr1_0 a1_1 (of_decide_eq_true hi1_) (of_decide_eq_true hj1_)
 obtain rfl : ad1_ = ad9010 := (by injection e9010)
 replace HX9010_0 := aM HX9010_0
 replace HX9010_1 := aM HX9010_1
 replace HX9010_2 := aM HX9010_2
 replace HX9010_3 := aM HX9010_3
 replace HC9010_3 := aM HC9010_3
 replace HR9010_3 := aM HR9010_3
 have HR0 := aM hr0
 have HC0 := aM hc0
 clear hr0 hc0
 have HR1_0 := aM hr1_0
 have HC1_0 := aM hc1_0
 clear hr1_0 hc1_0
 have HB := aM (Below.refl w.heap.size w)
 have H : (slices_IndexFunc_string_string_by_impl_ValidBitmap_1.l0 k l0 (l0.length : Int) 0 l1_0 a1_1) = some r := h
 clear h
 have H' := aM H
 clear H
 go_enter Tryd.func51, Tryd.ntmps51
 go_wp2
 go_loopg [8] k (fun kq v8 w' => ∃ (x8_1 : Int), v8 = .int .i64 x8_1 ∧ Aside0 (slices_IndexFunc_string_string_by_impl_ValidBitmap_1.l0 kq l0 (l0.length : Int) x8_1 l1_0 a1_1 = some r) ∧ Aside0 (kq ≤ k) ∧ Aside0 (Below w.heap.size w w'))
 case atStart => exact ⟨(0), rQ, H', ⟨Nat.le_refl _⟩, ⟨bQ⟩⟩
 case round =>
  clear H'
  try clear c1
  try clear p2
  obtain ⟨x8_1, rfl, HA, HK1, HB⟩ := hrel
  cases gk with
  | zero => exact absurd HA.out (by simp [slices_IndexFunc_string_string_by_impl_ValidBitmap_1.l0])
  | succ k1 =>
   have H := HA.out
   clear HA
   simp only [slices_IndexFunc_string_string_by_impl_ValidBitmap_1.l0] at H
   by_cases c3 : x8_1 < (l0.length : Int)
   ·rw [if_pos c3] at H
    have c3b0 : decide (x8_1 < (l0.length : Int)) = true := decide_eq_true c3
    clear c3
    by_cases c4 : 0 ≤ x8_1
    ·rw [if_pos c4] at H
     have c4b0 : decide (0 ≤ x8_1) = true := decide_eq_true c4
     clear c4
     by_cases c5 : x8_1 < (l0.length : Int)
     ·rw [if_pos c5] at H
      have c5b0 : decide (x8_1 < (l0.length : Int)) = true := decide_eq_true c5
      clear c5
      replace H := Option.bind_eq_some_iff.mp H
      obtain ⟨t171, A60, H⟩ := H
      replace H : (if t171 = true then (some x8_1) else (slices_IndexFunc_string_string_by_impl_ValidBitmap_1.l0 k1 l0 (l0.length : Int) (wrap64 (x8_1 + 1)) l1_0 a1_1)) = some r := H
      have A6 := aM A60
      clear A60
      by_cases c7 : t171 = true
      ·subst c7
       have H1 : (some x8_1) = some r := by rw [if_pos rfl] at H; exact H
       clear H
       have H := H1
       clear H1
       obtain rfl := Option.some.inj H
       have p170 : 0 ≤ (x8_1 : Int) := dA
       have q170 : x8_1 < (l0.length : Int) := dA
       obtain ⟨ad170, e170, hx170_0⟩ := Kd.at_string HR0.out x8_1 p170 q170
       cases e170
       replace hx170_0 := cB HB.out hx170_0
       replace p170 := eq_true p170
       replace q170 := eq_true q170
       go_wp2_with (first | (go_at_call 30; (with_reducible refine (impl_ValidBitmap_1_at.calls (rdOf ByteArray.empty l0 x8_1) _ l1_0 a1_1 true _ ?side1 A6.out).mono ?_); (case side1 => refine RPtr.mk_ (by repeat (first | exact (Kd.C_below HR1_0.out HB.out) | (with_reducible first | refine cA ?_ _ | refine cN ?_ _ | refine cD ?_))) (by first | rfl | exact (Addr.add_zero' _).symm) (by first | omega | exact dA | simp_all) (by first | exact dA | omega | simp_all)); rintro e w8 ⟨rfl, hb⟩; have n0_ := aM (below_step bQ hb); clear HB; have HB := n0_; clear n0_; (try clear hb); (try clear hb2); (try clear hk); (try clear hi)))
       go_ret
       exact ⟨eQ, bQ⟩
      ·replace c7 := Bool.eq_false_iff.mpr c7
       subst c7
       have H1 : (slices_IndexFunc_string_string_by_impl_ValidBitmap_1.l0 k1 l0 (l0.length : Int) (wrap64 (x8_1 + 1)) l1_0 a1_1) = some r := by rw [if_neg (show ¬ (false = true) by decide)] at H; exact H
       clear H
       have H := H1
       clear H1
       have H' := aM H
       clear H
       have p170 : 0 ≤ (x8_1 : Int) := dA
       have q170 : x8_1 < (l0.length : Int) := dA
       obtain ⟨ad170, e170, hx170_0⟩ := Kd.at_string HR0.out x8_1 p170 q170
       cases e170
       replace hx170_0 := cB HB.out hx170_0
       replace p170 := eq_true p170
       replace q170 := eq_true q170
       go_wp2_with (first | (go_at_call 30; (with_reducible refine (impl_ValidBitmap_1_at.calls (rdOf ByteArray.empty l0 x8_1) _ l1_0 a1_1 false _ ?side1 A6.out).mono ?_); (case side1 => refine RPtr.mk_ (by repeat (first | exact (Kd.C_below HR1_0.out HB.out) | (with_reducible first | refine cA ?_ _ | refine cN ?_ _ | refine cD ?_))) (by first | rfl | exact (Addr.add_zero' _).symm) (by first | omega | exact dA | simp_all) (by first | exact dA | omega | simp_all)); rintro e w9 ⟨rfl, hb⟩; have n0_ := aM (below_step bQ hb); clear HB; have HB := n0_; clear n0_; (try clear hb); (try clear hb2); (try clear hk); (try clear hi)))
       go_roundg k1
       case measure => have := HK1.out; omega
       case rel => exact ⟨(wrap64 (x8_1 + 1)), rQ, H', ⟨by have := HK1.out; omega⟩, ⟨bQ⟩⟩
     ·rw [if_neg c5] at H
      exact absurd H (by simp)
    ·rw [if_neg c4] at H
     exact absurd H (by simp)
   ·rw [if_neg c3] at H
    have c3b0 : decide (x8_1 < (l0.length : Int)) = false := decide_eq_false c3
    clear c3
    obtain rfl := Option.some.inj H
    go_wp2
    go_ret
    exact ⟨eQ, bQ⟩

/-! ### slices_ContainsFunc_string_string_by_impl_ValidBitmap_1: function 29 -/
def slices_ContainsFunc_string_string_by_impl_ValidBitmap_1.f (k : Nat) (l0 : List ByteArray) (l1_0 : List (S27)) (a1_1 : Int) : Option (Bool) := (slices_IndexFunc_string_string_by_impl_ValidBitmap_1.f k l0 l1_0 a1_1).bind fun t172 => (some (decide (t172 ≥ 0)))
theorem slices_ContainsFunc_string_string_by_impl_ValidBitmap_1.mono : ∀ a0 a1 a2 k, LeO (slices_ContainsFunc_string_string_by_impl_ValidBitmap_1.f k a0 a1 a2) (slices_ContainsFunc_string_string_by_impl_ValidBitmap_1.f (k + 1) a0 a1 a2) := by
 intro a0 a1 a2 k
 unfold slices_ContainsFunc_string_string_by_impl_ValidBitmap_1.f
 repeat' first
   | (with_reducible exact slices_IndexFunc_string_string_by_impl_ValidBitmap_1.mono _ _ _ _)
   | (with_reducible exact LeO.refl _)
   | (with_reducible exact LeO.none _)
   | (with_reducible refine LeO.ite ?_ ?_)
   | (with_reducible refine LeO.bind ?_ (fun _ => ?_))
   | exact slices_IndexFunc_string_string_by_impl_ValidBitmap_1.mono _ _ _ _
   | exact LeO.none _
   | refine LeO.ite ?_ ?_
   | refine LeO.bind ?_ (fun _ => ?_)
set_option maxHeartbeats 8000000 in
set_option maxRecDepth 100000 in
theorem slices_ContainsFunc_string_string_by_impl_ValidBitmap_1.calls (k : Nat) (A0 : Option Addr) (c0 : Nat) (l0 : List ByteArray) (p1_ : Addr) (l1_0 : List (S27)) (a1_1 : Int) (r : Bool) (w : World) (hr0 : Kd.C Kd.string w A0 l0.length l0) (hc0 : l0.length ≤ c0) (hP1_ : RPtr k27 ((a1_1 : Int).toNat * 4) w p1_ l1_0 a1_1) (h : slices_ContainsFunc_string_string_by_impl_ValidBitmap_1.f k l0 l1_0 a1_1 = some r) :
  Calls Tryd.prog 29 #[.slice A0 l0.length c0, .func (.func 30) #[] #[.pointer (some p1_)]] w fun e w' => e = .returned (.bool r) ∧ Below w.heap.size w w' := by
 obtain ⟨ad1_, rfl, hr1_0, hi1_, hj1_⟩ := hP1_
 have hc1_0 : l1_0.length ≤ l1_0.length := Nat.le_refl _
 replace hi1_ := decide_eq_true hi1_
 replace hj1_ := decide_eq_true hj1_
 obtain ⟨ad9010, A9010_3, c9010_3, e9010, HX9010_0, HX9010_1, HX9010_2, HX9010_3, HC9010_3, HR9010_3⟩ := at_T27 hr1_0 a1_1 (of_decide_eq_true hi1_) (of_decide_eq_true hj1_)
 obtain rfl : ad1_ = ad9010 := (by injection e9010)
 replace HX9010_0 := aM HX9010_0
 replace HX9010_1 := aM HX9010_1
 replace HX9010_2 := aM HX9010_2
 replace HX9010_3 := aM HX9010_3
 replace HC9010_3 := aM HC9010_3
 replace HR9010_3 := aM HR9010_3
 have HR0 := aM hr0
 have HC0 := aM hc0
 clear hr0 hc0
 have HR1_0 := aM hr1_0
 have HC1_0 := aM hc1_0
 clear hr1_0 hc1_0
 have HB := aM (Below.refl w.heap.size w)
 have H : ((slices_IndexFunc_string_string_by_impl_ValidBitmap_1.f k l0 l1_0 a1_1).bind fun t172 => (some (decide (t172 ≥ 0)))) = some r := h
 clear h
 replace H := Option.bind_eq_some_iff.mp H
 obtain ⟨t172, A30, H⟩ := H
 replace H : (some (decide (t172 ≥ 0))) = some r := H
 have A3 := aM A30
 clear A30
 obtain rfl := Option.some.inj H
 go_enter Tryd.func29, Tryd.ntmps29
 go_wp2_with (first | ((with_reducible refine gate_callee (f := 51) rfl ?_); refine goesL_ (some 7) rfl rfl Tryd.func51 (by kernel_rfl) rfl #[.slice A0 l0.length c0, .func (.func 30) #[] #[.pointer (some (ad1_.add ((a1_1 : Int).toNat * 4)))]] rfl gQ ?_; (with_reducible refine (slices_IndexFunc_string_string_by_impl_ValidBitmap_1.calls k _ _ l0 _ l1_0 a1_1 t172 _ ?side1 ?side2 ?side3 A3.out).mono ?_); (case side1 => repeat (first | exact HR0.out | (with_reducible first | refine cA ?_ _ | refine cN ?_ _ | refine cD ?_))); (case side2 => exact HC0.out); (case side3 => refine RPtr.mk_ (by repeat (first | exact HR1_0.out | (with_reducible first | refine cA ?_ _ | refine cN ?_ _ | refine cD ?_))) (by first | rfl | exact (Addr.add_zero' _).symm) (by first | omega | exact dA | simp_all) (by first | exact dA | omega | simp_all)); rintro e w4 ⟨rfl, hb⟩; refine ⟨_, rfl, ?_⟩; have n0_ := aM (below_step bQ hb); clear HB; have HB := n0_; clear n0_; (try clear hb); (try clear hb2); (try clear hk); (try clear hi)))
 go_ret
 exact ⟨eQ, bQ⟩

/-! ### impl_ValidBitmap: function 12 -/
def impl_ValidBitmap.f (k : Nat) (a0_0 : Int) (a0_1 : Int) (a0_2 : Int) (l0_3 : List ByteArray) : Option (Bool) := if (mx a0_0 a0_1) > 1048576 then (some false) else (if (mn a0_0 a0_1) < (-1048576) then (some false) else (if (l0_3.length : Int) > 128 then (some false) else (if a0_2 < 0 then (some false) else (if a0_2 > 128 then (some false) else (if ((a0_2 == 0) != ((l0_3.length : Int) == 0)) = true then (some false) else ((slices_ContainsFunc_string_string_by_impl_ValidBitmap_1.f k l0_3 [(⟨a0_0, a0_1, a0_2, l0_3⟩ : S27)] 0).bind fun t174 => (some (!t174))))))))
theorem impl_ValidBitmap.mono : ∀ a0 a1 a2 a3 k, LeO (impl_ValidBitmap.f k a0 a1 a2 a3) (impl_ValidBitmap.f (k + 1) a0 a1 a2 a3) := by
 intro a0 a1 a2 a3 k
 unfold impl_ValidBitmap.f
 repeat' first
   | (with_reducible exact slices_ContainsFunc_string_string_by_impl_ValidBitmap_1.mono _ _ _ _)
   | (with_reducible exact LeO.refl _)
   | (with_reducible exact LeO.none _)
   | (with_reducible refine LeO.ite ?_ ?_)
   | (with_reducible refine LeO.bind ?_ (fun _ => ?_))
   | exact slices_ContainsFunc_string_string_by_impl_ValidBitmap_1.mono _ _ _ _
   | exact LeO.none _
   | refine LeO.ite ?_ ?_
   | refine LeO.bind ?_ (fun _ => ?_)
set_option maxHeartbeats 8000000 in
set_option maxRecDepth 100000 in
theorem impl_ValidBitmap.calls (k : Nat) (a0_0 : Int) (a0_1 : Int) (a0_2 : Int) (A0_3 : Option Addr) (c0_3 : Nat) (l0_3 : List ByteArray) (r : Bool) (w : World) (hr0_3 : Kd.C Kd.string w A0_3 l0_3.length l0_3) (hc0_3 : l0_3.length ≤ c0_3) (h : impl_ValidBitmap.f k a0_0 a0_1 a0_2 l0_3 = some r) :
  Calls Tryd.prog 12 #[.agg #[.int .i64 a0_0, .int .i64 a0_1, .int .i64 a0_2, .slice A0_3 l0_3.length c0_3]] w fun e w' => e = .returned (.bool r) ∧ Below w.heap.size w w' := by
 have hu27 := Tryd.underlying27
 have HR0_3 := aM hr0_3
 have HC0_3 := aM hc0_3
 clear hr0_3 hc0_3
 have HB := aM (Below.refl w.heap.size w)
 have H : (if (mx a0_0 a0_1) > 1048576 then (some false) else (if (mn a0_0 a0_1) < (-1048576) then (some false) else (if (l0_3.length : Int) > 128 then (some false) else (if a0_2 < 0 then (some false) else (if a0_2 > 128 then (some false) else (if ((a0_2 == 0) != ((l0_3.length : Int) == 0)) = true then (some false) else ((slices_ContainsFunc_string_string_by_impl_ValidBitmap_1.f k l0_3 [(⟨a0_0, a0_1, a0_2, l0_3⟩ : S27)] 0).bind fun t174 => (some (!t174))))))))) = some r := h
 clear h
 obtain ⟨ji2, hji2⟩ : ∃ j_ : Int, (mx a0_0 a0_1) = j_ := ⟨_, rfl⟩
 replace H : (if (ji2) > 1048576 then (some false) else (if (mn a0_0 a0_1) < (-1048576) then (some false) else (if (l0_3.length : Int) > 128 then (some false) else (if a0_2 < 0 then (some false) else (if a0_2 > 128 then (some false) else (if ((a0_2 == 0) != ((l0_3.length : Int) == 0)) = true then (some false) else ((slices_ContainsFunc_string_string_by_impl_ValidBitmap_1.f k l0_3 [(⟨a0_0, a0_1, a0_2, l0_3⟩ : S27)] 0).bind fun t174 => (some (!t174))))))))) = some r := by first | (rw [hji2] at H; exact H) | (simp only [hji2] at H ⊢; exact H)
 have hji2_ : (if a0_0 < a0_1 then a0_1 else a0_0) = ji2 := hji2
 by_cases c3 : (ji2) > 1048576
 ·rw [if_pos c3] at H
  have c3b0 : decide (1048576 < (ji2)) = true := decide_eq_true c3
  clear c3
  obtain rfl := Option.some.inj H
  go_enter Tryd.func12, Tryd.ntmps12
  go_wp2_with (first | ((with_reducible refine gate_dst (N := 1) rfl ?_); (try (refine gate_guard (by rfl) ?_; dsimp only)); refine box_event ?hg (N := 1) ?hd (cs := #[.int .i64 a0_0, .int .i64 a0_1, .int .i64 a0_2, .slice A0_3 l0_3.length c0_3]) (t := 27) ?hr ?_; (case hd => rfl); (case hg => rfl); (case hr => first | (go_simp; done) | (go_simp; rfl)); intro gb173 hg w4 hbox hb; have n0_ := aM (below_step bQ hb); have n1_ := aM (hbox); have n2_ := aM ((by rw [hg]; exact (below_size bQ) : w.heap.size ≤ gb173)); have n3_ := aM ((by rw [hg]; exact (below_size bQ) : w.heap.size ≤ gb173)); clear HB; have HB := n0_; have BK173 := n1_; have GW173 := n2_; have GE173 := n3_; clear n0_ n1_ n2_ n3_; clear hb hbox hg; have hcz5_0 : w4.cell? ⟨gb173, 0, none⟩ = some (.int .i64 a0_0) := (blk_cell BK173.out 0).trans rfl; have hcz5_1 : w4.cell? ⟨gb173, 1, none⟩ = some (.int .i64 a0_1) := (blk_cell BK173.out 1).trans rfl; have hcz5_2 : w4.cell? ⟨gb173, 2, none⟩ = some (.int .i64 a0_2) := (blk_cell BK173.out 2).trans rfl; have hcz5_3 : w4.cell? ⟨gb173, 3, none⟩ = some (.slice A0_3 l0_3.length c0_3) := (blk_cell BK173.out 3).trans rfl; have hfz5_0 := blk_frozen BK173.out 0; have hfz5_1 := blk_frozen BK173.out 1; have hfz5_2 := blk_frozen BK173.out 2; have hfz5_3 := blk_frozen BK173.out 3))
  go_ret
  exact ⟨by first | rfl | (simp [errW_none, errW_some] <;> rfl) | (simp only [← hji2]; first | rfl | (simp [errW_none, errW_some] <;> rfl)) | (simp [*, errW_none, errW_some] <;> rfl), by repeat (first | (with_reducible first | exact HB.out | apply bA | apply bN | apply bD | refine below_set ?_ GE173.out) | exact HB.out)⟩
 ·rw [if_neg c3] at H
  have c3b0 : decide (1048576 < (ji2)) = false := decide_eq_false c3
  clear c3
  obtain ⟨ji6, hji6⟩ : ∃ j_ : Int, (mn a0_0 a0_1) = j_ := ⟨_, rfl⟩
  replace H : (if (ji6) < (-1048576) then (some false) else (if (l0_3.length : Int) > 128 then (some false) else (if a0_2 < 0 then (some false) else (if a0_2 > 128 then (some false) else (if ((a0_2 == 0) != ((l0_3.length : Int) == 0)) = true then (some false) else ((slices_ContainsFunc_string_string_by_impl_ValidBitmap_1.f k l0_3 [(⟨a0_0, a0_1, a0_2, l0_3⟩ : S27)] 0).bind fun t174 => (some (!t174)))))))) = some r := by first | (rw [hji6] at H; exact H) | (simp only [hji6] at H ⊢; exact H)
  have hji6_ : (if a0_1 < a0_0 then a0_1 else a0_0) = ji6 := hji6
  by_cases c7 : (ji6) < (-1048576)
  ·rw [if_pos c7] at H
   have c7b0 : decide ((ji6) < (-1048576)) = true := decide_eq_true c7
   clear c7
   obtain rfl := Option.some.inj H
   go_enter Tryd.func12, Tryd.ntmps12
   go_wp2_with (first | ((with_reducible refine gate_dst (N := 1) rfl ?_); (try (refine gate_guard (by rfl) ?_; dsimp only)); refine box_event ?hg (N := 1) ?hd (cs := #[.int .i64 a0_0, .int .i64 a0_1, .int .i64 a0_2, .slice A0_3 l0_3.length c0_3]) (t := 27) ?hr ?_; (case hd => rfl); (case hg => rfl); (case hr => first | (go_simp; done) | (go_simp; rfl)); intro gb173 hg w8 hbox hb; have n0_ := aM (below_step bQ hb); have n1_ := aM (hbox); have n2_ := aM ((by rw [hg]; exact (below_size bQ) : w.heap.size ≤ gb173)); have n3_ := aM ((by rw [hg]; exact (below_size bQ) : w.heap.size ≤ gb173)); clear HB; have HB := n0_; have BK173 := n1_; have GW173 := n2_; have GE173 := n3_; clear n0_ n1_ n2_ n3_; clear hb hbox hg; have hcz9_0 : w8.cell? ⟨gb173, 0, none⟩ = some (.int .i64 a0_0) := (blk_cell BK173.out 0).trans rfl; have hcz9_1 : w8.cell? ⟨gb173, 1, none⟩ = some (.int .i64 a0_1) := (blk_cell BK173.out 1).trans rfl; have hcz9_2 : w8.cell? ⟨gb173, 2, none⟩ = some (.int .i64 a0_2) := (blk_cell BK173.out 2).trans rfl; have hcz9_3 : w8.cell? ⟨gb173, 3, none⟩ = some (.slice A0_3 l0_3.length c0_3) := (blk_cell BK173.out 3).trans rfl; have hfz9_0 := blk_frozen BK173.out 0; have hfz9_1 := blk_frozen BK173.out 1; have hfz9_2 := blk_frozen BK173.out 2; have hfz9_3 := blk_frozen BK173.out 3))
   go_ret
   exact ⟨by first | rfl | (simp [errW_none, errW_some] <;> rfl) | (simp only [← hji2, ← hji6]; first | rfl | (simp [errW_none, errW_some] <;> rfl)) | (simp [*, errW_none, errW_some] <;> rfl), by repeat (first | (with_reducible first | exact HB.out | apply bA | apply bN | apply bD | refine below_set ?_ GE173.out) | exact HB.out)⟩
  ·rw [if_neg c7] at H
   have c7b0 : decide ((ji6) < (-1048576)) = false := decide_eq_false c7
   clear c7
   by_cases c10 : (l0_3.length : Int) > 128
   ·rw [if_pos c10] at H
    have c10b0 : decide (128 < (l0_3.length : Int)) = true := decide_eq_true c10
    have c10b1 : decide (128 < l0_3.length) = true := decide_eq_true (by omega)
    clear c10
    obtain rfl := Option.some.inj H
    go_enter Tryd.func12, Tryd.ntmps12
    go_wp2_with (first | ((with_reducible refine gate_dst (N := 1) rfl ?_); (try (refine gate_guard (by rfl) ?_; dsimp only)); refine box_event ?hg (N := 1) ?hd (cs := #[.int .i64 a0_0, .int .i64 a0_1, .int .i64 a0_2, .slice A0_3 l0_3.length c0_3]) (t := 27) ?hr ?_; (case hd => rfl); (case hg => rfl); (case hr => first | (go_simp; done) | (go_simp; rfl)); intro gb173 hg w11 hbox hb; have n0_ := aM (below_step bQ hb); have n1_ := aM (hbox); have n2_ := aM ((by rw [hg]; exact (below_size bQ) : w.heap.size ≤ gb173)); have n3_ := aM ((by rw [hg]; exact (below_size bQ) : w.heap.size ≤ gb173)); clear HB; have HB := n0_; have BK173 := n1_; have GW173 := n2_; have GE173 := n3_; clear n0_ n1_ n2_ n3_; clear hb hbox hg; have hcz12_0 : w11.cell? ⟨gb173, 0, none⟩ = some (.int .i64 a0_0) := (blk_cell BK173.out 0).trans rfl; have hcz12_1 : w11.cell? ⟨gb173, 1, none⟩ = some (.int .i64 a0_1) := (blk_cell BK173.out 1).trans rfl; have hcz12_2 : w11.cell? ⟨gb173, 2, none⟩ = some (.int .i64 a0_2) := (blk_cell BK173.out 2).trans rfl; have hcz12_3 : w11.cell? ⟨gb173, 3, none⟩ = some (.slice A0_3 l0_3.length c0_3) := (blk_cell BK173.out 3).trans rfl; have hfz12_0 := blk_frozen BK173.out 0; have hfz12_1 := blk_frozen BK173.out 1; have hfz12_2 := blk_frozen BK173.out 2; have hfz12_3 := blk_frozen BK173.out 3))
    go_ret
    exact ⟨by first | rfl | (simp [errW_none, errW_some] <;> rfl) | (simp only [← hji2, ← hji6]; first | rfl | (simp [errW_none, errW_some] <;> rfl)) | (simp [*, errW_none, errW_some] <;> rfl), by repeat (first | (with_reducible first | exact HB.out | apply bA | apply bN | apply bD | refine below_set ?_ GE173.out) | exact HB.out)⟩
   ·rw [if_neg c10] at H
    have c10b0 : decide (128 < (l0_3.length : Int)) = false := decide_eq_false c10
    have c10b1 : decide (128 < l0_3.length) = false := decide_eq_false (by omega)
    clear c10
    by_cases c13 : a0_2 < 0
    ·rw [if_pos c13] at H
     have c13b0 : decide (a0_2 < 0) = true := decide_eq_true c13
     clear c13
     obtain rfl := Option.some.inj H
     go_enter Tryd.func12, Tryd.ntmps12
     go_wp2_with (first | ((with_reducible refine gate_dst (N := 1) rfl ?_); (try (refine gate_guard (by rfl) ?_; dsimp only)); refine box_event ?hg (N := 1) ?hd (cs := #[.int .i64 a0_0, .int .i64 a0_1, .int .i64 a0_2, .slice A0_3 l0_3.length c0_3]) (t := 27) ?hr ?_; (case hd => rfl); (case hg => rfl); (case hr => first | (go_simp; done) | (go_simp; rfl)); intro gb173 hg w14 hbox hb; have n0_ := aM (below_step bQ hb); have n1_ := aM (hbox); have n2_ := aM ((by rw [hg]; exact (below_size bQ) : w.heap.size ≤ gb173)); have n3_ := aM ((by rw [hg]; exact (below_size bQ) : w.heap.size ≤ gb173)); clear HB; have HB := n0_; have BK173 := n1_; have GW173 := n2_; have GE173 := n3_; clear n0_ n1_ n2_ n3_; clear hb hbox hg; have hcz15_0 : w14.cell? ⟨gb173, 0, none⟩ = some (.int .i64 a0_0) := (blk_cell BK173.out 0).trans rfl; have hcz15_1 : w14.cell? ⟨gb173, 1, none⟩ = some (.int .i64 a0_1) := (blk_cell BK173.out 1).trans rfl; have hcz15_2 : w14.cell? ⟨gb173, 2, none⟩ = some (.int .i64 a0_2) := (blk_cell BK173.out 2).trans rfl; have hcz15_3 : w14.cell? ⟨gb173, 3, none⟩ = some (.slice A0_3 l0_3.length c0_3) := (blk_cell BK173.out 3).trans rfl; have hfz15_0 := blk_frozen BK173.out 0; have hfz15_1 := blk_frozen BK173.out 1; have hfz15_2 := blk_frozen BK173.out 2; have hfz15_3 := blk_frozen BK173.out 3))
     go_ret
     exact ⟨by first | rfl | (simp [errW_none, errW_some] <;> rfl) | (simp only [← hji2, ← hji6]; first | rfl | (simp [errW_none, errW_some] <;> rfl)) | (simp [*, errW_none, errW_some] <;> rfl), by repeat (first | (with_reducible first | exact HB.out | apply bA | apply bN | apply bD | refine below_set ?_ GE173.out) | exact HB.out)⟩
    ·rw [if_neg c13] at H
     have c13b0 : decide (a0_2 < 0) = false := decide_eq_false c13
     clear c13
     by_cases c16 : a0_2 > 128
     ·rw [if_pos c16] at H
      have c16b0 : decide (128 < a0_2) = true := decide_eq_true c16
      clear c16
      obtain rfl := Option.some.inj H
      go_enter Tryd.func12, Tryd.ntmps12
      go_wp2_with (first | ((with_reducible refine gate_dst (N := 1) rfl ?_); (try (refine gate_guard (by rfl) ?_; dsimp only)); refine box_event ?hg (N := 1) ?hd (cs := #[.int .i64 a0_0, .int .i64 a0_1, .int .i64 a0_2, .slice A0_3 l0_3.length c0_3]) (t := 27) ?hr ?_; (case hd => rfl); (case hg => rfl); (case hr => first | (go_simp; done) | (go_simp; rfl)); intro gb173 hg w17 hbox hb; have n0_ := aM (below_step bQ hb); have n1_ := aM (hbox); have n2_ := aM ((by rw [hg]; exact (below_size bQ) : w.heap.size ≤ gb173)); have n3_ := aM ((by rw [hg]; exact (below_size bQ) : w.heap.size ≤ gb173)); clear HB; have HB := n0_; have BK173 := n1_; have GW173 := n2_; have GE173 := n3_; clear n0_ n1_ n2_ n3_; clear hb hbox hg; have hcz18_0 : w17.cell? ⟨gb173, 0, none⟩ = some (.int .i64 a0_0) := (blk_cell BK173.out 0).trans rfl; have hcz18_1 : w17.cell? ⟨gb173, 1, none⟩ = some (.int .i64 a0_1) := (blk_cell BK173.out 1).trans rfl; have hcz18_2 : w17.cell? ⟨gb173, 2, none⟩ = some (.int .i64 a0_2) := (blk_cell BK173.out 2).trans rfl; have hcz18_3 : w17.cell? ⟨gb173, 3, none⟩ = some (.slice A0_3 l0_3.length c0_3) := (blk_cell BK173.out 3).trans rfl; have hfz18_0 := blk_frozen BK173.out 0; have hfz18_1 := blk_frozen BK173.out 1; have hfz18_2 := blk_frozen BK173.out 2; have hfz18_3 := blk_frozen BK173.out 3))
      go_ret
      exact ⟨by first | rfl | (simp [errW_none, errW_some] <;> rfl) | (simp only [← hji2, ← hji6]; first | rfl | (simp [errW_none, errW_some] <;> rfl)) | (simp [*, errW_none, errW_some] <;> rfl), by repeat (first | (with_reducible first | exact HB.out | apply bA | apply bN | apply bD | refine below_set ?_ GE173.out) | exact HB.out)⟩
     ·rw [if_neg c16] at H
      have c16b0 : decide (128 < a0_2) = false := decide_eq_false c16
      clear c16
      by_cases c19 : ((a0_2 == 0) != ((l0_3.length : Int) == 0)) = true
      ·rw [if_pos c19] at H
       have c19b0 : ((a0_2 == 0) != ((l0_3.length : Int) == 0)) = true := c19
       (try (have c19b1 : decide ((a0_2 == 0) = ((l0_3.length : Int) == 0)) = false := by simpa using c19))
       (try (have c19b2 : ((a0_2 == 0) == ((l0_3.length : Int) == 0)) = false := by simpa using c19))
       (try (have c19b3 : ¬ ((a0_2 == 0) = ((l0_3.length : Int) == 0)) := by simpa using c19))
       (try (have c19b4 : (!((a0_2 == 0) == ((l0_3.length : Int) == 0))) = true := by simpa using c19))
       clear c19
       obtain rfl := Option.some.inj H
       go_enter Tryd.func12, Tryd.ntmps12
       go_wp2_with (first | ((with_reducible refine gate_dst (N := 1) rfl ?_); (try (refine gate_guard (by rfl) ?_; dsimp only)); refine box_event ?hg (N := 1) ?hd (cs := #[.int .i64 a0_0, .int .i64 a0_1, .int .i64 a0_2, .slice A0_3 l0_3.length c0_3]) (t := 27) ?hr ?_; (case hd => rfl); (case hg => rfl); (case hr => first | (go_simp; done) | (go_simp; rfl)); intro gb173 hg w20 hbox hb; have n0_ := aM (below_step bQ hb); have n1_ := aM (hbox); have n2_ := aM ((by rw [hg]; exact (below_size bQ) : w.heap.size ≤ gb173)); have n3_ := aM ((by rw [hg]; exact (below_size bQ) : w.heap.size ≤ gb173)); clear HB; have HB := n0_; have BK173 := n1_; have GW173 := n2_; have GE173 := n3_; clear n0_ n1_ n2_ n3_; clear hb hbox hg; have hcz21_0 : w20.cell? ⟨gb173, 0, none⟩ = some (.int .i64 a0_0) := (blk_cell BK173.out 0).trans rfl; have hcz21_1 : w20.cell? ⟨gb173, 1, none⟩ = some (.int .i64 a0_1) := (blk_cell BK173.out 1).trans rfl; have hcz21_2 : w20.cell? ⟨gb173, 2, none⟩ = some (.int .i64 a0_2) := (blk_cell BK173.out 2).trans rfl; have hcz21_3 : w20.cell? ⟨gb173, 3, none⟩ = some (.slice A0_3 l0_3.length c0_3) := (blk_cell BK173.out 3).trans rfl; have hfz21_0 := blk_frozen BK173.out 0; have hfz21_1 := blk_frozen BK173.out 1; have hfz21_2 := blk_frozen BK173.out 2; have hfz21_3 := blk_frozen BK173.out 3))
       go_ret
       exact ⟨by first | rfl | (simp [errW_none, errW_some] <;> rfl) | (simp only [← hji2, ← hji6]; first | rfl | (simp [errW_none, errW_some] <;> rfl)) | (simp [*, errW_none, errW_some] <;> rfl), by repeat (first | (with_reducible first | exact HB.out | apply bA | apply bN | apply bD | refine below_set ?_ GE173.out) | exact HB.out)⟩
      ·rw [if_neg c19] at H
       have c19b0 : ((a0_2 == 0) != ((l0_3.length : Int) == 0)) = false := by simpa using c19
       (try (have c19b1 : decide ((a0_2 == 0) = ((l0_3.length : Int) == 0)) = true := by simpa using c19))
       (try (have c19b2 : ((a0_2 == 0) == ((l0_3.length : Int) == 0)) = true := by simpa using c19))
       (try (have c19b3 : (!((a0_2 == 0) == ((l0_3.length : Int) == 0))) = false := by simpa using c19))
       clear c19
       replace H := Option.bind_eq_some_iff.mp H
       obtain ⟨t174, A220, H⟩ := H
       replace H : (some (!t174)) = some r := H
       have A22 := aM A220
       clear A220
       obtain rfl := Option.some.inj H
       go_enter Tryd.func12, Tryd.ntmps12
       go_wp2_with (first | ((with_reducible refine gate_dst (N := 1) rfl ?_); (try (refine gate_guard (by rfl) ?_; dsimp only)); refine box_event ?hg (N := 1) ?hd (cs := #[.int .i64 a0_0, .int .i64 a0_1, .int .i64 a0_2, .slice A0_3 l0_3.length c0_3]) (t := 27) ?hr ?_; (case hd => rfl); (case hg => rfl); (case hr => first | (go_simp; done) | (go_simp; rfl)); intro gb173 hg w23 hbox hb; have n0_ := aM (below_step bQ hb); have n1_ := aM (hbox); have n2_ := aM ((by rw [hg]; exact (below_size bQ) : w.heap.size ≤ gb173)); have n3_ := aM ((by rw [hg]; exact (below_size bQ) : w.heap.size ≤ gb173)); clear HB; have HB := n0_; have BK173 := n1_; have GW173 := n2_; have GE173 := n3_; clear n0_ n1_ n2_ n3_; clear hb hbox hg; have hcz24_0 : w23.cell? ⟨gb173, 0, none⟩ = some (.int .i64 a0_0) := (blk_cell BK173.out 0).trans rfl; have hcz24_1 : w23.cell? ⟨gb173, 1, none⟩ = some (.int .i64 a0_1) := (blk_cell BK173.out 1).trans rfl; have hcz24_2 : w23.cell? ⟨gb173, 2, none⟩ = some (.int .i64 a0_2) := (blk_cell BK173.out 2).trans rfl; have hcz24_3 : w23.cell? ⟨gb173, 3, none⟩ = some (.slice A0_3 l0_3.length c0_3) := (blk_cell BK173.out 3).trans rfl; have hfz24_0 := blk_frozen BK173.out 0; have hfz24_1 := blk_frozen BK173.out 1; have hfz24_2 := blk_frozen BK173.out 2; have hfz24_3 := blk_frozen BK173.out 3) | ((with_reducible refine gate_callee (f := 29) rfl ?_); refine goesL_ (some 46) rfl rfl Tryd.func29 (by kernel_rfl) rfl #[.slice A0_3 l0_3.length c0_3, .func (.func 30) #[] #[.pointer (some ⟨gb173, 0, none⟩)]] rfl gQ ?_; (with_reducible refine (slices_ContainsFunc_string_string_by_impl_ValidBitmap_1.calls k _ _ l0_3 _ [(⟨a0_0, a0_1, a0_2, l0_3⟩ : S27)] 0 t174 _ ?side1 ?side2 ?side3 A22.out).mono ?_); (case side1 => exact cQ HR0_3.out); (case side2 => exact HC0_3.out); (case side3 => exact RPtr.box (k27_mk _ _ (by exact HC0_3.out) (by repeat (first | exact (Kd.C_below HR0_3.out HB.out) | (with_reducible first | refine cA ?_ _ | refine cN ?_ _ | refine cD ?_)))) (by (with_reducible repeat (first | refine blk_drewN ?_ _ | refine blk_drew ?_ | refine blk_alloc ?_ _)); exact BK173.out) rfl); rintro e w25 ⟨rfl, hb⟩; refine ⟨_, rfl, ?_⟩; have n0_ := aM (blk_below (g := gb173) (o := .cells #[.int .i64 a0_0, .int .i64 a0_1, .int .i64 a0_2, .slice A0_3 l0_3.length c0_3] 27 (0, 0)) (by (with_reducible repeat (first | refine blk_drewN ?_ _ | refine blk_drew ?_ | refine blk_alloc ?_ _)); exact BK173.out) hb); have n1_ := aM (below_step (by repeat (first | (with_reducible first | exact HB.out | apply bA | apply bN | apply bD | refine below_set ?_ GE173.out) | exact HB.out)) hb); clear BK173; clear HB; have BK173 := n0_; have HB := n1_; clear n0_ n1_; (try clear hb); (try clear hb2); (try clear hk); (try clear hi)))
       go_ret
       exact ⟨by first | rfl | (simp [errW_none, errW_some] <;> rfl) | (simp only [← hji2, ← hji6]; first | rfl | (simp [errW_none, errW_some] <;> rfl)) | (simp [*, errW_none, errW_some] <;> rfl), by repeat (first | (with_reducible first | exact HB.out | apply bA | apply bN | apply bD | refine below_set ?_ GE173.out) | exact HB.out)⟩

/-! ### impl_Decimal: function 39, given -/
def impl_Decimal.f (a0 : Int) : Option (ByteArray) := Go.Proofs.YthngjfipdfckkaaDoor.Gv.decF a0
theorem impl_Decimal.calls (a0 : Int) (r : ByteArray) (w : World) (h : impl_Decimal.f a0 = some r) :
  Calls Tryd.prog 39 #[.int .i64 a0] w fun e w' => e = .returned (.string r) ∧ Below w.heap.size w w' := Go.Proofs.YthngjfipdfckkaaDoor.Gv.decF_calls a0 r w h

end Go.Proofs.YthngjfipdfckkaaDoor.QFnExactBitmapText
