/- What some Go functions answer, each as a Lean function, and that the machine answers so: written by a program of this session out of the translation. -/
import Derived.Test.YthngjfipdfckkaaDoorQFnExactBitmapTextx0
import Derived.Test.YthngjfipdfckkaaDoorQFnExactBitmapTextx1
import Derived.Test.YthngjfipdfckkaaDoorQFnExactBitmapTextx4
namespace Go.Proofs.YthngjfipdfckkaaDoor.QFnExactBitmapText
open Go.RowKit Go.Proofs.YthngjfipdfckkaaDoorW.PrintWords Go.Proofs.YthngjfipdfckkaaDoorW.PrintLast Go.Proofs.YthngjfipdfckkaaDoorW.PrintMore Go.Proofs.YthngjfipdfckkaaDoor.Rp
attribute [local go_sem] max2_int min2_int max_two min_two max_three min_three max_four min_four   -- for this text's walks alone
set_option linter.unusedVariables false
set_option linter.unusedSimpArgs false

/-! ### impl_BitmapText: function 19 -/
abbrev mkimpl_B558_0 : Array Bool := #[ff,ff,ff,ff,ff,ff,ff,ff,ff,ff,ff]
abbrev mkimpl_B558_1 : Array Bool := #[tt,ff,ff,ff,ff,ff,ff,ff,ff,ff,ff]
abbrev mkimpl_B558_2 : Array Bool := #[tt,ff,ff,ff,ff,tt,ff,ff,ff,ff,ff]
abbrev mkimpl_B558_3 : Array Bool := #[tt,tt,ff,ff,ff,tt,ff,ff,ff,ff,ff]
abbrev mkimpl_B558_4 : Array Bool := #[tt,tt,ff,ff,ff,tt,tt,ff,ff,ff,ff]
abbrev mkimpl_B558_5 : Array Bool := #[tt,tt,tt,ff,ff,tt,tt,ff,ff,ff,ff]
abbrev mkimpl_B558_6 : Array Bool := #[tt,tt,tt,tt,ff,tt,tt,ff,ff,ff,ff]
abbrev mkimpl_B558_7 : Array Bool := #[tt,tt,tt,tt,tt,tt,tt,ff,ff,ff,ff]
abbrev mkimpl_B558_8 : Array Bool := #[tt,tt,tt,tt,tt,tt,tt,tt,ff,ff,ff]
abbrev mkimpl_B558_9 : Array Bool := #[tt,tt,tt,tt,tt,tt,tt,tt,tt,ff,ff]
abbrev mkimpl_B558_10 : Array Bool := #[tt,tt,tt,tt,tt,tt,tt,tt,tt,tt,ff]
abbrev mkimpl_B558_11 : Array Bool := #[tt,tt,tt,tt,tt,tt,tt,tt,tt,tt,tt]
def impl_BitmapText.l0 : Nat → ByteArray → List ByteArray → Int → Int → Option (ByteArray)
 | 0, _, _, _, _ => none
 | k + 1, x3, x20, x21, x22 => if x22 < x21 then (if 0 ≤ x22 then (if x22 < (x20.length : Int) then (if (rdOf ByteArray.empty x20 x22).size + 1 ≤ 9223372036854775807 then (if x3.size + ((rdOf ByteArray.empty x20 x22) ++ (⟨#[10]⟩ : ByteArray)).size ≤ 9223372036854775807 then (impl_BitmapText.l0 k (x3 ++ ((rdOf ByteArray.empty x20 x22) ++ (⟨#[10]⟩ : ByteArray))) x20 x21 (wrap64 (x22 + 1))) else (none)) else (none)) else (none)) else (none)) else (some x3)
def impl_BitmapText.f (k : Nat) (a0_0 : Int) (a0_1 : Int) (a0_2 : Int) (l0_3 : List ByteArray) : Option (ByteArray) := (impl_ValidBitmap.f k a0_0 a0_1 a0_2 l0_3).bind fun t176 => (if t176 = true then ((impl_Decimal.f a0_0).bind fun t177 => (if 7 + t177.size ≤ 9223372036854775807 then (if ((⟨#[98, 105, 116, 109, 97, 112, 32]⟩ : ByteArray) ++ t177).size + 1 ≤ 9223372036854775807 then ((impl_Decimal.f a0_1).bind fun t178 => (if (((⟨#[98, 105, 116, 109, 97, 112, 32]⟩ : ByteArray) ++ t177) ++ (⟨#[32]⟩ : ByteArray)).size + t178.size ≤ 9223372036854775807 then (if ((((⟨#[98, 105, 116, 109, 97, 112, 32]⟩ : ByteArray) ++ t177) ++ (⟨#[32]⟩ : ByteArray)) ++ t178).size + 1 ≤ 9223372036854775807 then (impl_BitmapText.l0 k (((((⟨#[98, 105, 116, 109, 97, 112, 32]⟩ : ByteArray) ++ t177) ++ (⟨#[32]⟩ : ByteArray)) ++ t178) ++ (⟨#[10]⟩ : ByteArray)) l0_3 (l0_3.length : Int) 0) else (none)) else (none))) else (none)) else (none))) else (some (⟨#[]⟩ : ByteArray)))
theorem impl_BitmapText.mono_l : ∀ k, (∀ y0 y1 y2 y3, LeO (impl_BitmapText.l0 k y0 y1 y2 y3) (impl_BitmapText.l0 (k + 1) y0 y1 y2 y3))
 | 0 => fun _ _ _ _ r h => by simp [impl_BitmapText.l0] at h
 | k + 1 => by
  have ih0 := impl_BitmapText.mono_l k
  ·intro y0 y1 y2 y3
   unfold impl_BitmapText.l0
   repeat' first
   | (with_reducible exact ih0 _ _ _ _)
   | (with_reducible exact impl_ValidBitmap.mono _ _ _ _ _)
   | (with_reducible exact LeO.refl _)
   | (with_reducible exact LeO.none _)
   | (with_reducible refine LeO.ite ?_ ?_)
   | (with_reducible refine LeO.bind ?_ (fun _ => ?_))
   | exact ih0 _ _ _ _
   | exact impl_ValidBitmap.mono _ _ _ _ _
   | exact LeO.none _
   | refine LeO.ite ?_ ?_
   | refine LeO.bind ?_ (fun _ => ?_)
theorem impl_BitmapText.mono : ∀ a0 a1 a2 a3 k, LeO (impl_BitmapText.f k a0 a1 a2 a3) (impl_BitmapText.f (k + 1) a0 a1 a2 a3) := by
 intro a0 a1 a2 a3 k
 have ih0 := impl_BitmapText.mono_l k
 unfold impl_BitmapText.f
 repeat' first
   | (with_reducible exact ih0 _ _ _ _)
   | (with_reducible exact impl_ValidBitmap.mono _ _ _ _ _)
   | (with_reducible exact LeO.refl _)
   | (with_reducible exact LeO.none _)
   | (with_reducible refine LeO.ite ?_ ?_)
   | (with_reducible refine LeO.bind ?_ (fun _ => ?_))
   | exact ih0 _ _ _ _
   | exact impl_ValidBitmap.mono _ _ _ _ _
   | exact LeO.none _
   | refine LeO.ite ?_ ?_
   | refine LeO.bind ?_ (fun _ => ?_)
def impl_BitmapText.T3 : Bool × List (List Nat × List Nat) := (true, [([], []), ([0], [0]), ([1], [1]), ([2], [2]), ([3], [3]), ([], []), ([5], [5]), ([6, 2], [6]), ([4, 7], [4, 7]), ([8], [8]), ([9, 7, 0, 1, 2, 3, 4, 5, 6, 7, 8, 9], [9])])
def impl_BitmapText.B3 : List Nat := [0, 1, 3, 7, 15, 0, 32, 103, 255, 511, 1023]
theorem impl_BitmapText.tab3 : rtab .any (opsOf Tryd.f19 3) = impl_BitmapText.T3 := by kernel_rfl
theorem impl_BitmapText.bits3 : waitsOk impl_BitmapText.T3.2 impl_BitmapText.B3 = true := by kernel_rfl
set_option maxHeartbeats 8000000 in
set_option maxRecDepth 100000 in
theorem impl_BitmapText.calls (k : Nat) (a0_0 : Int) (a0_1 : Int) (a0_2 : Int) (A0_3 : Option Addr) (c0_3 : Nat) (l0_3 : List ByteArray) (r : ByteArray) (w : World) (hr0_3 : Kd.C Kd.string w A0_3 l0_3.length l0_3) (hc0_3 : l0_3.length ≤ c0_3) (h : impl_BitmapText.f k a0_0 a0_1 a0_2 l0_3 = some r) :
  Calls Tryd.prog 19 #[.agg #[.int .i64 a0_0, .int .i64 a0_1, .int .i64 a0_2, .slice A0_3 l0_3.length c0_3]] w fun e w' => e = .returned (.string r) ∧ Below w.heap.size w w' := by
 have hu27 := Tryd.underlying27
 have HR0_3 := aM hr0_3
 have HC0_3 := aM hc0_3
 clear hr0_3 hc0_3
 have HB := aM (Below.refl w.heap.size w)
 have H : ((impl_ValidBitmap.f k a0_0 a0_1 a0_2 l0_3).bind fun t176 => (if t176 = true then ((impl_Decimal.f a0_0).bind fun t177 => (if 7 + t177.size ≤ 9223372036854775807 then (if ((⟨#[98, 105, 116, 109, 97, 112, 32]⟩ : ByteArray) ++ t177).size + 1 ≤ 9223372036854775807 then ((impl_Decimal.f a0_1).bind fun t178 => (if (((⟨#[98, 105, 116, 109, 97, 112, 32]⟩ : ByteArray) ++ t177) ++ (⟨#[32]⟩ : ByteArray)).size + t178.size ≤ 9223372036854775807 then (if ((((⟨#[98, 105, 116, 109, 97, 112, 32]⟩ : ByteArray) ++ t177) ++ (⟨#[32]⟩ : ByteArray)) ++ t178).size + 1 ≤ 9223372036854775807 then (impl_BitmapText.l0 k (((((⟨#[98, 105, 116, 109, 97, 112, 32]⟩ : ByteArray) ++ t177) ++ (⟨#[32]⟩ : ByteArray)) ++ t178) ++ (⟨#[10]⟩ : ByteArray)) l0_3 (l0_3.length : Int) 0) else (none)) else (none))) else (none)) else (none))) else (some (⟨#[]⟩ : ByteArray)))) = some r := h
 clear h
 replace H := Option.bind_eq_some_iff.mp H
 obtain ⟨t176, A20, H⟩ := H
 replace H : (if t176 = true then ((impl_Decimal.f a0_0).bind fun t177 => (if 7 + t177.size ≤ 9223372036854775807 then (if ((⟨#[98, 105, 116, 109, 97, 112, 32]⟩ : ByteArray) ++ t177).size + 1 ≤ 9223372036854775807 then ((impl_Decimal.f a0_1).bind fun t178 => (if (((⟨#[98, 105, 116, 109, 97, 112, 32]⟩ : ByteArray) ++ t177) ++ (⟨#[32]⟩ : ByteArray)).size + t178.size ≤ 9223372036854775807 then (if ((((⟨#[98, 105, 116, 109, 97, 112, 32]⟩ : ByteArray) ++ t177) ++ (⟨#[32]⟩ : ByteArray)) ++ t178).size + 1 ≤ 9223372036854775807 then (impl_BitmapText.l0 k (((((⟨#[98, 105, 116, 109, 97, 112, 32]⟩ : ByteArray) ++ t177) ++ (⟨#[32]⟩ : ByteArray)) ++ t178) ++ (⟨#[10]⟩ : ByteArray)) l0_3 (l0_3.length : Int) 0) else (none)) else (none))) else (none)) else (none))) else (some (⟨#[]⟩ : ByteArray))) = some r := H
 have A2 := aM A20
 clear A20
 by_cases c3 : t176 = true
 ·subst c3
  have H1 : ((impl_Decimal.f a0_0).bind fun t177 => (if 7 + t177.size ≤ 9223372036854775807 then (if ((⟨#[98, 105, 116, 109, 97, 112, 32]⟩ : ByteArray) ++ t177).size + 1 ≤ 9223372036854775807 then ((impl_Decimal.f a0_1).bind fun t178 => (if (((⟨#[98, 105, 116, 109, 97, 112, 32]⟩ : ByteArray) ++ t177) ++ (⟨#[32]⟩ : ByteArray)).size + t178.size ≤ 9223372036854775807 then (if ((((⟨#[98, 105, 116, 109, 97, 112, 32]⟩ : ByteArray) ++ t177) ++ (⟨#[32]⟩ : ByteArray)) ++ t178).size + 1 ≤ 9223372036854775807 then (impl_BitmapText.l0 k (((((⟨#[98, 105, 116, 109, 97, 112, 32]⟩ : ByteArray) ++ t177) ++ (⟨#[32]⟩ : ByteArray)) ++ t178) ++ (⟨#[10]⟩ : ByteArray)) l0_3 (l0_3.length : Int) 0) else (none)) else (none))) else (none)) else (none))) = some r := by rw [if_pos rfl] at H; exact H
  clear H
  have H := H1
  clear H1
  replace H := Option.bind_eq_some_iff.mp H
  obtain ⟨t177, A40, H⟩ := H
  replace H : (if 7 + t177.size ≤ 9223372036854775807 then (if ((⟨#[98, 105, 116, 109, 97, 112, 32]⟩ : ByteArray) ++ t177).size + 1 ≤ 9223372036854775807 then ((impl_Decimal.f a0_1).bind fun t178 => (if (((⟨#[98, 105, 116, 109, 97, 112, 32]⟩ : ByteArray) ++ t177) ++ (⟨#[32]⟩ : ByteArray)).size + t178.size ≤ 9223372036854775807 then (if ((((⟨#[98, 105, 116, 109, 97, 112, 32]⟩ : ByteArray) ++ t177) ++ (⟨#[32]⟩ : ByteArray)) ++ t178).size + 1 ≤ 9223372036854775807 then (impl_BitmapText.l0 k (((((⟨#[98, 105, 116, 109, 97, 112, 32]⟩ : ByteArray) ++ t177) ++ (⟨#[32]⟩ : ByteArray)) ++ t178) ++ (⟨#[10]⟩ : ByteArray)) l0_3 (l0_3.length : Int) 0) else (none)) else (none))) else (none)) else (none)) = some r := H
  have A4 := aM A40
  clear A40
  by_cases c5 : 7 + t177.size ≤ 9223372036854775807
  ·rw [if_pos c5] at H
   have c5b0 := eq_true c5
   have c5b1 : decide (7 + t177.size ≤ 9223372036854775807) = true := decide_eq_true c5
   try have c5b2 : (9223372036854775807 < 7 + t177.size) = False := eq_false (Nat.not_lt.2 c5)
   by_cases c6 : ((⟨#[98, 105, 116, 109, 97, 112, 32]⟩ : ByteArray) ++ t177).size + 1 ≤ 9223372036854775807
   ·rw [if_pos c6] at H
    have c6b0 := eq_true c6
    have c6b1 : decide (((⟨#[98, 105, 116, 109, 97, 112, 32]⟩ : ByteArray) ++ t177).size + 1 ≤ 9223372036854775807) = true := decide_eq_true c6
    try have c6b2 : (9223372036854775807 < ((⟨#[98, 105, 116, 109, 97, 112, 32]⟩ : ByteArray) ++ t177).size + 1) = False := eq_false (Nat.not_lt.2 c6)
    try have c6b3 : (9223372036854775807 < 7 + t177.size + 1) = False := eq_false (Nat.not_lt.2 (by have h_ := c6; simp only [ByteArray.size_append] at h_; exact h_))
    replace H := Option.bind_eq_some_iff.mp H
    obtain ⟨t178, A70, H⟩ := H
    replace H : (if (((⟨#[98, 105, 116, 109, 97, 112, 32]⟩ : ByteArray) ++ t177) ++ (⟨#[32]⟩ : ByteArray)).size + t178.size ≤ 9223372036854775807 then (if ((((⟨#[98, 105, 116, 109, 97, 112, 32]⟩ : ByteArray) ++ t177) ++ (⟨#[32]⟩ : ByteArray)) ++ t178).size + 1 ≤ 9223372036854775807 then (impl_BitmapText.l0 k (((((⟨#[98, 105, 116, 109, 97, 112, 32]⟩ : ByteArray) ++ t177) ++ (⟨#[32]⟩ : ByteArray)) ++ t178) ++ (⟨#[10]⟩ : ByteArray)) l0_3 (l0_3.length : Int) 0) else (none)) else (none)) = some r := H
    have A7 := aM A70
    clear A70
    by_cases c8 : (((⟨#[98, 105, 116, 109, 97, 112, 32]⟩ : ByteArray) ++ t177) ++ (⟨#[32]⟩ : ByteArray)).size + t178.size ≤ 9223372036854775807
    ·rw [if_pos c8] at H
     have c8b0 := eq_true c8
     have c8b1 : decide ((((⟨#[98, 105, 116, 109, 97, 112, 32]⟩ : ByteArray) ++ t177) ++ (⟨#[32]⟩ : ByteArray)).size + t178.size ≤ 9223372036854775807) = true := decide_eq_true c8
     try have c8b2 : (9223372036854775807 < (((⟨#[98, 105, 116, 109, 97, 112, 32]⟩ : ByteArray) ++ t177) ++ (⟨#[32]⟩ : ByteArray)).size + t178.size) = False := eq_false (Nat.not_lt.2 c8)
     try have c8b3 : (9223372036854775807 < 7 + t177.size + 1 + t178.size) = False := eq_false (Nat.not_lt.2 (by have h_ := c8; simp only [ByteArray.size_append] at h_; exact h_))
     by_cases c9 : ((((⟨#[98, 105, 116, 109, 97, 112, 32]⟩ : ByteArray) ++ t177) ++ (⟨#[32]⟩ : ByteArray)) ++ t178).size + 1 ≤ 9223372036854775807
     ·rw [if_pos c9] at H
      have c9b0 := eq_true c9
      have c9b1 : decide (((((⟨#[98, 105, 116, 109, 97, 112, 32]⟩ : ByteArray) ++ t177) ++ (⟨#[32]⟩ : ByteArray)) ++ t178).size + 1 ≤ 9223372036854775807) = true := decide_eq_true c9
      try have c9b2 : (9223372036854775807 < ((((⟨#[98, 105, 116, 109, 97, 112, 32]⟩ : ByteArray) ++ t177) ++ (⟨#[32]⟩ : ByteArray)) ++ t178).size + 1) = False := eq_false (Nat.not_lt.2 c9)
      try have c9b3 : (9223372036854775807 < 7 + t177.size + 1 + t178.size + 1) = False := eq_false (Nat.not_lt.2 (by have h_ := c9; simp only [ByteArray.size_append] at h_; exact h_))
      have H' := aM H
      clear H
      go_enter Tryd.func19, Tryd.ntmps19
      try go_wp2_with (first | ((with_reducible refine gate_dst (N := 1) rfl ?_); refine box_event ?hg (N := 1) ?hd (cs := #[.int .i64 a0_0, .int .i64 a0_1, .int .i64 a0_2, .slice A0_3 l0_3.length c0_3]) (t := 27) ?hr ?_; (case hd => rfl); (case hg => rfl); (case hr => first | (go_simp; done) | (go_simp; rfl)); intro gb175 hg w10 hbox hb; have n0_ := aM (below_step bQ hb); have n1_ := aM (hbox); have n2_ := aM ((by rw [hg]; exact (below_size bQ) : w.heap.size ≤ gb175)); have n3_ := aM ((by rw [hg]; exact (below_size bQ) : w.heap.size ≤ gb175)); clear HB; have HB := n0_; have BK175 := n1_; have GW175 := n2_; have GE175 := n3_; clear n0_ n1_ n2_ n3_; clear hb hbox hg; have hcz11_0 : w10.cell? ⟨gb175, 0, none⟩ = some (.int .i64 a0_0) := (blk_cell BK175.out 0).trans rfl; have hcz11_1 : w10.cell? ⟨gb175, 1, none⟩ = some (.int .i64 a0_1) := (blk_cell BK175.out 1).trans rfl; have hcz11_2 : w10.cell? ⟨gb175, 2, none⟩ = some (.int .i64 a0_2) := (blk_cell BK175.out 2).trans rfl; have hcz11_3 : w10.cell? ⟨gb175, 3, none⟩ = some (.slice A0_3 l0_3.length c0_3) := (blk_cell BK175.out 3).trans rfl; have hfz11_0 := blk_frozen BK175.out 0; have hfz11_1 := blk_frozen BK175.out 1; have hfz11_2 := blk_frozen BK175.out 2; have hfz11_3 := blk_frozen BK175.out 3) | ((with_reducible refine gate_callee (f := 12) rfl ?_); refine goesL_ (some 7) rfl rfl Tryd.func12 (by kernel_rfl) rfl #[.agg #[.int .i64 a0_0, .int .i64 a0_1, .int .i64 a0_2, .slice A0_3 l0_3.length c0_3]] rfl gQ ?_; (with_reducible refine (impl_ValidBitmap.calls k a0_0 a0_1 a0_2 _ _ l0_3 true _ ?side1 ?side2 A2.out).mono ?_); (case side1 => exact cQ HR0_3.out); (case side2 => exact HC0_3.out); rintro e w12 ⟨rfl, hb⟩; refine ⟨_, rfl, ?_⟩; have n0_ := aM (blk_below (g := gb175) (o := .cells #[.int .i64 a0_0, .int .i64 a0_1, .int .i64 a0_2, .slice A0_3 l0_3.length c0_3] 27 (0, 0)) (by (with_reducible repeat (first | refine blk_drewN ?_ _ | refine blk_drew ?_ | refine blk_alloc ?_ _)); exact BK175.out) hb); have n1_ := aM (below_step (by repeat (first | (with_reducible first | exact HB.out | apply bA | apply bN | apply bD | refine below_set ?_ GE175.out) | exact HB.out)) hb); clear BK175; clear HB; have BK175 := n0_; have HB := n1_; clear n0_ n1_; (try clear hb); (try clear hb2); (try clear hk); (try clear hi)))
      have n0_ := aM (blk_drew BK175.out)
      have n1_ := aM (below_drew1 HB.out)
      clear BK175
      clear HB
      have BK175 := n0_
      have HB := n1_
      clear n0_ n1_
      refine start_ (n := 11) (S := fun w' => w'.cell? ⟨gb175, 0, none⟩ = some (.int .i64 a0_0) ∧ w'.cell? ⟨gb175, 1, none⟩ = some (.int .i64 a0_1) ∧ w'.cell? ⟨gb175, 2, none⟩ = some (.int .i64 a0_2) ∧ w'.cell? ⟨gb175, 3, none⟩ = some (.slice A0_3 l0_3.length c0_3)) (ds := []) mkimpl_B558_0 (by kernel_rfl) rfl rfl ⟨(blk_cell BK175.out 0).trans rfl, (blk_cell BK175.out 1).trans rfl, (blk_cell BK175.out 2).trans rfl, (blk_cell BK175.out 3).trans rfl⟩ (fun hHeld => ?_); refine with_tabW impl_BitmapText.tab3 impl_BitmapText.bits3 (fun HT_ HW_ => ?_)
      generalize w12.drew = w13 at BK175 HB hHeld ⊢
      refine pQ (i := 0) (N := some 9) mkimpl_B558_1 ?_
      refine pQ (i := 5) (N := some 14) mkimpl_B558_2 ?_
      refine tQ (i := 1) (N := some 10) mkimpl_B558_3 rfl hHeld (Or.inl ⟨by rfl, by rintro w' ⟨s0, s1, s2, s3⟩; go_simp; with_reducible rfl⟩) ?_
      refine tQ (i := 6) (N := some 15) mkimpl_B558_4 rfl hHeld (Or.inl ⟨by rfl, by rintro w' ⟨s0, s1, s2, s3⟩; go_simp; with_reducible rfl⟩) ?_
      refine one_ (i := 2) (N := some 11) mkimpl_B558_5 rfl rfl (one_of HT_.out (by kernel_rfl)) (by decide) (fun K hK => ?_)
      refine goes_ Tryd.func39 (by kernel_rfl) rfl #[.int .i64 a0_0] (by rfl) rfl rfl gQ ?_
      with_reducible refine (impl_Decimal.calls a0_0 t177 _ A4.out).mono ?_
      rintro e w14 ⟨rfl, hb⟩
      refine ⟨_, rfl, ?_⟩
      have n0_ := aM (blk_below (g := gb175) (o := .cells #[.int .i64 a0_0, .int .i64 a0_1, .int .i64 a0_2, .slice A0_3 l0_3.length c0_3] 27 (0, 0)) (by (with_reducible repeat (first | refine blk_drewN ?_ _ | refine blk_drew ?_ | refine blk_alloc ?_ _)); exact BK175.out) hb)
      have n1_ := aM (below_step (by repeat (first | (with_reducible first | exact HB.out | apply bA | apply bN | apply bD | refine below_set ?_ GE175.out) | exact HB.out)) hb)
      clear BK175
      clear HB
      have BK175 := n0_
      have HB := n1_
      clear n0_ n1_
      (try clear hb)
      (try clear hb2)
      (try clear hk)
      (try clear hi)
      refine hK.out _ _ ⟨(blk_cell BK175.out 0).trans rfl, (blk_cell BK175.out 1).trans rfl, (blk_cell BK175.out 2).trans rfl, (blk_cell BK175.out 3).trans rfl⟩ (fun hHeld => ?_)
      clear hK K
      refine norm_ (a' := ?_) ?_ ?_
      rotate_left
      ·show Act.put _ (some 11) _ = _
       simp only [Act.put, sI, sZ, sS, i64_w, i32_w]
       rfl
      refine pQ (i := 3) (N := some 12) mkimpl_B558_6 ?_
      refine pQ (i := 4) (N := some 13) mkimpl_B558_7 ?_
      refine one_ (i := 7) (N := some 16) mkimpl_B558_8 rfl rfl (one_of HT_.out (by kernel_rfl)) (by decide) (fun K hK => ?_)
      refine goes_ Tryd.func39 (by kernel_rfl) rfl #[.int .i64 a0_1] (by rfl) rfl rfl gQ ?_
      with_reducible refine (impl_Decimal.calls a0_1 t178 _ A7.out).mono ?_
      rintro e w15 ⟨rfl, hb⟩
      refine ⟨_, rfl, ?_⟩
      have n0_ := aM (blk_below (g := gb175) (o := .cells #[.int .i64 a0_0, .int .i64 a0_1, .int .i64 a0_2, .slice A0_3 l0_3.length c0_3] 27 (0, 0)) (by (with_reducible repeat (first | refine blk_drewN ?_ _ | refine blk_drew ?_ | refine blk_alloc ?_ _)); exact BK175.out) hb)
      have n1_ := aM (below_step (by repeat (first | (with_reducible first | exact HB.out | apply bA | apply bN | apply bD | refine below_set ?_ GE175.out) | exact HB.out)) hb)
      clear BK175
      clear HB
      have BK175 := n0_
      have HB := n1_
      clear n0_ n1_
      (try clear hb)
      (try clear hb2)
      (try clear hk)
      (try clear hi)
      refine hK.out _ _ ⟨(blk_cell BK175.out 0).trans rfl, (blk_cell BK175.out 1).trans rfl, (blk_cell BK175.out 2).trans rfl, (blk_cell BK175.out 3).trans rfl⟩ (fun hHeld => ?_)
      clear hK K
      refine norm_ (a' := ?_) ?_ ?_
      rotate_left
      ·show Act.put _ (some 16) _ = _
       simp only [Act.put, sI, sZ, sS, i64_w, i32_w]
       rfl
      refine pQ (i := 8) (N := some 17) mkimpl_B558_9 ?_
      refine pQ (i := 9) (N := some 18) mkimpl_B558_10 ?_
      refine pQ (i := 10) (N := some 3) mkimpl_B558_11 ?_
      refine done_ (done_of HT_.out (by kernel_rfl)) ?_
      have hcz16_0 : w15.cell? ⟨gb175, 0, none⟩ = some (.int .i64 a0_0) := (blk_cell BK175.out 0).trans rfl
      have hcz16_1 : w15.cell? ⟨gb175, 1, none⟩ = some (.int .i64 a0_1) := (blk_cell BK175.out 1).trans rfl
      have hcz16_2 : w15.cell? ⟨gb175, 2, none⟩ = some (.int .i64 a0_2) := (blk_cell BK175.out 2).trans rfl
      have hcz16_3 : w15.cell? ⟨gb175, 3, none⟩ = some (.slice A0_3 l0_3.length c0_3) := (blk_cell BK175.out 3).trans rfl
      have hfz16_0 := blk_frozen BK175.out 0
      have hfz16_1 := blk_frozen BK175.out 1
      have hfz16_2 := blk_frozen BK175.out 2
      have hfz16_3 := blk_frozen BK175.out 3
      try go_wp2
      go_loopg [3, 22] k (fun kq v3 v22 w' => ∃ (x3_1 : ByteArray) (x22_1 : Int), v3 = .string x3_1 ∧ v22 = .int .i64 x22_1 ∧ Aside0 (impl_BitmapText.l0 kq x3_1 l0_3 (l0_3.length : Int) x22_1 = some r) ∧ Aside0 (kq ≤ k) ∧ Aside0 (w'.heap[gb175]? = some (.cells #[.int .i64 a0_0, .int .i64 a0_1, .int .i64 a0_2, (.slice A0_3 l0_3.length c0_3)] 27 (0, 0))) ∧ Aside0 (Below w.heap.size w w'))
      case atStart => exact ⟨(((((⟨#[98, 105, 116, 109, 97, 112, 32]⟩ : ByteArray) ++ t177) ++ (⟨#[32]⟩ : ByteArray)) ++ t178) ++ (⟨#[10]⟩ : ByteArray)), (0), rQ, rQ, H', ⟨Nat.le_refl _⟩, ⟨by (with_reducible repeat (first | refine blk_drewN ?_ _ | refine blk_drew ?_ | refine blk_alloc ?_ _)); exact BK175.out⟩, ⟨by repeat (first | (with_reducible first | exact HB.out | apply bA | apply bN | apply bD | refine below_set ?_ GE175.out) | exact HB.out)⟩⟩
      case round =>
       clear H'
       try clear c1
       try clear p2
       try clear c3
       try clear c5
       try clear c5b0
       try clear c5b1
       try clear c5b2
       try clear c6
       try clear c6b0
       try clear c6b1
       try clear c6b2
       try clear c8
       try clear c8b0
       try clear c8b1
       try clear c8b2
       try clear c9
       try clear c9b0
       try clear c9b1
       try clear c9b2
       try clear c12
       try clear hcz11_0
       try clear hcz11_1
       try clear hcz11_2
       try clear hcz11_3
       try clear hcz16_0
       try clear hcz16_1
       try clear hcz16_2
       try clear hcz16_3
       try clear hfz11_0
       try clear hfz11_1
       try clear hfz11_2
       try clear hfz11_3
       try clear hfz16_0
       try clear hfz16_1
       try clear hfz16_2
       try clear hfz16_3
       obtain ⟨x3_1, x22_1, rfl, rfl, HA, HK1, BK175, HB⟩ := hrel
       cases gk with
       | zero => exact absurd HA.out (by simp [impl_BitmapText.l0])
       | succ k1 =>
        have H := HA.out
        clear HA
        simp only [impl_BitmapText.l0] at H
        by_cases c17 : x22_1 < (l0_3.length : Int)
        ·rw [if_pos c17] at H
         have c17b0 : decide (x22_1 < (l0_3.length : Int)) = true := decide_eq_true c17
         clear c17
         by_cases c18 : 0 ≤ x22_1
         ·rw [if_pos c18] at H
          have c18b0 : decide (0 ≤ x22_1) = true := decide_eq_true c18
          clear c18
          by_cases c19 : x22_1 < (l0_3.length : Int)
          ·rw [if_pos c19] at H
           have c19b0 : decide (x22_1 < (l0_3.length : Int)) = true := decide_eq_true c19
           clear c19
           by_cases c20 : (rdOf ByteArray.empty l0_3 x22_1).size + 1 ≤ 9223372036854775807
           ·rw [if_pos c20] at H
            have c20b0 := eq_true c20
            have c20b1 : decide ((rdOf ByteArray.empty l0_3 x22_1).size + 1 ≤ 9223372036854775807) = true := decide_eq_true c20
            try have c20b2 : (9223372036854775807 < (rdOf ByteArray.empty l0_3 x22_1).size + 1) = False := eq_false (Nat.not_lt.2 c20)
            by_cases c21 : x3_1.size + ((rdOf ByteArray.empty l0_3 x22_1) ++ (⟨#[10]⟩ : ByteArray)).size ≤ 9223372036854775807
            ·rw [if_pos c21] at H
             have c21b0 := eq_true c21
             have c21b1 : decide (x3_1.size + ((rdOf ByteArray.empty l0_3 x22_1) ++ (⟨#[10]⟩ : ByteArray)).size ≤ 9223372036854775807) = true := decide_eq_true c21
             try have c21b2 : (9223372036854775807 < x3_1.size + ((rdOf ByteArray.empty l0_3 x22_1) ++ (⟨#[10]⟩ : ByteArray)).size) = False := eq_false (Nat.not_lt.2 c21)
             try have c21b3 : (9223372036854775807 < x3_1.size + ((rdOf ByteArray.empty l0_3 x22_1).size + 1)) = False := eq_false (Nat.not_lt.2 (by have h_ := c21; simp only [ByteArray.size_append] at h_; exact h_))
             have H' := aM H
             clear H
             have p179 : 0 ≤ (x22_1 : Int) := dA
             have q179 : x22_1 < (l0_3.length : Int) := dA
             obtain ⟨ad179, e179, hx179_0⟩ := Kd.at_string HR0_3.out x22_1 p179 q179
             cases e179
             replace hx179_0 := cB HB.out hx179_0
             replace p179 := eq_true p179
             replace q179 := eq_true q179
             go_wp2
             go_roundg k1
             case measure => have := HK1.out; omega
             case rel => exact ⟨(x3_1 ++ ((rdOf ByteArray.empty l0_3 x22_1) ++ (⟨#[10]⟩ : ByteArray))), (wrap64 (x22_1 + 1)), rQ, rQ, H', ⟨by have := HK1.out; omega⟩, ⟨by (with_reducible repeat (first | refine blk_drewN ?_ _ | refine blk_drew ?_ | refine blk_alloc ?_ _)); exact BK175.out⟩, ⟨by repeat (first | (with_reducible first | exact HB.out | apply bA | apply bN | apply bD | refine below_set ?_ GE175.out) | exact HB.out)⟩⟩
            ·rw [if_neg c21] at H
             exact absurd H (by simp)
           ·rw [if_neg c20] at H
            exact absurd H (by simp)
          ·rw [if_neg c19] at H
           exact absurd H (by simp)
         ·rw [if_neg c18] at H
          exact absurd H (by simp)
        ·rw [if_neg c17] at H
         have c17b0 : decide (x22_1 < (l0_3.length : Int)) = false := decide_eq_false c17
         clear c17
         obtain rfl := Option.some.inj H
         go_wp2
         go_ret
         exact ⟨eQ, by repeat (first | (with_reducible first | exact HB.out | apply bA | apply bN | apply bD | refine below_set ?_ GE175.out) | exact HB.out)⟩
     ·rw [if_neg c9] at H
      exact absurd H (by simp)
    ·rw [if_neg c8] at H
     exact absurd H (by simp)
   ·rw [if_neg c6] at H
    exact absurd H (by simp)
  ·rw [if_neg c5] at H
   exact absurd H (by simp)
 ·replace c3 := Bool.eq_false_iff.mpr c3
  subst c3
  have H1 : (some (⟨#[]⟩ : ByteArray)) = some r := by rw [if_neg (show ¬ (false = true) by decide)] at H; exact H
  clear H
  have H := H1
  clear H1
  obtain rfl := Option.some.inj H
  go_enter Tryd.func19, Tryd.ntmps19
  go_wp2_with (first | ((with_reducible refine gate_dst (N := 1) rfl ?_); refine box_event ?hg (N := 1) ?hd (cs := #[.int .i64 a0_0, .int .i64 a0_1, .int .i64 a0_2, .slice A0_3 l0_3.length c0_3]) (t := 27) ?hr ?_; (case hd => rfl); (case hg => rfl); (case hr => first | (go_simp; done) | (go_simp; rfl)); intro gb175 hg w22 hbox hb; have n0_ := aM (below_step bQ hb); have n1_ := aM (hbox); have n2_ := aM ((by rw [hg]; exact (below_size bQ) : w.heap.size ≤ gb175)); have n3_ := aM ((by rw [hg]; exact (below_size bQ) : w.heap.size ≤ gb175)); clear HB; have HB := n0_; have BK175 := n1_; have GW175 := n2_; have GE175 := n3_; clear n0_ n1_ n2_ n3_; clear hb hbox hg; have hcz23_0 : w22.cell? ⟨gb175, 0, none⟩ = some (.int .i64 a0_0) := (blk_cell BK175.out 0).trans rfl; have hcz23_1 : w22.cell? ⟨gb175, 1, none⟩ = some (.int .i64 a0_1) := (blk_cell BK175.out 1).trans rfl; have hcz23_2 : w22.cell? ⟨gb175, 2, none⟩ = some (.int .i64 a0_2) := (blk_cell BK175.out 2).trans rfl; have hcz23_3 : w22.cell? ⟨gb175, 3, none⟩ = some (.slice A0_3 l0_3.length c0_3) := (blk_cell BK175.out 3).trans rfl; have hfz23_0 := blk_frozen BK175.out 0; have hfz23_1 := blk_frozen BK175.out 1; have hfz23_2 := blk_frozen BK175.out 2; have hfz23_3 := blk_frozen BK175.out 3) | ((with_reducible refine gate_callee (f := 12) rfl ?_); refine goesL_ (some 7) rfl rfl Tryd.func12 (by kernel_rfl) rfl #[.agg #[.int .i64 a0_0, .int .i64 a0_1, .int .i64 a0_2, .slice A0_3 l0_3.length c0_3]] rfl gQ ?_; (with_reducible refine (impl_ValidBitmap.calls k a0_0 a0_1 a0_2 _ _ l0_3 false _ ?side1 ?side2 A2.out).mono ?_); (case side1 => exact cQ HR0_3.out); (case side2 => exact HC0_3.out); rintro e w24 ⟨rfl, hb⟩; refine ⟨_, rfl, ?_⟩; have n0_ := aM (blk_below (g := gb175) (o := .cells #[.int .i64 a0_0, .int .i64 a0_1, .int .i64 a0_2, .slice A0_3 l0_3.length c0_3] 27 (0, 0)) (by (with_reducible repeat (first | refine blk_drewN ?_ _ | refine blk_drew ?_ | refine blk_alloc ?_ _)); exact BK175.out) hb); have n1_ := aM (below_step (by repeat (first | (with_reducible first | exact HB.out | apply bA | apply bN | apply bD | refine below_set ?_ GE175.out) | exact HB.out)) hb); clear BK175; clear HB; have BK175 := n0_; have HB := n1_; clear n0_ n1_; (try clear hb); (try clear hb2); (try clear hk); (try clear hi)))
  go_ret
  exact ⟨eQ, by repeat (first | (with_reducible first | exact HB.out | apply bA | apply bN | apply bD | refine below_set ?_ GE175.out) | exact HB.out)⟩

/-! ### laws_FnExactBitmapText: function 6 -/
mutual
abbrev mklaws_F247_0 : Array Bool := #[ff,ff,ff,ff,ff]
abbrev mklaws_F247_1 : Array Bool := #[tt,ff,ff,ff,ff]
abbrev mklaws_F247_2 : Array Bool := #[tt,tt,ff,ff,ff]
abbrev mklaws_F247_3 : Array Bool := #[tt,tt,tt,ff,ff]
abbrev mklaws_F247_4 : Array Bool := #[tt,tt,tt,tt,ff]
abbrev mklaws_F247_5 : Array Bool := #[tt,tt,tt,tt,tt]
def laws_FnExactBitmapText.j0 : Nat → Int → Int → Int → List ByteArray → Option (Bool)
 | 0, _, _, _, _ => none
 | k + 1, x181000, x181001, x181002, x181003 => (laws_toBitmap.f k x181000 x181001 x181002 x181003).bind fun bt182 => ((spec_BitmapText.f k bt182.1 bt182.2.1 bt182.2.2.1 bt182.2.2.2).bind fun t188 => ((laws_toBitmap.f k x181000 x181001 x181002 x181003).bind fun bt189 => ((impl_BitmapText.f k bt189.1 bt189.2.1 bt189.2.2.1 bt189.2.2.2).bind fun t196 => (if t196.toList = t188.toList then (laws_FnExactBitmapText.j1 k x181000 x181001 x181002 x181003 bt189.1 bt189.2.1 bt189.2.2.1 bt189.2.2.2) else (some false)))))
def laws_FnExactBitmapText.j1 : Nat → Int → Int → Int → List ByteArray → Int → Int → Int → List ByteArray → Option (Bool)
 | 0, _, _, _, _, _, _, _, _ => none
 | k + 1, x181000, x181001, x181002, x181003, x196000, x196001, x196002, x196003 => (laws_toBitmap.f k x181000 x181001 x181002 x181003).bind fun bt197 => ((laws_eqBitmap.f k x196000 x196001 x196002 x196003 bt197.1 bt197.2.1 bt197.2.2.1 bt197.2.2.2).bind fun t203 => (if t203 = true then (some true) else (some false)))
end
def laws_FnExactBitmapText.f (k : Nat) (a0_0 : Int) (a0_1 : Int) (a0_2 : Int) (l0_3 : List ByteArray) : Option (Bool) := (laws_szBitmap.f k a0_0 a0_1 a0_2 l0_3 1048576).bind fun t181 => (if t181 < 0 then (some true) else (laws_FnExactBitmapText.j0 k a0_0 a0_1 a0_2 l0_3))
theorem laws_FnExactBitmapText.mono_l : ∀ k, (∀ y0 y1 y2 y3, LeO (laws_FnExactBitmapText.j0 k y0 y1 y2 y3) (laws_FnExactBitmapText.j0 (k + 1) y0 y1 y2 y3)) ∧ (∀ y0 y1 y2 y3 y4 y5 y6 y7, LeO (laws_FnExactBitmapText.j1 k y0 y1 y2 y3 y4 y5 y6 y7) (laws_FnExactBitmapText.j1 (k + 1) y0 y1 y2 y3 y4 y5 y6 y7))
 | 0 => ⟨fun _ _ _ _ r h => by simp [laws_FnExactBitmapText.j0] at h, fun _ _ _ _ _ _ _ _ r h => by simp [laws_FnExactBitmapText.j1] at h⟩
 | k + 1 => by
  obtain ⟨ih0, ih1⟩ := laws_FnExactBitmapText.mono_l k
  refine ⟨?_, ?_⟩
  ·intro y0 y1 y2 y3
   unfold laws_FnExactBitmapText.j0
   repeat' first
   | (with_reducible exact ih0 _ _ _ _)
   | (with_reducible exact ih1 _ _ _ _ _ _ _ _)
   | (with_reducible exact impl_BitmapText.mono _ _ _ _ _)
   | (with_reducible exact laws_eqBitmap.mono _ _ _ _ _ _ _ _ _)
   | (with_reducible exact laws_szBitmap.mono _ _ _ _ _ _)
   | (with_reducible exact laws_toBitmap.mono _ _ _ _ _)
   | (with_reducible exact spec_BitmapText.mono _ _ _ _ _)
   | (with_reducible exact LeO.refl _)
   | (with_reducible exact LeO.none _)
   | (with_reducible refine LeO.ite ?_ ?_)
   | (with_reducible refine LeO.bind ?_ (fun _ => ?_))
   | exact ih0 _ _ _ _
   | exact ih1 _ _ _ _ _ _ _ _
   | exact impl_BitmapText.mono _ _ _ _ _
   | exact laws_eqBitmap.mono _ _ _ _ _ _ _ _ _
   | exact laws_szBitmap.mono _ _ _ _ _ _
   | exact laws_toBitmap.mono _ _ _ _ _
   | exact spec_BitmapText.mono _ _ _ _ _
   | exact LeO.none _
   | refine LeO.ite ?_ ?_
   | refine LeO.bind ?_ (fun _ => ?_)
  ·intro y0 y1 y2 y3 y4 y5 y6 y7
   unfold laws_FnExactBitmapText.j1
   repeat' first
   | (with_reducible exact ih0 _ _ _ _)
   | (with_reducible exact ih1 _ _ _ _ _ _ _ _)
   | (with_reducible exact impl_BitmapText.mono _ _ _ _ _)
   | (with_reducible exact laws_eqBitmap.mono _ _ _ _ _ _ _ _ _)
   | (with_reducible exact laws_szBitmap.mono _ _ _ _ _ _)
   | (with_reducible exact laws_toBitmap.mono _ _ _ _ _)
   | (with_reducible exact spec_BitmapText.mono _ _ _ _ _)
   | (with_reducible exact LeO.refl _)
   | (with_reducible exact LeO.none _)
   | (with_reducible refine LeO.ite ?_ ?_)
   | (with_reducible refine LeO.bind ?_ (fun _ => ?_))
   | exact ih0 _ _ _ _
   | exact ih1 _ _ _ _ _ _ _ _
   | exact impl_BitmapText.mono _ _ _ _ _
   | exact laws_eqBitmap.mono _ _ _ _ _ _ _ _ _
   | exact laws_szBitmap.mono _ _ _ _ _ _
   | exact laws_toBitmap.mono _ _ _ _ _
   | exact spec_BitmapText.mono _ _ _ _ _
   | exact LeO.none _
   | refine LeO.ite ?_ ?_
   | refine LeO.bind ?_ (fun _ => ?_)
theorem laws_FnExactBitmapText.mono : ∀ a0 a1 a2 a3 k, LeO (laws_FnExactBitmapText.f k a0 a1 a2 a3) (laws_FnExactBitmapText.f (k + 1) a0 a1 a2 a3) := by
 intro a0 a1 a2 a3 k
 obtain ⟨ih0, ih1⟩ := laws_FnExactBitmapText.mono_l k
 unfold laws_FnExactBitmapText.f
 repeat' first
   | (with_reducible exact ih0 _ _ _ _)
   | (with_reducible exact ih1 _ _ _ _ _ _ _ _)
   | (with_reducible exact impl_BitmapText.mono _ _ _ _ _)
   | (with_reducible exact laws_eqBitmap.mono _ _ _ _ _ _ _ _ _)
   | (with_reducible exact laws_szBitmap.mono _ _ _ _ _ _)
   | (with_reducible exact laws_toBitmap.mono _ _ _ _ _)
   | (with_reducible exact spec_BitmapText.mono _ _ _ _ _)
   | (with_reducible exact LeO.refl _)
   | (with_reducible exact LeO.none _)
   | (with_reducible refine LeO.ite ?_ ?_)
   | (with_reducible refine LeO.bind ?_ (fun _ => ?_))
   | exact ih0 _ _ _ _
   | exact ih1 _ _ _ _ _ _ _ _
   | exact impl_BitmapText.mono _ _ _ _ _
   | exact laws_eqBitmap.mono _ _ _ _ _ _ _ _ _
   | exact laws_szBitmap.mono _ _ _ _ _ _
   | exact laws_toBitmap.mono _ _ _ _ _
   | exact spec_BitmapText.mono _ _ _ _ _
   | exact LeO.none _
   | refine LeO.ite ?_ ?_
   | refine LeO.bind ?_ (fun _ => ?_)
set_option maxHeartbeats 8000000 in
set_option maxRecDepth 100000 in
theorem laws_FnExactBitmapText.calls (k : Nat) (a0_0 : Int) (a0_1 : Int) (a0_2 : Int) (A0_3 : Option Addr) (c0_3 : Nat) (l0_3 : List ByteArray) (r : Bool) (w : World) (hr0_3 : Kd.C Kd.string w A0_3 l0_3.length l0_3) (hc0_3 : l0_3.length ≤ c0_3) (h : laws_FnExactBitmapText.f k a0_0 a0_1 a0_2 l0_3 = some r) :
  Calls Tryd.prog 6 #[.agg #[.int .i64 a0_0, .int .i64 a0_1, .int .i64 a0_2, .slice A0_3 l0_3.length c0_3]] w fun e w' => e = .returned (.bool r) ∧ Below w.heap.size w w' := by
 have hu24 := Tryd.underlying24
 have hu27 := Tryd.underlying27
 have HR0_3 := aM hr0_3
 have HC0_3 := aM hc0_3
 clear hr0_3 hc0_3
 have HB := aM (Below.refl w.heap.size w)
 have H : ((laws_szBitmap.f k a0_0 a0_1 a0_2 l0_3 1048576).bind fun t181 => (if t181 < 0 then (some true) else (laws_FnExactBitmapText.j0 k a0_0 a0_1 a0_2 l0_3))) = some r := h
 clear h
 replace H := Option.bind_eq_some_iff.mp H
 obtain ⟨t181, A20, H⟩ := H
 replace H : (if t181 < 0 then (some true) else (laws_FnExactBitmapText.j0 k a0_0 a0_1 a0_2 l0_3)) = some r := H
 have A2 := aM A20
 clear A20
 have HC3 := aM H
 clear H
 go_enter Tryd.func6, Tryd.ntmps6
 go_upto_if 11 with (first | ((with_reducible refine gate_dst (N := 1) rfl ?_); refine box_event ?hg (N := 1) ?hd (cs := #[.int .i64 a0_0, .int .i64 a0_1, .int .i64 a0_2, .slice A0_3 l0_3.length c0_3]) (t := 24) ?hr ?_; (case hd => rfl); (case hg => rfl); (case hr => first | (go_simp; done) | (go_simp; rfl)); intro gb180 hg w4 hbox hb; have n0_ := aM (below_step bQ hb); have n1_ := aM (hbox); have n2_ := aM ((by rw [hg]; exact (below_size bQ) : w.heap.size ≤ gb180)); have n3_ := aM ((by rw [hg]; exact (below_size bQ) : w.heap.size ≤ gb180)); clear HB; have HB := n0_; have BK180 := n1_; have GW180 := n2_; have GE180 := n3_; clear n0_ n1_ n2_ n3_; clear hb hbox hg; have hcz5_0 : w4.cell? ⟨gb180, 0, none⟩ = some (.int .i64 a0_0) := (blk_cell BK180.out 0).trans rfl; have hcz5_1 : w4.cell? ⟨gb180, 1, none⟩ = some (.int .i64 a0_1) := (blk_cell BK180.out 1).trans rfl; have hcz5_2 : w4.cell? ⟨gb180, 2, none⟩ = some (.int .i64 a0_2) := (blk_cell BK180.out 2).trans rfl; have hcz5_3 : w4.cell? ⟨gb180, 3, none⟩ = some (.slice A0_3 l0_3.length c0_3) := (blk_cell BK180.out 3).trans rfl; have hfz5_0 := blk_frozen BK180.out 0; have hfz5_1 := blk_frozen BK180.out 1; have hfz5_2 := blk_frozen BK180.out 2; have hfz5_3 := blk_frozen BK180.out 3) | ((with_reducible refine gate_callee (f := 9) rfl ?_); refine goesL_ (some 9) rfl rfl Tryd.func9 (by kernel_rfl) rfl #[.agg #[.int .i64 a0_0, .int .i64 a0_1, .int .i64 a0_2, .slice A0_3 l0_3.length c0_3], .int .i64 1048576] rfl gQ ?_; (with_reducible refine (laws_szBitmap.calls k a0_0 a0_1 a0_2 _ _ l0_3 1048576 t181 _ ?side1 ?side2 A2.out).mono ?_); (case side1 => exact cQ HR0_3.out); (case side2 => exact HC0_3.out); rintro e w6 ⟨rfl, hb⟩; refine ⟨_, rfl, ?_⟩; have n0_ := aM (blk_below (g := gb180) (o := .cells #[.int .i64 a0_0, .int .i64 a0_1, .int .i64 a0_2, .slice A0_3 l0_3.length c0_3] 24 (0, 0)) (by (with_reducible repeat (first | refine blk_drewN ?_ _ | refine blk_drew ?_ | refine blk_alloc ?_ _)); exact BK180.out) hb); have n1_ := aM (below_step (by repeat (first | (with_reducible first | exact HB.out | apply bA | apply bN | apply bD | refine below_set ?_ GE180.out) | exact HB.out)) hb); clear BK180; clear HB; have BK180 := n0_; have HB := n1_; clear n0_ n1_; (try clear hb); (try clear hb2); (try clear hk); (try clear hi)))
 (try simp only [Act.put, sI, sZ, sS])
 go_cut [] (fun wc => ∃ (kq : Nat), Aside0 (laws_FnExactBitmapText.j0 kq a0_0 a0_1 a0_2 l0_3 = some r) ∧ Aside0 (kq ≤ k) ∧ Aside0 (wc.heap[gb180]? = some (.cells #[.int .i64 a0_0, .int .i64 a0_1, .int .i64 a0_2, (.slice A0_3 l0_3.length c0_3)] 24 (0, 0))) ∧ Aside0 (Below w.heap.size w wc))
 case first =>
  have H := HC3.out
  clear HC3
  by_cases c7 : t181 < 0
  ·rw [if_pos c7] at H
   have c7b0 : decide (t181 < 0) = true := decide_eq_true c7
   clear c7
   (first | rw [c7b0] | (simp only [i64_w, i32_w]; rw [c7b0]) | rw [c7b1] | rw [c7b2] | rw [c7b3] | rw [c7b4] | skip)
   obtain rfl := Option.some.inj H
   go_wp2
   go_ret
   exact ⟨eQ, by repeat (first | (with_reducible first | exact HB.out | apply bA | apply bN | apply bD | refine below_set ?_ GE180.out) | exact HB.out)⟩
  ·rw [if_neg c7] at H
   have c7b0 : decide (t181 < 0) = false := decide_eq_false c7
   clear c7
   (first | rw [c7b0] | (simp only [i64_w, i32_w]; rw [c7b0]) | rw [c7b1] | rw [c7b2] | rw [c7b3] | rw [c7b4] | skip)
   have H' := aM H
   clear H
   go_wp2
   go_meet
   case rel => exact ⟨_, H', ⟨by first | omega | exact Nat.le_refl _⟩, ⟨by (with_reducible repeat (first | refine blk_drewN ?_ _ | refine blk_drew ?_ | refine blk_alloc ?_ _)); exact BK180.out⟩, ⟨by repeat (first | (with_reducible first | exact HB.out | apply bA | apply bN | apply bD | refine below_set ?_ GE180.out) | exact HB.out)⟩⟩
 case rest =>
  clear HC3
  try clear p2
  try clear c6
  try clear c7
  try clear c7b0
  try clear c7b1
  try clear c7b2
  try clear hcz5_0
  try clear hcz5_1
  try clear hcz5_2
  try clear hcz5_3
  try clear hfz5_0
  try clear hfz5_1
  try clear hfz5_2
  try clear hfz5_3
  obtain ⟨kq, HA, HJ2, BK180, HB⟩ := hcut
  cases kq with
  | zero => exact absurd HA.out (by simp [laws_FnExactBitmapText.j0])
  | succ kj2 =>
   have H := HA.out
   clear HA
   simp only [laws_FnExactBitmapText.j0] at H
   replace H := Option.bind_eq_some_iff.mp H
   obtain ⟨⟨t182, t183, t184, t185⟩, A80, H⟩ := H
   replace H : ((spec_BitmapText.f kj2 t182 t183 t184 t185).bind fun t188 => ((laws_toBitmap.f kj2 a0_0 a0_1 a0_2 l0_3).bind fun bt189 => ((impl_BitmapText.f kj2 bt189.1 bt189.2.1 bt189.2.2.1 bt189.2.2.2).bind fun t196 => (if t196.toList = t188.toList then (laws_FnExactBitmapText.j1 kj2 a0_0 a0_1 a0_2 l0_3 bt189.1 bt189.2.1 bt189.2.2.1 bt189.2.2.2) else (some false))))) = some r := H
   have A8 := aM A80
   clear A80
   replace H := Option.bind_eq_some_iff.mp H
   obtain ⟨t188, A90, H⟩ := H
   replace H : ((laws_toBitmap.f kj2 a0_0 a0_1 a0_2 l0_3).bind fun bt189 => ((impl_BitmapText.f kj2 bt189.1 bt189.2.1 bt189.2.2.1 bt189.2.2.2).bind fun t196 => (if t196.toList = t188.toList then (laws_FnExactBitmapText.j1 kj2 a0_0 a0_1 a0_2 l0_3 bt189.1 bt189.2.1 bt189.2.2.1 bt189.2.2.2) else (some false)))) = some r := H
   have A9 := aM A90
   clear A90
   replace H := Option.bind_eq_some_iff.mp H
   obtain ⟨⟨t189, t190, t191, t192⟩, A100, H⟩ := H
   replace H : ((impl_BitmapText.f kj2 t189 t190 t191 t192).bind fun t196 => (if t196.toList = t188.toList then (laws_FnExactBitmapText.j1 kj2 a0_0 a0_1 a0_2 l0_3 t189 t190 t191 t192) else (some false))) = some r := H
   have A10 := aM A100
   clear A100
   replace H := Option.bind_eq_some_iff.mp H
   obtain ⟨t196, A110, H⟩ := H
   replace H : (if t196.toList = t188.toList then (laws_FnExactBitmapText.j1 kj2 a0_0 a0_1 a0_2 l0_3 t189 t190 t191 t192) else (some false)) = some r := H
   have A11 := aM A110
   clear A110
   have HC12 := aM H
   clear H
   have hcz13_0 : wc.cell? ⟨gb180, 0, none⟩ = some (.int .i64 a0_0) := (blk_cell BK180.out 0).trans rfl
   have hcz13_1 : wc.cell? ⟨gb180, 1, none⟩ = some (.int .i64 a0_1) := (blk_cell BK180.out 1).trans rfl
   have hcz13_2 : wc.cell? ⟨gb180, 2, none⟩ = some (.int .i64 a0_2) := (blk_cell BK180.out 2).trans rfl
   have hcz13_3 : wc.cell? ⟨gb180, 3, none⟩ = some (.slice A0_3 l0_3.length c0_3) := (blk_cell BK180.out 3).trans rfl
   have hfz13_0 := blk_frozen BK180.out 0
   have hfz13_1 := blk_frozen BK180.out 1
   have hfz13_2 := blk_frozen BK180.out 2
   have hfz13_3 := blk_frozen BK180.out 3
   go_upto_if 21 with (first | ((with_reducible refine gate_callee (f := 11) rfl ?_); refine goesL_ (some 13) rfl rfl Tryd.func11 (by kernel_rfl) rfl #[.agg #[.int .i64 a0_0, .int .i64 a0_1, .int .i64 a0_2, .slice A0_3 l0_3.length c0_3]] rfl gQ ?_; (with_reducible refine (laws_toBitmap.calls kj2 a0_0 a0_1 a0_2 _ _ l0_3 t182 t183 t184 t185 _ ?side1 ?side2 A8.out).mono ?_); (case side1 => exact cQ HR0_3.out); (case side2 => exact HC0_3.out); rintro e w14 ⟨v186, rfl, ho0, hb⟩; refine ⟨_, rfl, ?_⟩; have n0_ := aM (Kd.R_lower ho0 (below_size (by repeat (first | (with_reducible first | exact HB.out | apply bA | apply bN | apply bD | refine below_set ?_ GE180.out) | exact HB.out)))); have n1_ := aM (blk_below (g := gb180) (o := .cells #[.int .i64 a0_0, .int .i64 a0_1, .int .i64 a0_2, .slice A0_3 l0_3.length c0_3] 24 (0, 0)) (by (with_reducible repeat (first | refine blk_drewN ?_ _ | refine blk_drew ?_ | refine blk_alloc ?_ _)); exact BK180.out) hb); have n2_ := aM (below_step (by repeat (first | (with_reducible first | exact HB.out | apply bA | apply bN | apply bD | refine below_set ?_ GE180.out) | exact HB.out)) hb); clear BK180; clear HB; have HO187 := n0_; have BK180 := n1_; have HB := n2_; clear n0_ n1_ n2_; (try clear hb); (try clear hb2); (try clear hk); (try clear hi); (try clear ho0); obtain ⟨Ao15, co15, eo15⟩ := Kd.R_slice HO187.out; subst eo15) | ((with_reducible refine gate_callee (f := 18) rfl ?_); refine goesL_ (some 14) rfl rfl Tryd.func18 (by kernel_rfl) rfl #[.agg #[.int .i64 t182, .int .i64 t183, .int .i64 t184, .slice Ao15 t185.length co15]] rfl gQ ?_; (with_reducible refine (spec_BitmapText.calls kj2 t182 t183 t184 _ _ t185 t188 _ ?side1 ?side2 A9.out).mono ?_); (case side1 => repeat (first | exact (Kd.R_reads' HO187.out).2.2 | (with_reducible first | refine cA ?_ _ | refine cN ?_ _ | refine cD ?_))); (case side2 => exact (Kd.R_reads' HO187.out).2.1); rintro e w16 ⟨rfl, hb⟩; refine ⟨_, rfl, ?_⟩; have n0_ := aM (Kd.R_below (by (with_reducible repeat (first | apply rA | apply rN | apply rD)); exact HO187.out) hb); have n1_ := aM (blk_below (g := gb180) (o := .cells #[.int .i64 a0_0, .int .i64 a0_1, .int .i64 a0_2, .slice A0_3 l0_3.length c0_3] 24 (0, 0)) (by (with_reducible repeat (first | refine blk_drewN ?_ _ | refine blk_drew ?_ | refine blk_alloc ?_ _)); exact BK180.out) hb); have n2_ := aM (below_step (by repeat (first | (with_reducible first | exact HB.out | apply bA | apply bN | apply bD | refine below_set ?_ GE180.out) | exact HB.out)) hb); clear HO187; clear BK180; clear HB; have HO187 := n0_; have BK180 := n1_; have HB := n2_; clear n0_ n1_ n2_; (try clear hb); (try clear hb2); (try clear hk); (try clear hi); have hcz17_0 : w16.cell? ⟨gb180, 0, none⟩ = some (.int .i64 a0_0) := (blk_cell BK180.out 0).trans rfl; have hcz17_1 : w16.cell? ⟨gb180, 1, none⟩ = some (.int .i64 a0_1) := (blk_cell BK180.out 1).trans rfl; have hcz17_2 : w16.cell? ⟨gb180, 2, none⟩ = some (.int .i64 a0_2) := (blk_cell BK180.out 2).trans rfl; have hcz17_3 : w16.cell? ⟨gb180, 3, none⟩ = some (.slice A0_3 l0_3.length c0_3) := (blk_cell BK180.out 3).trans rfl; have hfz17_0 := blk_frozen BK180.out 0; have hfz17_1 := blk_frozen BK180.out 1; have hfz17_2 := blk_frozen BK180.out 2; have hfz17_3 := blk_frozen BK180.out 3) | ((with_reducible refine gate_callee (f := 11) rfl ?_); refine goesL_ (some 16) rfl rfl Tryd.func11 (by kernel_rfl) rfl #[.agg #[.int .i64 a0_0, .int .i64 a0_1, .int .i64 a0_2, .slice A0_3 l0_3.length c0_3]] rfl gQ ?_; (with_reducible refine (laws_toBitmap.calls kj2 a0_0 a0_1 a0_2 _ _ l0_3 t189 t190 t191 t192 _ ?side1 ?side2 A10.out).mono ?_); (case side1 => exact cQ HR0_3.out); (case side2 => exact HC0_3.out); rintro e w18 ⟨v193, rfl, ho0, hb⟩; refine ⟨_, rfl, ?_⟩; have n0_ := aM (Kd.R_elder' (by (with_reducible repeat (first | apply rA | apply rN | apply rD)); exact HO187.out) (Kd.R_base ho0) hb); have n1_ := aM (Kd.R_lower (Kd.R_new' ho0 (Kd.R_lt (by (with_reducible repeat (first | apply rA | apply rN | apply rD)); exact HO187.out))) (below_size (by repeat (first | (with_reducible first | exact HB.out | apply bA | apply bN | apply bD | refine below_set ?_ GE180.out) | exact HB.out)))); have n2_ := aM (blk_below (g := gb180) (o := .cells #[.int .i64 a0_0, .int .i64 a0_1, .int .i64 a0_2, .slice A0_3 l0_3.length c0_3] 24 (0, 0)) (by (with_reducible repeat (first | refine blk_drewN ?_ _ | refine blk_drew ?_ | refine blk_alloc ?_ _)); exact BK180.out) hb); have n3_ := aM (below_step (by repeat (first | (with_reducible first | exact HB.out | apply bA | apply bN | apply bD | refine below_set ?_ GE180.out) | exact HB.out)) hb); clear HO187; clear BK180; clear HB; have HO187 := n0_; have HO194 := n1_; have BK180 := n2_; have HB := n3_; clear n0_ n1_ n2_ n3_; (try clear hb); (try clear hb2); (try clear hk); (try clear hi); (try clear ho0)) | ((with_reducible refine gate_dst (N := 5) rfl ?_); refine box_event ?hg (N := 5) ?hd (cs := #[.int .i64 0, .int .i64 0, .int .i64 0, .slice none 0 0]) (t := 27) ?hr ?_; (case hd => rfl); (case hg => rfl); (case hr => first | (go_simp; done) | (go_simp; rfl)); intro gb195 hg w19 hbox hb; have n0_ := aM (Kd.R_below (by (with_reducible repeat (first | apply rA | apply rN | apply rD)); exact HO187.out) hb); have n1_ := aM (Kd.R_below (by (with_reducible repeat (first | apply rA | apply rN | apply rD)); exact HO194.out) hb); have n2_ := aM (blk_below (g := gb180) (o := .cells #[.int .i64 a0_0, .int .i64 a0_1, .int .i64 a0_2, .slice A0_3 l0_3.length c0_3] 24 (0, 0)) (by (with_reducible repeat (first | refine blk_drewN ?_ _ | refine blk_drew ?_ | refine blk_alloc ?_ _)); exact BK180.out) hb); have n3_ := aM (below_step (by repeat (first | (with_reducible first | exact HB.out | apply bA | apply bN | apply bD | refine below_set ?_ GE180.out) | exact HB.out)) hb); have n4_ := aM (hbox); have n5_ := aM ((by rw [hg]; exact (below_size (by repeat (first | (with_reducible first | exact HB.out | apply bA | apply bN | apply bD | refine below_set ?_ GE180.out) | exact HB.out))) : w.heap.size ≤ gb195)); have n6_ := aM ((by rw [hg]; exact (below_size (by repeat (first | (with_reducible first | exact HB.out | apply bA | apply bN | apply bD | refine below_set ?_ GE180.out) | exact HB.out))) : w.heap.size ≤ gb195)); have n7_ := aM ((by rw [hg]; exact Nat.ne_of_lt (blk_lt (g := gb180) (o := .cells #[.int .i64 a0_0, .int .i64 a0_1, .int .i64 a0_2, .slice A0_3 l0_3.length c0_3] 24 (0, 0)) (by (with_reducible repeat (first | refine blk_drewN ?_ _ | refine blk_drew ?_ | refine blk_alloc ?_ _)); exact BK180.out)) : gb180 ≠ gb195)); have n8_ := aM ((by rw [hg]; exact Nat.ne_of_gt (blk_lt (g := gb180) (o := .cells #[.int .i64 a0_0, .int .i64 a0_1, .int .i64 a0_2, .slice A0_3 l0_3.length c0_3] 24 (0, 0)) (by (with_reducible repeat (first | refine blk_drewN ?_ _ | refine blk_drew ?_ | refine blk_alloc ?_ _)); exact BK180.out)) : gb195 ≠ gb180)); clear HO187; clear HO194; clear BK180; clear HB; have HO187 := n0_; have HO194 := n1_; have BK180 := n2_; have HB := n3_; have BK195 := n4_; have GW195 := n5_; have GE195 := n6_; have NB180_195 := n7_; have NB195_180 := n8_; clear n0_ n1_ n2_ n3_ n4_ n5_ n6_ n7_ n8_; clear hb hbox hg; have hnb20 := NB195_180.out; have hnc20 := NB180_195.out; have hcz21_0 : w19.cell? ⟨gb195, 0, none⟩ = some (.int .i64 0) := (blk_cell BK195.out 0).trans rfl; have hcz21_1 : w19.cell? ⟨gb195, 1, none⟩ = some (.int .i64 0) := (blk_cell BK195.out 1).trans rfl; have hcz21_2 : w19.cell? ⟨gb195, 2, none⟩ = some (.int .i64 0) := (blk_cell BK195.out 2).trans rfl; have hcz21_3 : w19.cell? ⟨gb195, 3, none⟩ = some (.slice none 0 0) := (blk_cell BK195.out 3).trans rfl; have hfz21_0 := blk_frozen BK195.out 0; have hfz21_1 := blk_frozen BK195.out 1; have hfz21_2 := blk_frozen BK195.out 2; have hfz21_3 := blk_frozen BK195.out 3; obtain ⟨Ao22, co22, eo22⟩ := Kd.R_slice HO194.out; subst eo22) | ((with_reducible refine gate_callee (f := 19) rfl ?_); refine goesL_ (some 18) rfl rfl Tryd.func19 (by kernel_rfl) rfl #[.agg #[.int .i64 t189, .int .i64 t190, .int .i64 t191, .slice Ao22 t192.length co22]] rfl gQ ?_; (with_reducible refine (impl_BitmapText.calls kj2 t189 t190 t191 _ _ t192 t196 _ ?side1 ?side2 A11.out).mono ?_); (case side1 => refine (Kd.R_reads' (e := 9) (base := w.heap.size) (ok := fun k_ => (True ∧ some k_ ≠ (.slice Ao15 t185.length co15 : Value).ownBlock)) (n := t192.length) (c := co22) ?_).2.2; exact (by (with_reducible repeat (first | apply rA | apply rN | apply rD)); exact (Kd.R_mono (Kd.R_far (p := ⟨gb195, 3, none⟩) (Kd.R_far (p := ⟨gb195, 2, none⟩) (Kd.R_far (p := ⟨gb195, 1, none⟩) (Kd.R_far (p := ⟨gb195, 0, none⟩) (Kd.R_types HO194.out BK195.out (by decide)) h2_ (.int .i64 t189)) h2_ (.int .i64 t190)) h2_ (.int .i64 t191)) h2_ (.slice Ao22 t192.length co22)) h1_))); (case side2 => exact (Kd.R_reads' HO194.out).2.1); rintro e w23 ⟨rfl, hb⟩; refine ⟨_, rfl, ?_⟩; have n0_ := aM (Kd.R_below (by (with_reducible repeat (first | apply rA | apply rN | apply rD)); exact (Kd.R_mono (Kd.R_far (p := ⟨gb195, 3, none⟩) (Kd.R_far (p := ⟨gb195, 2, none⟩) (Kd.R_far (p := ⟨gb195, 1, none⟩) (Kd.R_far (p := ⟨gb195, 0, none⟩) (Kd.R_types HO187.out BK195.out (by decide)) h2_ (.int .i64 t189)) h2_ (.int .i64 t190)) h2_ (.int .i64 t191)) h2_ (.slice Ao22 t192.length co22)) h1_)) hb); have n1_ := aM (Kd.R_below (by (with_reducible repeat (first | apply rA | apply rN | apply rD)); exact (Kd.R_mono (Kd.R_far (p := ⟨gb195, 3, none⟩) (Kd.R_far (p := ⟨gb195, 2, none⟩) (Kd.R_far (p := ⟨gb195, 1, none⟩) (Kd.R_far (p := ⟨gb195, 0, none⟩) (Kd.R_types HO194.out BK195.out (by decide)) h2_ (.int .i64 t189)) h2_ (.int .i64 t190)) h2_ (.int .i64 t191)) h2_ (.slice Ao22 t192.length co22)) h1_)) hb); have n2_ := aM (blk_below (g := gb180) (o := .cells #[.int .i64 a0_0, .int .i64 a0_1, .int .i64 a0_2, .slice A0_3 l0_3.length c0_3] 24 (0, 0)) (by (with_reducible repeat (first | refine blk_drewN ?_ _ | refine blk_drew ?_ | refine blk_alloc ?_ _)); refine blk_far ?_ NB180_195.out _; (with_reducible repeat (first | refine blk_drewN ?_ _ | refine blk_drew ?_ | refine blk_alloc ?_ _)); refine blk_far ?_ NB180_195.out _; (with_reducible repeat (first | refine blk_drewN ?_ _ | refine blk_drew ?_ | refine blk_alloc ?_ _)); refine blk_far ?_ NB180_195.out _; (with_reducible repeat (first | refine blk_drewN ?_ _ | refine blk_drew ?_ | refine blk_alloc ?_ _)); refine blk_far ?_ NB180_195.out _; (with_reducible repeat (first | refine blk_drewN ?_ _ | refine blk_drew ?_ | refine blk_alloc ?_ _)); exact BK180.out) hb); have n3_ := aM (blk_below (g := gb195) (o := .cells #[.int .i64 t189, .int .i64 t190, .int .i64 t191, .slice Ao22 t192.length co22] 27 (0, 0)) (by (with_reducible repeat (first | refine blk_drewN ?_ _ | refine blk_drew ?_ | refine blk_alloc ?_ _)); refine blk_put (cs := #[.int .i64 t189, .int .i64 t190, .int .i64 t191, .slice none 0 0]) ?_ 3 _ rfl; (with_reducible repeat (first | refine blk_drewN ?_ _ | refine blk_drew ?_ | refine blk_alloc ?_ _)); refine blk_put (cs := #[.int .i64 t189, .int .i64 t190, .int .i64 0, .slice none 0 0]) ?_ 2 _ rfl; (with_reducible repeat (first | refine blk_drewN ?_ _ | refine blk_drew ?_ | refine blk_alloc ?_ _)); refine blk_put (cs := #[.int .i64 t189, .int .i64 0, .int .i64 0, .slice none 0 0]) ?_ 1 _ rfl; (with_reducible repeat (first | refine blk_drewN ?_ _ | refine blk_drew ?_ | refine blk_alloc ?_ _)); refine blk_put (cs := #[.int .i64 0, .int .i64 0, .int .i64 0, .slice none 0 0]) ?_ 0 _ rfl; (with_reducible repeat (first | refine blk_drewN ?_ _ | refine blk_drew ?_ | refine blk_alloc ?_ _)); exact BK195.out) hb); have n4_ := aM (below_step (by repeat (first | (with_reducible first | exact HB.out | apply bA | apply bN | apply bD | refine below_set ?_ GE180.out | refine below_set ?_ GE195.out) | exact HB.out)) hb); clear HO187; clear HO194; clear BK180; clear BK195; clear HB; have HO187 := n0_; have HO194 := n1_; have BK180 := n2_; have BK195 := n3_; have HB := n4_; clear n0_ n1_ n2_ n3_ n4_; (try clear hb); (try clear hb2); (try clear hk); (try clear hi)))
   (try simp only [Act.put, sI, sZ, sS])
   go_cut [] (fun wc => ∃ (kq : Nat), Aside0 (laws_FnExactBitmapText.j1 kq a0_0 a0_1 a0_2 l0_3 t189 t190 t191 t192 = some r) ∧ Aside0 (kq ≤ kj2) ∧ Aside0 (Kd.R Kd.string 9 wc w.heap.size (fun _ => True) (.slice Ao22 t192.length co22) t192) ∧ Aside0 (wc.heap[gb180]? = some (.cells #[.int .i64 a0_0, .int .i64 a0_1, .int .i64 a0_2, (.slice A0_3 l0_3.length c0_3)] 24 (0, 0))) ∧ Aside0 (wc.heap[gb195]? = some (.cells #[.int .i64 t189, .int .i64 t190, .int .i64 t191, (.slice Ao22 t192.length co22)] 27 (0, 0))) ∧ Aside0 (Below w.heap.size w wc))
   case first =>
    have H := HC12.out
    clear HC12
    by_cases c24 : t196.toList = t188.toList
    ·rw [if_pos c24] at H
     have c24b0 : (t196.toList == t188.toList) = true := beq_iff_eq.mpr c24
     have c24b1 : (t196.toList != t188.toList) = false := bne_eq_false_iff_eq.mpr c24
     clear c24
     (first | rw [c24b0] | (simp only [i64_w, i32_w]; rw [c24b0]) | rw [c24b1] | rw [c24b2] | rw [c24b3] | rw [c24b4] | skip)
     have H' := aM H
     clear H
     go_wp2
     go_meet
     case rel => exact ⟨_, H', ⟨by have := HJ2.out; first | omega | exact Nat.le_refl _⟩, ⟨by (with_reducible repeat (first | apply rA | apply rN | apply rD)); exact Kd.R_mono HO194.out (fun _ hk => trivial)⟩, ⟨by (with_reducible repeat (first | refine blk_drewN ?_ _ | refine blk_drew ?_ | refine blk_alloc ?_ _)); exact BK180.out⟩, ⟨by (with_reducible repeat (first | refine blk_drewN ?_ _ | refine blk_drew ?_ | refine blk_alloc ?_ _)); exact BK195.out⟩, ⟨by repeat (first | (with_reducible first | exact HB.out | apply bA | apply bN | apply bD | refine below_set ?_ GE180.out | refine below_set ?_ GE195.out) | exact HB.out)⟩⟩
    ·rw [if_neg c24] at H
     have c24b0 : (t196.toList == t188.toList) = false := beq_eq_false_iff_ne.mpr c24
     have c24b1 : (t196.toList != t188.toList) = true := bne_iff_ne.mpr c24
     (first | rw [c24b0] | (simp only [i64_w, i32_w]; rw [c24b0]) | rw [c24b1] | rw [c24b2] | rw [c24b3] | rw [c24b4] | skip)
     obtain rfl := Option.some.inj H
     go_wp2
     go_ret
     exact ⟨eQ, by repeat (first | (with_reducible first | exact HB.out | apply bA | apply bN | apply bD | refine below_set ?_ GE180.out | refine below_set ?_ GE195.out) | exact HB.out)⟩
   case rest =>
    clear HC12
    try clear c1
    try clear c2
    try clear p2
    try clear c6
    try clear c7
    try clear c7b0
    try clear c7b1
    try clear c7b2
    try clear c9
    try clear c11
    try clear c18
    try clear c19
    try clear c20
    try clear c24
    try clear c24b0
    try clear c24b1
    try clear c24b2
    try clear hcz13_0
    try clear hcz13_1
    try clear hcz13_2
    try clear hcz13_3
    try clear hcz17_0
    try clear hcz17_1
    try clear hcz17_2
    try clear hcz17_3
    try clear hcz21_0
    try clear hcz21_1
    try clear hcz21_2
    try clear hcz21_3
    try clear hcz5_0
    try clear hcz5_1
    try clear hcz5_2
    try clear hcz5_3
    try clear hfz13_0
    try clear hfz13_1
    try clear hfz13_2
    try clear hfz13_3
    try clear hfz17_0
    try clear hfz17_1
    try clear hfz17_2
    try clear hfz17_3
    try clear hfz21_0
    try clear hfz21_1
    try clear hfz21_2
    try clear hfz21_3
    try clear hfz5_0
    try clear hfz5_1
    try clear hfz5_2
    try clear hfz5_3
    try clear p2
    obtain ⟨kq, HA, HJ11, HO_196003, BK180, BK195, HB⟩ := hcut
    cases kq with
    | zero => exact absurd HA.out (by simp [laws_FnExactBitmapText.j1])
    | succ kj11 =>
     have H := HA.out
     clear HA
     simp only [laws_FnExactBitmapText.j1] at H
     replace H := Option.bind_eq_some_iff.mp H
     obtain ⟨⟨t197, t198, t199, t200⟩, A250, H⟩ := H
     replace H : ((laws_eqBitmap.f kj11 t189 t190 t191 t192 t197 t198 t199 t200).bind fun t203 => (if t203 = true then (some true) else (some false))) = some r := H
     have A25 := aM A250
     clear A250
     replace H := Option.bind_eq_some_iff.mp H
     obtain ⟨t203, A260, H⟩ := H
     replace H : (if t203 = true then (some true) else (some false)) = some r := H
     have A26 := aM A260
     clear A260
     by_cases c27 : t203 = true
     ·subst c27
      have H1 : (some true) = some r := by rw [if_pos rfl] at H; exact H
      clear H
      have H := H1
      clear H1
      obtain rfl := Option.some.inj H
      try go_wp2
      have n0_ := aM (Kd.R_drew HO_196003.out)
      have n1_ := aM (blk_drew BK180.out)
      have n2_ := aM (blk_drew BK195.out)
      have n3_ := aM (below_drew1 HB.out)
      clear HO_196003
      clear BK180
      clear BK195
      clear HB
      have HO_196003 := n0_
      have BK180 := n1_
      have BK195 := n2_
      have HB := n3_
      clear n0_ n1_ n2_ n3_
      refine start_ (n := 5) (S := fun w' => w'.cell? ⟨gb195, 0, none⟩ = some (.int .i64 t189) ∧ w'.cell? ⟨gb195, 1, none⟩ = some (.int .i64 t190) ∧ w'.cell? ⟨gb195, 2, none⟩ = some (.int .i64 t191) ∧ w'.cell? ⟨gb195, 3, none⟩ = some (.slice Ao22 t192.length co22) ∧ w'.cell? ⟨gb180, 0, none⟩ = some (.int .i64 a0_0) ∧ w'.cell? ⟨gb180, 1, none⟩ = some (.int .i64 a0_1) ∧ w'.cell? ⟨gb180, 2, none⟩ = some (.int .i64 a0_2) ∧ w'.cell? ⟨gb180, 3, none⟩ = some (.slice A0_3 l0_3.length c0_3)) (ds := []) mklaws_F247_0 (by kernel_rfl) rfl rfl ⟨(blk_cell BK195.out 0).trans rfl, (blk_cell BK195.out 1).trans rfl, (blk_cell BK195.out 2).trans rfl, (blk_cell BK195.out 3).trans rfl, (blk_cell BK180.out 0).trans rfl, (blk_cell BK180.out 1).trans rfl, (blk_cell BK180.out 2).trans rfl, (blk_cell BK180.out 3).trans rfl⟩ (fun hHeld => ?_)
      generalize wc.drew = w28 at HO_196003 BK180 BK195 HB hHeld ⊢
      refine take_ (i := 0) (N := some 22) (v := ?_) (a' := ?_) mklaws_F247_1 rfl rfl (by kernel_rfl) (fun _ _ _ h => h) (Or.inl ⟨by rfl, ?_⟩) hHeld ?_ ?_
      rotate_left
      ·rintro w' ⟨s0, s1, s2, s3, s4, s5, s6, s7⟩
       go_simp
       with_reducible rfl
      rotate_left
      ·simp only [Act.put, sI, sZ, sS, i64_w, i32_w]
       rfl
      refine take_ (i := 1) (N := some 23) (v := ?_) (a' := ?_) mklaws_F247_2 rfl rfl (by kernel_rfl) (fun _ _ _ h => h) (Or.inl ⟨by rfl, ?_⟩) hHeld ?_ ?_
      rotate_left
      ·rintro w' ⟨s0, s1, s2, s3, s4, s5, s6, s7⟩
       go_simp
       with_reducible rfl
      rotate_left
      ·simp only [Act.put, sI, sZ, sS, i64_w, i32_w]
       rfl
      refine one_ (i := 2) (N := some 24) mklaws_F247_3 rfl rfl (by kernel_rfl) (by decide) (fun K hK => ?_)
      refine goes_ Tryd.func11 (by kernel_rfl) rfl #[.agg #[.int .i64 a0_0, .int .i64 a0_1, .int .i64 a0_2, .slice A0_3 l0_3.length c0_3]] (by rfl) rfl rfl gQ ?_
      with_reducible refine (laws_toBitmap.calls kj11 a0_0 a0_1 a0_2 _ _ l0_3 t197 t198 t199 t200 _ ?side1 ?side2 A25.out).mono ?_
      (case side1 => exact cQ HR0_3.out)
      (case side2 => exact HC0_3.out)
      rintro e w29 ⟨v201, rfl, ho0, hb⟩
      refine ⟨_, rfl, ?_⟩
      have n0_ := aM (Kd.R_elder' (by (with_reducible repeat (first | apply rA | apply rN | apply rD)); exact HO_196003.out) (Kd.R_base ho0) hb)
      have n1_ := aM (Kd.R_lower (Kd.R_new' ho0 (Kd.R_lt (by (with_reducible repeat (first | apply rA | apply rN | apply rD)); exact HO_196003.out))) (below_size (by repeat (first | (with_reducible first | exact HB.out | apply bA | apply bN | apply bD | refine below_set ?_ GE180.out | refine below_set ?_ GE195.out) | exact HB.out))))
      have n2_ := aM (blk_below (g := gb180) (o := .cells #[.int .i64 a0_0, .int .i64 a0_1, .int .i64 a0_2, .slice A0_3 l0_3.length c0_3] 24 (0, 0)) (by (with_reducible repeat (first | refine blk_drewN ?_ _ | refine blk_drew ?_ | refine blk_alloc ?_ _)); exact BK180.out) hb)
      have n3_ := aM (blk_below (g := gb195) (o := .cells #[.int .i64 t189, .int .i64 t190, .int .i64 t191, .slice Ao22 t192.length co22] 27 (0, 0)) (by (with_reducible repeat (first | refine blk_drewN ?_ _ | refine blk_drew ?_ | refine blk_alloc ?_ _)); exact BK195.out) hb)
      have n4_ := aM (below_step (by repeat (first | (with_reducible first | exact HB.out | apply bA | apply bN | apply bD | refine below_set ?_ GE180.out | refine below_set ?_ GE195.out) | exact HB.out)) hb)
      clear HO_196003
      clear BK180
      clear BK195
      clear HB
      have HO_196003 := n0_
      have HO202 := n1_
      have BK180 := n2_
      have BK195 := n3_
      have HB := n4_
      clear n0_ n1_ n2_ n3_ n4_
      (try clear hb)
      (try clear hb2)
      (try clear hk)
      (try clear hi)
      (try clear ho0)
      obtain ⟨Ao30, co30, eo30⟩ := Kd.R_slice HO202.out
      (first | subst eo30 | (injection eo30 with f1_ f2_ f3_; have f4_ := f1_.symm; have f5_ := f3_.symm; clear f1_ f2_ f3_; subst f4_; subst f5_))
      refine hK.out _ _ ⟨(blk_cell BK195.out 0).trans rfl, (blk_cell BK195.out 1).trans rfl, (blk_cell BK195.out 2).trans rfl, (blk_cell BK195.out 3).trans rfl, (blk_cell BK180.out 0).trans rfl, (blk_cell BK180.out 1).trans rfl, (blk_cell BK180.out 2).trans rfl, (blk_cell BK180.out 3).trans rfl⟩ (fun hHeld => ?_)
      clear hK K
      refine norm_ (a' := ?_) ?_ ?_
      rotate_left
      ·show Act.put _ (some 24) _ = _
       simp only [Act.put, sI, sZ, sS, i64_w, i32_w]
       rfl
      refine one_ (i := 3) (N := some 25) mklaws_F247_4 rfl rfl (by kernel_rfl) (by decide) (fun K hK => ?_)
      refine goes_ Tryd.func13 (by kernel_rfl) rfl #[.agg #[.int .i64 t189, .int .i64 t190, .int .i64 t191, .slice Ao22 t192.length co22], .agg #[.int .i64 t197, .int .i64 t198, .int .i64 t199, .slice Ao30 t200.length co30]] (by rfl) rfl rfl gQ ?_
      with_reducible refine (laws_eqBitmap.calls kj11 t189 t190 t191 _ _ t192 t197 t198 t199 _ _ t200 true _ ?side1 ?side2 ?side3 ?side4 A26.out).mono ?_
      (case side1 => repeat (first | exact (Kd.R_reads' HO_196003.out).2.2 | (with_reducible first | refine cA ?_ _ | refine cN ?_ _ | refine cD ?_)))
      (case side2 => exact (Kd.R_reads' HO_196003.out).2.1)
      (case side3 => repeat (first | exact (Kd.R_reads' HO202.out).2.2 | (with_reducible first | refine cA ?_ _ | refine cN ?_ _ | refine cD ?_)))
      (case side4 => exact (Kd.R_reads' HO202.out).2.1)
      rintro e w31 ⟨rfl, hb⟩
      refine ⟨_, rfl, ?_⟩
      have n0_ := aM (Kd.R_below (by (with_reducible repeat (first | apply rA | apply rN | apply rD)); exact HO_196003.out) hb)
      have n1_ := aM (Kd.R_below (by (with_reducible repeat (first | apply rA | apply rN | apply rD)); exact HO202.out) hb)
      have n2_ := aM (blk_below (g := gb180) (o := .cells #[.int .i64 a0_0, .int .i64 a0_1, .int .i64 a0_2, .slice A0_3 l0_3.length c0_3] 24 (0, 0)) (by (with_reducible repeat (first | refine blk_drewN ?_ _ | refine blk_drew ?_ | refine blk_alloc ?_ _)); exact BK180.out) hb)
      have n3_ := aM (blk_below (g := gb195) (o := .cells #[.int .i64 t189, .int .i64 t190, .int .i64 t191, .slice Ao22 t192.length co22] 27 (0, 0)) (by (with_reducible repeat (first | refine blk_drewN ?_ _ | refine blk_drew ?_ | refine blk_alloc ?_ _)); exact BK195.out) hb)
      have n4_ := aM (below_step (by repeat (first | (with_reducible first | exact HB.out | apply bA | apply bN | apply bD | refine below_set ?_ GE180.out | refine below_set ?_ GE195.out) | exact HB.out)) hb)
      clear HO_196003
      clear HO202
      clear BK180
      clear BK195
      clear HB
      have HO_196003 := n0_
      have HO202 := n1_
      have BK180 := n2_
      have BK195 := n3_
      have HB := n4_
      clear n0_ n1_ n2_ n3_ n4_
      (try clear hb)
      (try clear hb2)
      (try clear hk)
      (try clear hi)
      refine hK.out _ _ ⟨(blk_cell BK195.out 0).trans rfl, (blk_cell BK195.out 1).trans rfl, (blk_cell BK195.out 2).trans rfl, (blk_cell BK195.out 3).trans rfl, (blk_cell BK180.out 0).trans rfl, (blk_cell BK180.out 1).trans rfl, (blk_cell BK180.out 2).trans rfl, (blk_cell BK180.out 3).trans rfl⟩ (fun hHeld => ?_)
      clear hK K
      refine norm_ (a' := ?_) ?_ ?_
      rotate_left
      ·show Act.put _ (some 25) _ = _
       simp only [Act.put, sI, sZ, sS, i64_w, i32_w]
       rfl
      refine pure_ (i := 4) (N := some 26) (v := ?_) (a' := ?_) mklaws_F247_5 rfl rfl (by kernel_rfl) (fun _ _ _ h => h) (Or.inl ⟨by rfl, ?_⟩) ?_ ?_
      rotate_left
      ·intro w'
       go_simp
       with_reducible rfl
      rotate_left
      ·simp only [Act.put, sI, sZ, sS, i64_w, i32_w]
       rfl
      refine done_ (by kernel_rfl) ?_
      try go_wp2
      go_ret
      exact ⟨eQ, by repeat (first | (with_reducible first | exact HB.out | apply bA | apply bN | apply bD | refine below_set ?_ GE180.out | refine below_set ?_ GE195.out) | exact HB.out)⟩
     ·replace c27 := Bool.eq_false_iff.mpr c27
      subst c27
      have H1 : (some false) = some r := by rw [if_neg (show ¬ (false = true) by decide)] at H; exact H
      clear H
      have H := H1
      clear H1
      obtain rfl := Option.some.inj H
      try go_wp2
      have n0_ := aM (Kd.R_drew HO_196003.out)
      have n1_ := aM (blk_drew BK180.out)
      have n2_ := aM (blk_drew BK195.out)
      have n3_ := aM (below_drew1 HB.out)
      clear HO_196003
      clear BK180
      clear BK195
      clear HB
      have HO_196003 := n0_
      have BK180 := n1_
      have BK195 := n2_
      have HB := n3_
      clear n0_ n1_ n2_ n3_
      refine start_ (n := 5) (S := fun w' => w'.cell? ⟨gb195, 0, none⟩ = some (.int .i64 t189) ∧ w'.cell? ⟨gb195, 1, none⟩ = some (.int .i64 t190) ∧ w'.cell? ⟨gb195, 2, none⟩ = some (.int .i64 t191) ∧ w'.cell? ⟨gb195, 3, none⟩ = some (.slice Ao22 t192.length co22) ∧ w'.cell? ⟨gb180, 0, none⟩ = some (.int .i64 a0_0) ∧ w'.cell? ⟨gb180, 1, none⟩ = some (.int .i64 a0_1) ∧ w'.cell? ⟨gb180, 2, none⟩ = some (.int .i64 a0_2) ∧ w'.cell? ⟨gb180, 3, none⟩ = some (.slice A0_3 l0_3.length c0_3)) (ds := []) mklaws_F247_0 (by kernel_rfl) rfl rfl ⟨(blk_cell BK195.out 0).trans rfl, (blk_cell BK195.out 1).trans rfl, (blk_cell BK195.out 2).trans rfl, (blk_cell BK195.out 3).trans rfl, (blk_cell BK180.out 0).trans rfl, (blk_cell BK180.out 1).trans rfl, (blk_cell BK180.out 2).trans rfl, (blk_cell BK180.out 3).trans rfl⟩ (fun hHeld => ?_)
      generalize wc.drew = w32 at HO_196003 BK180 BK195 HB hHeld ⊢
      refine take_ (i := 0) (N := some 22) (v := ?_) (a' := ?_) mklaws_F247_1 rfl rfl (by kernel_rfl) (fun _ _ _ h => h) (Or.inl ⟨by rfl, ?_⟩) hHeld ?_ ?_
      rotate_left
      ·rintro w' ⟨s0, s1, s2, s3, s4, s5, s6, s7⟩
       go_simp
       with_reducible rfl
      rotate_left
      ·simp only [Act.put, sI, sZ, sS, i64_w, i32_w]
       rfl
      refine take_ (i := 1) (N := some 23) (v := ?_) (a' := ?_) mklaws_F247_2 rfl rfl (by kernel_rfl) (fun _ _ _ h => h) (Or.inl ⟨by rfl, ?_⟩) hHeld ?_ ?_
      rotate_left
      ·rintro w' ⟨s0, s1, s2, s3, s4, s5, s6, s7⟩
       go_simp
       with_reducible rfl
      rotate_left
      ·simp only [Act.put, sI, sZ, sS, i64_w, i32_w]
       rfl
      refine one_ (i := 2) (N := some 24) mklaws_F247_3 rfl rfl (by kernel_rfl) (by decide) (fun K hK => ?_)
      refine goes_ Tryd.func11 (by kernel_rfl) rfl #[.agg #[.int .i64 a0_0, .int .i64 a0_1, .int .i64 a0_2, .slice A0_3 l0_3.length c0_3]] (by rfl) rfl rfl gQ ?_
      with_reducible refine (laws_toBitmap.calls kj11 a0_0 a0_1 a0_2 _ _ l0_3 t197 t198 t199 t200 _ ?side1 ?side2 A25.out).mono ?_
      (case side1 => exact cQ HR0_3.out)
      (case side2 => exact HC0_3.out)
      rintro e w33 ⟨v201, rfl, ho0, hb⟩
      refine ⟨_, rfl, ?_⟩
      have n0_ := aM (Kd.R_elder' (by (with_reducible repeat (first | apply rA | apply rN | apply rD)); exact HO_196003.out) (Kd.R_base ho0) hb)
      have n1_ := aM (Kd.R_lower (Kd.R_new' ho0 (Kd.R_lt (by (with_reducible repeat (first | apply rA | apply rN | apply rD)); exact HO_196003.out))) (below_size (by repeat (first | (with_reducible first | exact HB.out | apply bA | apply bN | apply bD | refine below_set ?_ GE180.out | refine below_set ?_ GE195.out) | exact HB.out))))
      have n2_ := aM (blk_below (g := gb180) (o := .cells #[.int .i64 a0_0, .int .i64 a0_1, .int .i64 a0_2, .slice A0_3 l0_3.length c0_3] 24 (0, 0)) (by (with_reducible repeat (first | refine blk_drewN ?_ _ | refine blk_drew ?_ | refine blk_alloc ?_ _)); exact BK180.out) hb)
      have n3_ := aM (blk_below (g := gb195) (o := .cells #[.int .i64 t189, .int .i64 t190, .int .i64 t191, .slice Ao22 t192.length co22] 27 (0, 0)) (by (with_reducible repeat (first | refine blk_drewN ?_ _ | refine blk_drew ?_ | refine blk_alloc ?_ _)); exact BK195.out) hb)
      have n4_ := aM (below_step (by repeat (first | (with_reducible first | exact HB.out | apply bA | apply bN | apply bD | refine below_set ?_ GE180.out | refine below_set ?_ GE195.out) | exact HB.out)) hb)
      clear HO_196003
      clear BK180
      clear BK195
      clear HB
      have HO_196003 := n0_
      have HO202 := n1_
      have BK180 := n2_
      have BK195 := n3_
      have HB := n4_
      clear n0_ n1_ n2_ n3_ n4_
      (try clear hb)
      (try clear hb2)
      (try clear hk)
      (try clear hi)
      (try clear ho0)
      obtain ⟨Ao34, co34, eo34⟩ := Kd.R_slice HO202.out
      (first | subst eo34 | (injection eo34 with f1_ f2_ f3_; have f4_ := f1_.symm; have f5_ := f3_.symm; clear f1_ f2_ f3_; subst f4_; subst f5_))
      refine hK.out _ _ ⟨(blk_cell BK195.out 0).trans rfl, (blk_cell BK195.out 1).trans rfl, (blk_cell BK195.out 2).trans rfl, (blk_cell BK195.out 3).trans rfl, (blk_cell BK180.out 0).trans rfl, (blk_cell BK180.out 1).trans rfl, (blk_cell BK180.out 2).trans rfl, (blk_cell BK180.out 3).trans rfl⟩ (fun hHeld => ?_)
      clear hK K
      refine norm_ (a' := ?_) ?_ ?_
      rotate_left
      ·show Act.put _ (some 24) _ = _
       simp only [Act.put, sI, sZ, sS, i64_w, i32_w]
       rfl
      refine one_ (i := 3) (N := some 25) mklaws_F247_4 rfl rfl (by kernel_rfl) (by decide) (fun K hK => ?_)
      refine goes_ Tryd.func13 (by kernel_rfl) rfl #[.agg #[.int .i64 t189, .int .i64 t190, .int .i64 t191, .slice Ao22 t192.length co22], .agg #[.int .i64 t197, .int .i64 t198, .int .i64 t199, .slice Ao34 t200.length co34]] (by rfl) rfl rfl gQ ?_
      with_reducible refine (laws_eqBitmap.calls kj11 t189 t190 t191 _ _ t192 t197 t198 t199 _ _ t200 false _ ?side1 ?side2 ?side3 ?side4 A26.out).mono ?_
      (case side1 => repeat (first | exact (Kd.R_reads' HO_196003.out).2.2 | (with_reducible first | refine cA ?_ _ | refine cN ?_ _ | refine cD ?_)))
      (case side2 => exact (Kd.R_reads' HO_196003.out).2.1)
      (case side3 => repeat (first | exact (Kd.R_reads' HO202.out).2.2 | (with_reducible first | refine cA ?_ _ | refine cN ?_ _ | refine cD ?_)))
      (case side4 => exact (Kd.R_reads' HO202.out).2.1)
      rintro e w35 ⟨rfl, hb⟩
      refine ⟨_, rfl, ?_⟩
      have n0_ := aM (Kd.R_below (by (with_reducible repeat (first | apply rA | apply rN | apply rD)); exact HO_196003.out) hb)
      have n1_ := aM (Kd.R_below (by (with_reducible repeat (first | apply rA | apply rN | apply rD)); exact HO202.out) hb)
      have n2_ := aM (blk_below (g := gb180) (o := .cells #[.int .i64 a0_0, .int .i64 a0_1, .int .i64 a0_2, .slice A0_3 l0_3.length c0_3] 24 (0, 0)) (by (with_reducible repeat (first | refine blk_drewN ?_ _ | refine blk_drew ?_ | refine blk_alloc ?_ _)); exact BK180.out) hb)
      have n3_ := aM (blk_below (g := gb195) (o := .cells #[.int .i64 t189, .int .i64 t190, .int .i64 t191, .slice Ao22 t192.length co22] 27 (0, 0)) (by (with_reducible repeat (first | refine blk_drewN ?_ _ | refine blk_drew ?_ | refine blk_alloc ?_ _)); exact BK195.out) hb)
      have n4_ := aM (below_step (by repeat (first | (with_reducible first | exact HB.out | apply bA | apply bN | apply bD | refine below_set ?_ GE180.out | refine below_set ?_ GE195.out) | exact HB.out)) hb)
      clear HO_196003
      clear HO202
      clear BK180
      clear BK195
      clear HB
      have HO_196003 := n0_
      have HO202 := n1_
      have BK180 := n2_
      have BK195 := n3_
      have HB := n4_
      clear n0_ n1_ n2_ n3_ n4_
      (try clear hb)
      (try clear hb2)
      (try clear hk)
      (try clear hi)
      refine hK.out _ _ ⟨(blk_cell BK195.out 0).trans rfl, (blk_cell BK195.out 1).trans rfl, (blk_cell BK195.out 2).trans rfl, (blk_cell BK195.out 3).trans rfl, (blk_cell BK180.out 0).trans rfl, (blk_cell BK180.out 1).trans rfl, (blk_cell BK180.out 2).trans rfl, (blk_cell BK180.out 3).trans rfl⟩ (fun hHeld => ?_)
      clear hK K
      refine norm_ (a' := ?_) ?_ ?_
      rotate_left
      ·show Act.put _ (some 25) _ = _
       simp only [Act.put, sI, sZ, sS, i64_w, i32_w]
       rfl
      refine pure_ (i := 4) (N := some 26) (v := ?_) (a' := ?_) mklaws_F247_5 rfl rfl (by kernel_rfl) (fun _ _ _ h => h) (Or.inl ⟨by rfl, ?_⟩) ?_ ?_
      rotate_left
      ·intro w'
       go_simp
       with_reducible rfl
      rotate_left
      ·simp only [Act.put, sI, sZ, sS, i64_w, i32_w]
       rfl
      refine done_ (by kernel_rfl) ?_
      try go_wp2
      go_ret
      exact ⟨eQ, by repeat (first | (with_reducible first | exact HB.out | apply bA | apply bN | apply bD | refine below_set ?_ GE180.out | refine below_set ?_ GE195.out) | exact HB.out)⟩

end Go.Proofs.YthngjfipdfckkaaDoor.QFnExactBitmapText
