/- What some Go functions answer, each as a Lean function, and that the machine answers so: written by a program of this session out of the translation. -/
import Derived.Test.YthngjfipdfckkaaDoorQFnExactPixelAtx0
import Derived.Test.YthngjfipdfckkaaDoorQFnExactPixelAtx3
namespace Go.Proofs.YthngjfipdfckkaaDoor.QFnExactPixelAt
open Go.RowKit Go.Proofs.YthngjfipdfckkaaDoorW.PrintWords Go.Proofs.YthngjfipdfckkaaDoorW.PrintLast Go.Proofs.YthngjfipdfckkaaDoorW.PrintMore Go.Proofs.YthngjfipdfckkaaDoor.Rp
attribute [local go_sem] max2_int min2_int max_two min_two max_three min_three max_four min_four   -- for this text's walks alone
set_option linter.unusedVariables false
set_option linter.unusedSimpArgs false

/-! ### slices_IndexFunc_string_string_by_impl_ValidBitmap_1: function 51 -/
def slices_IndexFunc_string_string_by_impl_ValidBitmap_1.l0 : Nat → List ByteArray → Int → Int → List (S27) → Int → Option (Int)
 | 0, _, _, _, _, _ => none
 | k + 1, x0, x7, x8, x1016, x1017 => if x8 < x7 then (if 0 ≤ x8 then (if x8 < (x0.length : Int) then ((impl_ValidBitmap_1_at.f (rdOf ByteArray.empty x0 x8) x1016 x1017).bind fun t161 => (if t161 = true then (some x8) else (slices_IndexFunc_string_string_by_impl_ValidBitmap_1.l0 k x0 x7 (wrap64 (x8 + 1)) x1016 x1017))) else (none)) else (none)) else (some (-1))
def slices_IndexFunc_string_string_by_impl_ValidBitmap_1.f (k : Nat) (l0 : List ByteArray) (l1_0 : List (S27)) (a1_1 : Int) : Option (Int) := slices_IndexFunc_string_string_by_impl_ValidBitmap_1.l0 k l0 (l0.length : Int) 0 l1_0 a1_1
theorem slices_IndexFunc_string_string_by_impl_ValidBitmap_1.mono_l : ∀ k, (∀ y0 y1 y2 y3 y4, LeO (slices_IndexFunc_string_string_by_impl_ValidBitmap_1.l0 k y0 y1 y2 y3 y4) (slices_IndexFunc_string_string_by_impl_ValidBitmap_1.l0 (k + 1) y0 y1 y2 y3 y4))
 | 0 => fun _ _ _ _ _ r h => by simp [slices_IndexFunc_string_string_by_impl_ValidBitmap_1.l0] at h
 | k + 1 => by
  have ih0 := slices_IndexFunc_string_string_by_impl_ValidBitmap_1.mono_l k
  ·intro y0 y1 y2 y3 y4
   unfold slices_IndexFunc_string_string_by_impl_ValidBitmap_1.l0
   repeat' first
   | (with_reducible exact ih0 _ _ _ _ _)
   | (with_reducible exact LeO.refl _)
   | (with_reducible exact LeO.none _)
   | (with_reducible refine LeO.ite ?_ ?_)
   | (with_reducible refine LeO.bind ?_ (fun _ => ?_))
   | exact ih0 _ _ _ _ _
   | exact LeO.none _
   | refine LeO.ite ?_ ?_
   | refine LeO.bind ?_ (fun _ => ?_)
theorem slices_IndexFunc_string_string_by_impl_ValidBitmap_1.mono : ∀ a0 a1 a2 k, LeO (slices_IndexFunc_string_string_by_impl_ValidBitmap_1.f k a0 a1 a2) (slices_IndexFunc_string_string_by_impl_ValidBitmap_1.f (k + 1) a0 a1 a2) := by
 intro a0 a1 a2 k
 have ih0 := slices_IndexFunc_string_string_by_impl_ValidBitmap_1.mono_l k
 unfold slices_IndexFunc_string_string_by_impl_ValidBitmap_1.f
 repeat' first
   | (with_reducible exact ih0 _ _ _ _ _)
   | (with_reducible exact LeO.refl _)
   | (with_reducible exact LeO.none _)
   | (with_reducible refine LeO.ite ?_ ?_)
   | (with_reducible refine LeO.bind ?_ (fun _ => ?_))
   | exact ih0 _ _ _ _ _
   | exact LeO.none _
   | refine LeO.ite ?_ ?_
   | refine LeO.bind ?_ (fun _ => ?_)
set_option maxHeartbeats 8000000 in
set_option maxRecDepth 100000 in
theorem slices_IndexFunc_string_string_by_impl_ValidBitmap_1.calls (k : Nat) (A0 : Option Addr) (c0 : Nat) (l0 : List ByteArray) (p1_ : Addr) (l1_0 : List (S27)) (a1_1 : Int) (r : Int) (w : World) (hr0 : Kd.C Kd.string w A0 l0.length l0) (hc0 : l0.length ≤ c0) (hP1_ : RPtr k27 ((a1_1 : Int).toNat * 4) w p1_ l1_0 a1_1) (h : slices_IndexFunc_string_string_by_impl_ValidBitmap_1.f k l0 l1_0 a1_1 = some r) :
  Calls Tryd.prog 51 #[.slice A0 l0.length c0, .func (.func 30) #[] #[.pointer (some p1_)]] w fun e w' => e = .returned (.int .i64 r) ∧ Below w.heap.size w w' := by
 obtain ⟨ad1_, rfl, hr1_0, hi1_, hj1_⟩ := hP1_
 have hc1_0 : l1_0.length ≤ l1_0.length := Nat.le_refl _
 replace hi1_ := decide_eq_true hi1_
 replace hj1_ := decide_eq_true hj1_
 obtain ⟨ad9010, A9010_3, c9010_3, e9010, HX9010_0, HX9010_1, HX9010_2, HX9010_3, HC9010_3, HR9010_3⟩ := at_T27 hr1_0 a1_1 (of_decide_eq_true hi1_) (of_decide_eq_true hj1_)
 obtain rfl : ad1_ = ad9010 := (by injection e9010)
 replace HX9010_0 := aM HX9010_0
 replace HX9010_1 := aM HX9010_1
 replace HX9010_2 := aM HX9010_2
 replace HX9010_3 := aM HX9010_3
 replace HC9010_3 := aM HC9010_3
 replace HR9010_3 := aM HR9010_3
 have HR0 := aM hr0
 have HC0 := aM hc0
 clear hr0 hc0
 have HR1_0 := aM hr1_0
 have HC1_0 := aM hc1_0
 clear hr1_0 hc1_0
 have HB := aM (Below.refl w.heap.size w)
 have H : (slices_IndexFunc_string_string_by_impl_ValidBitmap_1.l0 k l0 (l0.length : Int) 0 l1_0 a1_1) = some r := h
 clear h
 have H' := aM H
 clear H
 go_enter Tryd.func51, Tryd.ntmps51
 go_wp2
 go_loopg [8] k (fun kq v8 w' => ∃ (x8_1 : Int), v8 = .int .i64 x8_1 ∧ Aside0 (slices_IndexFunc_string_string_by_impl_ValidBitmap_1.l0 kq l0 (l0.length : Int) x8_1 l1_0 a1_1 = some r) ∧ Aside0 (kq ≤ k) ∧ Aside0 (Below w.heap.size w w'))
 case atStart => exact ⟨(0), rQ, H', ⟨Nat.le_refl _⟩, ⟨bQ⟩⟩
 case round =>
  clear H'
  try clear c1
  try clear p2
  obtain ⟨x8_1, rfl, HA, HK1, HB⟩ := hrel
  cases gk with
  | zero => exact absurd HA.out (by simp [slices_IndexFunc_string_string_by_impl_ValidBitmap_1.l0])
  | succ k1 =>
   have H := HA.out
   clear HA
   simp only [slices_IndexFunc_string_string_by_impl_ValidBitmap_1.l0] at H
   by_cases c3 : x8_1 < (l0.length : Int)
   ·rw [if_pos c3] at H
    have c3b0 : decide (x8_1 < (l0.length : Int)) = true := decide_eq_true c3
    clear c3
    by_cases c4 : 0 ≤ x8_1
    ·rw [if_pos c4] at H
     have c4b0 : decide (0 ≤ x8_1) = true := decide_eq_true c4
     clear c4
     by_cases c5 : x8_1 < (l0.length : Int)
     ·rw [if_pos c5] at H
      have c5b0 : decide (x8_1 < (l0.length : Int)) = true := decide_eq_true c5
      clear c5
      replace H := Option.bind_eq_some_iff.mp H
      obtain ⟨t161, A60, H⟩ := H
      replace H : (if t161 = true then (some x8_1) else (slices_IndexFunc_string_string_by_impl_ValidBitmap_1.l0 k1 l0 (l0.length : Int) (wrap64 (x8_1 + 1)) l1_0 a1_1)) = some r := H
      have A6 := aM A60
      clear A60
      by_cases c7 : t161 = true
      ·subst c7
       have H1 : (some x8_1) = some r := by rw [if_pos rfl] at H; exact H
       clear H
       have H := H1
       clear H1
       obtain rfl := Option.some.inj H
       have p160 : 0 ≤ (x8_1 : Int) := dA
       have q160 : x8_1 < (l0.length : Int) := dA
       obtain ⟨ad160, e160, hx160_0⟩ := Kd.at_string HR0.out x8_1 p160 q160
       cases e160
       replace hx160_0 := cB HB.out hx160_0
       replace p160 := eq_true p160
       replace q160 := eq_true q160
       go_wp2_with (first | (go_at_call 30; (with_reducible refine (impl_ValidBitmap_1_at.calls (rdOf ByteArray.empty l0 x8_1) _ l1_0 a1_1 true _ ?side1 A6.out).mono ?_); (case side1 => refine RPtr.mk_ (by repeat (first | exact (Kd.C_below HR1_0.out HB.out) | (with_reducible first | refine cA ?_ _ | refine cN ?_ _ | refine cD ?_))) (by first | rfl | exact (Addr.add_zero' _).symm) (by first | omega | exact dA | simp_all) (by first | exact dA | omega | simp_all)); rintro e w8 ⟨rfl, hb⟩; have n0_ := aM (below_step bQ hb); clear HB; have HB := n0_; clear n0_; (try clear hb); (try clear hb2); (try clear hk); (try clear hi)))
       go_ret
       exact ⟨eQ, bQ⟩
      ·replace c7 := Bool.eq_false_iff.mpr c7
       subst c7
       have H1 : (slices_IndexFunc_string_string_by_impl_ValidBitmap_1.l0 k1 l0 (l0.length : Int) (wrap64 (x8_1 + 1)) l1_0 a1_1) = some r := by rw [if_neg (show ¬ (false = true) by decide)] at H; exact H
       clear H
       have H := H1
       clear H1
       have H' := aM H
       clear H
       have p160 : 0 ≤ (x8_1 : Int) := dA
       have q160 : x8_1 < (l0.length : Int) := dA
       obtain ⟨ad160, e160, hx160_0⟩ := Kd.at_string HR0.out x8_1 p160 q160
       cases e160
       replace hx160_0 := cB HB.out hx160_0
       replace p160 := eq_true p160
       replace q160 := eq_true q160
       go_wp2_with (first | (go_at_call 30; (with_reducible refine (impl_ValidBitmap_1_at.calls (rdOf ByteArray.empty l0 x8_1) _ l1_0 a1_1 false _ ?side1 A6.out).mono ?_); (case side1 => refine RPtr.mk_ (by repeat (first | exact (Kd.C_below HR1_0.out HB.out) | (with_reducible first | refine cA ?_ _ | refine cN ?_ _ | refine cD ?_))) (by first | rfl | exact (Addr.add_zero' _).symm) (by first | omega | exact dA | simp_all) (by first | exact dA | omega | simp_all)); rintro e w9 ⟨rfl, hb⟩; have n0_ := aM (below_step bQ hb); clear HB; have HB := n0_; clear n0_; (try clear hb); (try clear hb2); (try clear hk); (try clear hi)))
       go_roundg k1
       case measure => have := HK1.out; omega
       case rel => exact ⟨(wrap64 (x8_1 + 1)), rQ, H', ⟨by have := HK1.out; omega⟩, ⟨bQ⟩⟩
     ·rw [if_neg c5] at H
      exact absurd H (by simp)
    ·rw [if_neg c4] at H
     exact absurd H (by simp)
   ·rw [if_neg c3] at H
    have c3b0 : decide (x8_1 < (l0.length : Int)) = false := decide_eq_false c3
    clear c3
    obtain rfl := Option.some.inj H
    go_wp2
    go_ret
    exact ⟨eQ, bQ⟩

/-! ### slices_ContainsFunc_string_string_by_impl_ValidBitmap_1: function 29 -/
def slices_ContainsFunc_string_string_by_impl_ValidBitmap_1.f (k : Nat) (l0 : List ByteArray) (l1_0 : List (S27)) (a1_1 : Int) : Option (Bool) := (slices_IndexFunc_string_string_by_impl_ValidBitmap_1.f k l0 l1_0 a1_1).bind fun t162 => (some (decide (t162 ≥ 0)))
theorem slices_ContainsFunc_string_string_by_impl_ValidBitmap_1.mono : ∀ a0 a1 a2 k, LeO (slices_ContainsFunc_string_string_by_impl_ValidBitmap_1.f k a0 a1 a2) (slices_ContainsFunc_string_string_by_impl_ValidBitmap_1.f (k + 1) a0 a1 a2) := by
 intro a0 a1 a2 k
 unfold slices_ContainsFunc_string_string_by_impl_ValidBitmap_1.f
 repeat' first
   | (with_reducible exact slices_IndexFunc_string_string_by_impl_ValidBitmap_1.mono _ _ _ _)
   | (with_reducible exact LeO.refl _)
   | (with_reducible exact LeO.none _)
   | (with_reducible refine LeO.ite ?_ ?_)
   | (with_reducible refine LeO.bind ?_ (fun _ => ?_))
   | exact slices_IndexFunc_string_string_by_impl_ValidBitmap_1.mono _ _ _ _
   | exact LeO.none _
   | refine LeO.ite ?_ ?_
   | refine LeO.bind ?_ (fun _ => ?_)
set_option maxHeartbeats 8000000 in
set_option maxRecDepth 100000 in
theorem slices_ContainsFunc_string_string_by_impl_ValidBitmap_1.calls (k : Nat) (A0 : Option Addr) (c0 : Nat) (l0 : List ByteArray) (p1_ : Addr) (l1_0 : List (S27)) (a1_1 : Int) (r : Bool) (w : World) (hr0 : Kd.C Kd.string w A0 l0.length l0) (hc0 : l0.length ≤ c0) (hP1_ : RPtr k27 ((a1_1 : Int).toNat * 4) w p1_ l1_0 a1_1) (h : slices_ContainsFunc_string_string_by_impl_ValidBitmap_1.f k l0 l1_0 a1_1 = some r) :
  Calls Tryd.prog 29 #[.slice A0 l0.length c0, .func (.func 30) #[] #[.pointer (some p1_)]] w fun e w' => e = .returned (.bool r) ∧ Below w.heap.size w w' := by
 obtain ⟨ad1_, rfl, hr1_0, hi1_, hj1_⟩ := hP1_
 have hc1_0 : l1_0.length ≤ l1_0.length := Nat.le_refl _
 replace hi1_ := decide_eq_true hi1_
 replace hj1_ := decide_eq_true hj1_
 obtain ⟨ad9010, A9010_3, c9010_3, e9010, HX9010_0, HX9010_1, HX9010_2, HX9010_3, HC9010_3, HR9010_3⟩ := at_T27 hr1_0 a1_1 (of_decide_eq_true hi1_) (of_decide_eq_true hj1_)
 obtain rfl : ad1_ = ad9010 := (by injection e9010)
 replace HX9010_0 := aM HX9010_0
 replace HX9010_1 := aM HX9010_1
 replace HX9010_2 := aM HX9010_2
 replace HX9010_3 := aM HX9010_3
 replace HC9010_3 := aM HC9010_3
 replace HR9010_3 := aM HR9010_3
 have HR0 := aM hr0
 have HC0 := aM hc0
 clear hr0 hc0
 have HR1_0 := aM hr1_0
 have HC1_0 := aM hc1_0
 clear hr1_0 hc1_0
 have HB := aM (Below.refl w.heap.size w)
 have H : ((slices_IndexFunc_string_string_by_impl_ValidBitmap_1.f k l0 l1_0 a1_1).bind fun t162 => (some (decide (t162 ≥ 0)))) = some r := h
 clear h
 replace H := Option.bind_eq_some_iff.mp H
 obtain ⟨t162, A30, H⟩ := H
 replace H : (some (decide (t162 ≥ 0))) = some r := H
 have A3 := aM A30
 clear A30
 obtain rfl := Option.some.inj H
 go_enter Tryd.func29, Tryd.ntmps29
 go_wp2_with (first | ((with_reducible refine gate_callee (f := 51) rfl ?_); refine goesL_ (some 7) rfl rfl Tryd.func51 (by kernel_rfl) rfl #[.slice A0 l0.length c0, .func (.func 30) #[] #[.pointer (some (ad1_.add ((a1_1 : Int).toNat * 4)))]] rfl gQ ?_; (with_reducible refine (slices_IndexFunc_string_string_by_impl_ValidBitmap_1.calls k _ _ l0 _ l1_0 a1_1 t162 _ ?side1 ?side2 ?side3 A3.out).mono ?_); (case side1 => repeat (first | exact HR0.out | (with_reducible first | refine cA ?_ _ | refine cN ?_ _ | refine cD ?_))); (case side2 => exact HC0.out); (case side3 => refine RPtr.mk_ (by repeat (first | exact HR1_0.out | (with_reducible first | refine cA ?_ _ | refine cN ?_ _ | refine cD ?_))) (by first | rfl | exact (Addr.add_zero' _).symm) (by first | omega | exact dA | simp_all) (by first | exact dA | omega | simp_all)); rintro e w4 ⟨rfl, hb⟩; refine ⟨_, rfl, ?_⟩; have n0_ := aM (below_step bQ hb); clear HB; have HB := n0_; clear n0_; (try clear hb); (try clear hb2); (try clear hk); (try clear hi)))
 go_ret
 exact ⟨eQ, bQ⟩

/-! ### impl_ValidBitmap: function 12 -/
def impl_ValidBitmap.f (k : Nat) (a0_0 : Int) (a0_1 : Int) (a0_2 : Int) (l0_3 : List ByteArray) : Option (Bool) := if (mx a0_0 a0_1) > 1048576 then (some false) else (if (mn a0_0 a0_1) < (-1048576) then (some false) else (if (l0_3.length : Int) > 128 then (some false) else (if a0_2 < 0 then (some false) else (if a0_2 > 128 then (some false) else (if ((a0_2 == 0) != ((l0_3.length : Int) == 0)) = true then (some false) else ((slices_ContainsFunc_string_string_by_impl_ValidBitmap_1.f k l0_3 [(⟨a0_0, a0_1, a0_2, l0_3⟩ : S27)] 0).bind fun t164 => (some (!t164))))))))
theorem impl_ValidBitmap.mono : ∀ a0 a1 a2 a3 k, LeO (impl_ValidBitmap.f k a0 a1 a2 a3) (impl_ValidBitmap.f (k + 1) a0 a1 a2 a3) := by
 intro a0 a1 a2 a3 k
 unfold impl_ValidBitmap.f
 repeat' first
   | (with_reducible exact slices_ContainsFunc_string_string_by_impl_ValidBitmap_1.mono _ _ _ _)
   | (with_reducible exact LeO.refl _)
   | (with_reducible exact LeO.none _)
   | (with_reducible refine LeO.ite ?_ ?_)
   | (with_reducible refine LeO.bind ?_ (fun _ => ?_))
   | exact slices_ContainsFunc_string_string_by_impl_ValidBitmap_1.mono _ _ _ _
   | exact LeO.none _
   | refine LeO.ite ?_ ?_
   | refine LeO.bind ?_ (fun _ => ?_)
set_option maxHeartbeats 8000000 in
set_option maxRecDepth 100000 in
theorem impl_ValidBitmap.calls (k : Nat) (a0_0 : Int) (a0_1 : Int) (a0_2 : Int) (A0_3 : Option Addr) (c0_3 : Nat) (l0_3 : List ByteArray) (r : Bool) (w : World) (hr0_3 : Kd.C Kd.string w A0_3 l0_3.length l0_3) (hc0_3 : l0_3.length ≤ c0_3) (h : impl_ValidBitmap.f k a0_0 a0_1 a0_2 l0_3 = some r) :
  Calls Tryd.prog 12 #[.agg #[.int .i64 a0_0, .int .i64 a0_1, .int .i64 a0_2, .slice A0_3 l0_3.length c0_3]] w fun e w' => e = .returned (.bool r) ∧ Below w.heap.size w w' := by
 have hu27 := Tryd.underlying27
 have HR0_3 := aM hr0_3
 have HC0_3 := aM hc0_3
 clear hr0_3 hc0_3
 have HB := aM (Below.refl w.heap.size w)
 have H : (if (mx a0_0 a0_1) > 1048576 then (some false) else (if (mn a0_0 a0_1) < (-1048576) then (some false) else (if (l0_3.length : Int) > 128 then (some false) else (if a0_2 < 0 then (some false) else (if a0_2 > 128 then (some false) else (if ((a0_2 == 0) != ((l0_3.length : Int) == 0)) = true then (some false) else ((slices_ContainsFunc_string_string_by_impl_ValidBitmap_1.f k l0_3 [(⟨a0_0, a0_1, a0_2, l0_3⟩ : S27)] 0).bind fun t164 => (some (!t164))))))))) = some r := h
 clear h
 obtain ⟨ji2, hji2⟩ : ∃ j_ : Int, (mx a0_0 a0_1) = j_ := ⟨_, rfl⟩
 replace H : (if (ji2) > 1048576 then (some false) else (if (mn a0_0 a0_1) < (-1048576) then (some false) else (if (l0_3.length : Int) > 128 then (some false) else (if a0_2 < 0 then (some false) else (if a0_2 > 128 then (some false) else (if ((a0_2 == 0) != ((l0_3.length : Int) == 0)) = true then (some false) else ((slices_ContainsFunc_string_string_by_impl_ValidBitmap_1.f k l0_3 [(⟨a0_0, a0_1, a0_2, l0_3⟩ : S27)] 0).bind fun t164 => (some (!t164))))))))) = some r := by first | (rw [hji2] at H; exact H) | (simp only [hji2] at H ⊢; exact H)
 have hji2_ : (if a0_0 < a0_1 then a0_1 else a0_0) = ji2 := hji2
 by_cases c3 : (ji2) > 1048576
 ·rw [if_pos c3] at H
  have c3b0 : decide (1048576 < (ji2)) = true := decide_eq_true c3
  clear c3
  obtain rfl := Option.some.inj H
  go_enter Tryd.func12, Tryd.ntmps12
  go_wp2_with (first | ((with_reducible refine gate_dst (N := 1) rfl ?_); (try (refine gate_guard (by rfl) ?_; dsimp only)); refine box_event ?hg (N := 1) ?hd (cs := #[.int .i64 a0_0, .int .i64 a0_1, .int .i64 a0_2, .slice A0_3 l0_3.length c0_3]) (t := 27) ?hr ?_; (case hd => rfl); (case hg => rfl); (case hr => first | (go_simp; done) | (go_simp; rfl)); intro gb163 hg w4 hbox hb; have n0_ := aM (below_step bQ hb); have n1_ := aM (hbox); have n2_ := aM ((by rw [hg]; exact (below_size bQ) : w.heap.size ≤ gb163)); have n3_ := aM ((by rw [hg]; exact (below_size bQ) : w.heap.size ≤ gb163)); clear HB; have HB := n0_; have BK163 := n1_; have GW163 := n2_; have GE163 := n3_; clear n0_ n1_ n2_ n3_; clear hb hbox hg; have hcz5_0 : w4.cell? ⟨gb163, 0, none⟩ = some (.int .i64 a0_0) := (blk_cell BK163.out 0).trans rfl; have hcz5_1 : w4.cell? ⟨gb163, 1, none⟩ = some (.int .i64 a0_1) := (blk_cell BK163.out 1).trans rfl; have hcz5_2 : w4.cell? ⟨gb163, 2, none⟩ = some (.int .i64 a0_2) := (blk_cell BK163.out 2).trans rfl; have hcz5_3 : w4.cell? ⟨gb163, 3, none⟩ = some (.slice A0_3 l0_3.length c0_3) := (blk_cell BK163.out 3).trans rfl; have hfz5_0 := blk_frozen BK163.out 0; have hfz5_1 := blk_frozen BK163.out 1; have hfz5_2 := blk_frozen BK163.out 2; have hfz5_3 := blk_frozen BK163.out 3))
  go_ret
  exact ⟨by first | rfl | (simp [errW_none, errW_some] <;> rfl) | (simp only [← hji2]; first | rfl | (simp [errW_none, errW_some] <;> rfl)) | (simp [*, errW_none, errW_some] <;> rfl), by repeat (first | (with_reducible first | exact HB.out | apply bA | apply bN | apply bD | refine below_set ?_ GE163.out) | exact HB.out)⟩
 ·rw [if_neg c3] at H
  have c3b0 : decide (1048576 < (ji2)) = false := decide_eq_false c3
  clear c3
  obtain ⟨ji6, hji6⟩ : ∃ j_ : Int, (mn a0_0 a0_1) = j_ := ⟨_, rfl⟩
  replace H : (if (ji6) < (-1048576) then (some false) else (if (l0_3.length : Int) > 128 then (some false) else (if a0_2 < 0 then (some false) else (if a0_2 > 128 then (some false) else (if ((a0_2 == 0) != ((l0_3.length : Int) == 0)) = true then (some false) else ((slices_ContainsFunc_string_string_by_impl_ValidBitmap_1.f k l0_3 [(⟨a0_0, a0_1, a0_2, l0_3⟩ : S27)] 0).bind fun t164 => (some (!t164)))))))) = some r := by first | (rw [hji6] at H; exact H) | (simp only [hji6] at H ⊢; exact H)
  have hji6_ : (if a0_1 < a0_0 then a0_1 else a0_0) = ji6 := hji6
  by_cases c7 : (ji6) < (-1048576)
  ·rw [if_pos c7] at H
   have c7b0 : decide ((ji6) < (-1048576)) = true := decide_eq_true c7
   clear c7
   obtain rfl := Option.some.inj H
   go_enter Tryd.func12, Tryd.ntmps12
   go_wp2_with (first | ((with_reducible refine gate_dst (N := 1) rfl ?_); (try (refine gate_guard (by rfl) ?_; dsimp only)); refine box_event ?hg (N := 1) ?hd (cs := #[.int .i64 a0_0, .int .i64 a0_1, .int .i64 a0_2, .slice A0_3 l0_3.length c0_3]) (t := 27) ?hr ?_; (case hd => rfl); (case hg => rfl); (case hr => first | (go_simp; done) | (go_simp; rfl)); intro gb163 hg w8 hbox hb; have n0_ := aM (below_step bQ hb); have n1_ := aM (hbox); have n2_ := aM ((by rw [hg]; exact (below_size bQ) : w.heap.size ≤ gb163)); have n3_ := aM ((by rw [hg]; exact (below_size bQ) : w.heap.size ≤ gb163)); clear HB; have HB := n0_; have BK163 := n1_; have GW163 := n2_; have GE163 := n3_; clear n0_ n1_ n2_ n3_; clear hb hbox hg; have hcz9_0 : w8.cell? ⟨gb163, 0, none⟩ = some (.int .i64 a0_0) := (blk_cell BK163.out 0).trans rfl; have hcz9_1 : w8.cell? ⟨gb163, 1, none⟩ = some (.int .i64 a0_1) := (blk_cell BK163.out 1).trans rfl; have hcz9_2 : w8.cell? ⟨gb163, 2, none⟩ = some (.int .i64 a0_2) := (blk_cell BK163.out 2).trans rfl; have hcz9_3 : w8.cell? ⟨gb163, 3, none⟩ = some (.slice A0_3 l0_3.length c0_3) := (blk_cell BK163.out 3).trans rfl; have hfz9_0 := blk_frozen BK163.out 0; have hfz9_1 := blk_frozen BK163.out 1; have hfz9_2 := blk_frozen BK163.out 2; have hfz9_3 := blk_frozen BK163.out 3))
   go_ret
   exact ⟨by first | rfl | (simp [errW_none, errW_some] <;> rfl) | (simp only [← hji2, ← hji6]; first | rfl | (simp [errW_none, errW_some] <;> rfl)) | (simp [*, errW_none, errW_some] <;> rfl), by repeat (first | (with_reducible first | exact HB.out | apply bA | apply bN | apply bD | refine below_set ?_ GE163.out) | exact HB.out)⟩
  ·rw [if_neg c7] at H
   have c7b0 : decide ((ji6) < (-1048576)) = false := decide_eq_false c7
   clear c7
   by_cases c10 : (l0_3.length : Int) > 128
   ·rw [if_pos c10] at H
    have c10b0 : decide (128 < (l0_3.length : Int)) = true := decide_eq_true c10
    have c10b1 : decide (128 < l0_3.length) = true := decide_eq_true (by omega)
    clear c10
    obtain rfl := Option.some.inj H
    go_enter Tryd.func12, Tryd.ntmps12
    go_wp2_with (first | ((with_reducible refine gate_dst (N := 1) rfl ?_); (try (refine gate_guard (by rfl) ?_; dsimp only)); refine box_event ?hg (N := 1) ?hd (cs := #[.int .i64 a0_0, .int .i64 a0_1, .int .i64 a0_2, .slice A0_3 l0_3.length c0_3]) (t := 27) ?hr ?_; (case hd => rfl); (case hg => rfl); (case hr => first | (go_simp; done) | (go_simp; rfl)); intro gb163 hg w11 hbox hb; have n0_ := aM (below_step bQ hb); have n1_ := aM (hbox); have n2_ := aM ((by rw [hg]; exact (below_size bQ) : w.heap.size ≤ gb163)); have n3_ := aM ((by rw [hg]; exact (below_size bQ) : w.heap.size ≤ gb163)); clear HB; have HB := n0_; have BK163 := n1_; have GW163 := n2_; have GE163 := n3_; clear n0_ n1_ n2_ n3_; clear hb hbox hg; have hcz12_0 : w11.cell? ⟨gb163, 0, none⟩ = some (.int .i64 a0_0) := (blk_cell BK163.out 0).trans rfl; have hcz12_1 : w11.cell? ⟨gb163, 1, none⟩ = some (.int .i64 a0_1) := (blk_cell BK163.out 1).trans rfl; have hcz12_2 : w11.cell? ⟨gb163, 2, none⟩ = some (.int .i64 a0_2) := (blk_cell BK163.out 2).trans rfl; have hcz12_3 : w11.cell? ⟨gb163, 3, none⟩ = some (.slice A0_3 l0_3.length c0_3) := (blk_cell BK163.out 3).trans rfl; have hfz12_0 := blk_frozen BK163.out 0; have hfz12_1 := blk_frozen BK163.out 1; have hfz12_2 := blk_frozen BK163.out 2; have hfz12_3 := blk_frozen BK163.out 3))
    go_ret
    exact ⟨by first | rfl | (simp [errW_none, errW_some] <;> rfl) | (simp only [← hji2, ← hji6]; first | rfl | (simp [errW_none, errW_some] <;> rfl)) | (simp [*, errW_none, errW_some] <;> rfl), by repeat (first | (with_reducible first | exact HB.out | apply bA | apply bN | apply bD | refine below_set ?_ GE163.out) | exact HB.out)⟩
   ·rw [if_neg c10] at H
    have c10b0 : decide (128 < (l0_3.length : Int)) = false := decide_eq_false c10
    have c10b1 : decide (128 < l0_3.length) = false := decide_eq_false (by omega)
    clear c10
    by_cases c13 : a0_2 < 0
    ·rw [if_pos c13] at H
     have c13b0 : decide (a0_2 < 0) = true := decide_eq_true c13
     clear c13
     obtain rfl := Option.some.inj H
     go_enter Tryd.func12, Tryd.ntmps12
     go_wp2_with (first | ((with_reducible refine gate_dst (N := 1) rfl ?_); (try (refine gate_guard (by rfl) ?_; dsimp only)); refine box_event ?hg (N := 1) ?hd (cs := #[.int .i64 a0_0, .int .i64 a0_1, .int .i64 a0_2, .slice A0_3 l0_3.length c0_3]) (t := 27) ?hr ?_; (case hd => rfl); (case hg => rfl); (case hr => first | (go_simp; done) | (go_simp; rfl)); intro gb163 hg w14 hbox hb; have n0_ := aM (below_step bQ hb); have n1_ := aM (hbox); have n2_ := aM ((by rw [hg]; exact (below_size bQ) : w.heap.size ≤ gb163)); have n3_ := aM ((by rw [hg]; exact (below_size bQ) : w.heap.size ≤ gb163)); clear HB; have HB := n0_; have BK163 := n1_; have GW163 := n2_; have GE163 := n3_; clear n0_ n1_ n2_ n3_; clear hb hbox hg; have hcz15_0 : w14.cell? ⟨gb163, 0, none⟩ = some (.int .i64 a0_0) := (blk_cell BK163.out 0).trans rfl; have hcz15_1 : w14.cell? ⟨gb163, 1, none⟩ = some (.int .i64 a0_1) := (blk_cell BK163.out 1).trans rfl; have hcz15_2 : w14.cell? ⟨gb163, 2, none⟩ = some (.int .i64 a0_2) := (blk_cell BK163.out 2).trans rfl; have hcz15_3 : w14.cell? ⟨gb163, 3, none⟩ = some (.slice A0_3 l0_3.length c0_3) := (blk_cell BK163.out 3).trans rfl; have hfz15_0 := blk_frozen BK163.out 0; have hfz15_1 := blk_frozen BK163.out 1; have hfz15_2 := blk_frozen BK163.out 2; have hfz15_3 := blk_frozen BK163.out 3))
     go_ret
     exact ⟨by first | rfl | (simp [errW_none, errW_some] <;> rfl) | (simp only [← hji2, ← hji6]; first | rfl | (simp [errW_none, errW_some] <;> rfl)) | (simp [*, errW_none, errW_some] <;> rfl), by repeat (first | (with_reducible first | exact HB.out | apply bA | apply bN | apply bD | refine below_set ?_ GE163.out) | exact HB.out)⟩
    ·rw [if_neg c13] at H
     have c13b0 : decide (a0_2 < 0) = false := decide_eq_false c13
     clear c13
     by_cases c16 : a0_2 > 128
     ·rw [if_pos c16] at H
      have c16b0 : decide (128 < a0_2) = true := decide_eq_true c16
      clear c16
      obtain rfl := Option.some.inj H
      go_enter Tryd.func12, Tryd.ntmps12
      go_wp2_with (first | ((with_reducible refine gate_dst (N := 1) rfl ?_); (try (refine gate_guard (by rfl) ?_; dsimp only)); refine box_event ?hg (N := 1) ?hd (cs := #[.int .i64 a0_0, .int .i64 a0_1, .int .i64 a0_2, .slice A0_3 l0_3.length c0_3]) (t := 27) ?hr ?_; (case hd => rfl); (case hg => rfl); (case hr => first | (go_simp; done) | (go_simp; rfl)); intro gb163 hg w17 hbox hb; have n0_ := aM (below_step bQ hb); have n1_ := aM (hbox); have n2_ := aM ((by rw [hg]; exact (below_size bQ) : w.heap.size ≤ gb163)); have n3_ := aM ((by rw [hg]; exact (below_size bQ) : w.heap.size ≤ gb163)); clear HB; have HB := n0_; have BK163 := n1_; have GW163 := n2_; have GE163 := n3_; clear n0_ n1_ n2_ n3_; clear hb hbox hg; have hcz18_0 : w17.cell? ⟨gb163, 0, none⟩ = some (.int .i64 a0_0) := (blk_cell BK163.out 0).trans rfl; have hcz18_1 : w17.cell? ⟨gb163, 1, none⟩ = some (.int .i64 a0_1) := (blk_cell BK163.out 1).trans rfl; have hcz18_2 : w17.cell? ⟨gb163, 2, none⟩ = some (.int .i64 a0_2) := (blk_cell BK163.out 2).trans rfl; have hcz18_3 : w17.cell? ⟨gb163, 3, none⟩ = some (.slice A0_3 l0_3.length c0_3) := (blk_cell BK163.out 3).trans rfl; have hfz18_0 := blk_frozen BK163.out 0; have hfz18_1 := blk_frozen BK163.out 1; have hfz18_2 := blk_frozen BK163.out 2; have hfz18_3 := blk_frozen BK163.out 3))
      go_ret
      exact ⟨by first | rfl | (simp [errW_none, errW_some] <;> rfl) | (simp only [← hji2, ← hji6]; first | rfl | (simp [errW_none, errW_some] <;> rfl)) | (simp [*, errW_none, errW_some] <;> rfl), by repeat (first | (with_reducible first | exact HB.out | apply bA | apply bN | apply bD | refine below_set ?_ GE163.out) | exact HB.out)⟩
     ·rw [if_neg c16] at H
      have c16b0 : decide (128 < a0_2) = false := decide_eq_false c16
      clear c16
      by_cases c19 : ((a0_2 == 0) != ((l0_3.length : Int) == 0)) = true
      ·rw [if_pos c19] at H
       have c19b0 : ((a0_2 == 0) != ((l0_3.length : Int) == 0)) = true := c19
       (try (have c19b1 : decide ((a0_2 == 0) = ((l0_3.length : Int) == 0)) = false := by simpa using c19))
       (try (have c19b2 : ((a0_2 == 0) == ((l0_3.length : Int) == 0)) = false := by simpa using c19))
       (try (have c19b3 : ¬ ((a0_2 == 0) = ((l0_3.length : Int) == 0)) := by simpa using c19))
       (try (have c19b4 : (!((a0_2 == 0) == ((l0_3.length : Int) == 0))) = true := by simpa using c19))
       clear c19
       obtain rfl := Option.some.inj H
       go_enter Tryd.func12, Tryd.ntmps12
       go_wp2_with (first | ((with_reducible refine gate_dst (N := 1) rfl ?_); (try (refine gate_guard (by rfl) ?_; dsimp only)); refine box_event ?hg (N := 1) ?hd (cs := #[.int .i64 a0_0, .int .i64 a0_1, .int .i64 a0_2, .slice A0_3 l0_3.length c0_3]) (t := 27) ?hr ?_; (case hd => rfl); (case hg => rfl); (case hr => first | (go_simp; done) | (go_simp; rfl)); intro gb163 hg w20 hbox hb; have n0_ := aM (below_step bQ hb); have n1_ := aM (hbox); have n2_ := aM ((by rw [hg]; exact (below_size bQ) : w.heap.size ≤ gb163)); have n3_ := aM ((by rw [hg]; exact (below_size bQ) : w.heap.size ≤ gb163)); clear HB; have HB := n0_; have BK163 := n1_; have GW163 := n2_; have GE163 := n3_; clear n0_ n1_ n2_ n3_; clear hb hbox hg; have hcz21_0 : w20.cell? ⟨gb163, 0, none⟩ = some (.int .i64 a0_0) := (blk_cell BK163.out 0).trans rfl; have hcz21_1 : w20.cell? ⟨gb163, 1, none⟩ = some (.int .i64 a0_1) := (blk_cell BK163.out 1).trans rfl; have hcz21_2 : w20.cell? ⟨gb163, 2, none⟩ = some (.int .i64 a0_2) := (blk_cell BK163.out 2).trans rfl; have hcz21_3 : w20.cell? ⟨gb163, 3, none⟩ = some (.slice A0_3 l0_3.length c0_3) := (blk_cell BK163.out 3).trans rfl; have hfz21_0 := blk_frozen BK163.out 0; have hfz21_1 := blk_frozen BK163.out 1; have hfz21_2 := blk_frozen BK163.out 2; have hfz21_3 := blk_frozen BK163.out 3))
       go_ret
       exact ⟨by first | rfl | (simp [errW_none, errW_some] <;> rfl) | (simp only [← hji2, ← hji6]; first | rfl | (simp [errW_none, errW_some] <;> rfl)) | (simp [*, errW_none, errW_some] <;> rfl), by repeat (first | (with_reducible first | exact HB.out | apply bA | apply bN | apply bD | refine below_set ?_ GE163.out) | exact HB.out)⟩
      ·rw [if_neg c19] at H
       have c19b0 : ((a0_2 == 0) != ((l0_3.length : Int) == 0)) = false := by simpa using c19
       (try (have c19b1 : decide ((a0_2 == 0) = ((l0_3.length : Int) == 0)) = true := by simpa using c19))
       (try (have c19b2 : ((a0_2 == 0) == ((l0_3.length : Int) == 0)) = true := by simpa using c19))
       (try (have c19b3 : (!((a0_2 == 0) == ((l0_3.length : Int) == 0))) = false := by simpa using c19))
       clear c19
       replace H := Option.bind_eq_some_iff.mp H
       obtain ⟨t164, A220, H⟩ := H
       replace H : (some (!t164)) = some r := H
       have A22 := aM A220
       clear A220
       obtain rfl := Option.some.inj H
       go_enter Tryd.func12, Tryd.ntmps12
       go_wp2_with (first | ((with_reducible refine gate_dst (N := 1) rfl ?_); (try (refine gate_guard (by rfl) ?_; dsimp only)); refine box_event ?hg (N := 1) ?hd (cs := #[.int .i64 a0_0, .int .i64 a0_1, .int .i64 a0_2, .slice A0_3 l0_3.length c0_3]) (t := 27) ?hr ?_; (case hd => rfl); (case hg => rfl); (case hr => first | (go_simp; done) | (go_simp; rfl)); intro gb163 hg w23 hbox hb; have n0_ := aM (below_step bQ hb); have n1_ := aM (hbox); have n2_ := aM ((by rw [hg]; exact (below_size bQ) : w.heap.size ≤ gb163)); have n3_ := aM ((by rw [hg]; exact (below_size bQ) : w.heap.size ≤ gb163)); clear HB; have HB := n0_; have BK163 := n1_; have GW163 := n2_; have GE163 := n3_; clear n0_ n1_ n2_ n3_; clear hb hbox hg; have hcz24_0 : w23.cell? ⟨gb163, 0, none⟩ = some (.int .i64 a0_0) := (blk_cell BK163.out 0).trans rfl; have hcz24_1 : w23.cell? ⟨gb163, 1, none⟩ = some (.int .i64 a0_1) := (blk_cell BK163.out 1).trans rfl; have hcz24_2 : w23.cell? ⟨gb163, 2, none⟩ = some (.int .i64 a0_2) := (blk_cell BK163.out 2).trans rfl; have hcz24_3 : w23.cell? ⟨gb163, 3, none⟩ = some (.slice A0_3 l0_3.length c0_3) := (blk_cell BK163.out 3).trans rfl; have hfz24_0 := blk_frozen BK163.out 0; have hfz24_1 := blk_frozen BK163.out 1; have hfz24_2 := blk_frozen BK163.out 2; have hfz24_3 := blk_frozen BK163.out 3) | ((with_reducible refine gate_callee (f := 29) rfl ?_); refine goesL_ (some 46) rfl rfl Tryd.func29 (by kernel_rfl) rfl #[.slice A0_3 l0_3.length c0_3, .func (.func 30) #[] #[.pointer (some ⟨gb163, 0, none⟩)]] rfl gQ ?_; (with_reducible refine (slices_ContainsFunc_string_string_by_impl_ValidBitmap_1.calls k _ _ l0_3 _ [(⟨a0_0, a0_1, a0_2, l0_3⟩ : S27)] 0 t164 _ ?side1 ?side2 ?side3 A22.out).mono ?_); (case side1 => exact cQ HR0_3.out); (case side2 => exact HC0_3.out); (case side3 => exact RPtr.box (k27_mk _ _ (by exact HC0_3.out) (by repeat (first | exact (Kd.C_below HR0_3.out HB.out) | (with_reducible first | refine cA ?_ _ | refine cN ?_ _ | refine cD ?_)))) (by (with_reducible repeat (first | refine blk_drewN ?_ _ | refine blk_drew ?_ | refine blk_alloc ?_ _)); exact BK163.out) rfl); rintro e w25 ⟨rfl, hb⟩; refine ⟨_, rfl, ?_⟩; have n0_ := aM (blk_below (g := gb163) (o := .cells #[.int .i64 a0_0, .int .i64 a0_1, .int .i64 a0_2, .slice A0_3 l0_3.length c0_3] 27 (0, 0)) (by (with_reducible repeat (first | refine blk_drewN ?_ _ | refine blk_drew ?_ | refine blk_alloc ?_ _)); exact BK163.out) hb); have n1_ := aM (below_step (by repeat (first | (with_reducible first | exact HB.out | apply bA | apply bN | apply bD | refine below_set ?_ GE163.out) | exact HB.out)) hb); clear BK163; clear HB; have BK163 := n0_; have HB := n1_; clear n0_ n1_; (try clear hb); (try clear hb2); (try clear hk); (try clear hi)))
       go_ret
       exact ⟨by first | rfl | (simp [errW_none, errW_some] <;> rfl) | (simp only [← hji2, ← hji6]; first | rfl | (simp [errW_none, errW_some] <;> rfl)) | (simp [*, errW_none, errW_some] <;> rfl), by repeat (first | (with_reducible first | exact HB.out | apply bA | apply bN | apply bD | refine below_set ?_ GE163.out) | exact HB.out)⟩

/-! ### impl_pixelAt: function 35 -/
def impl_pixelAt.f (a0_0 : Int) (a0_1 : Int) (a0_2 : Int) (l0_3 : List ByteArray) (a1 : Int) (a2 : Int) : Option (Bool) := if (wrap64 (a1 - a0_0)) ≥ 0 then (if (wrap64 (a1 - a0_0)) < a0_2 then (if (wrap64 (a2 - a0_1)) ≥ 0 then (if (wrap64 (a2 - a0_1)) < (l0_3.length : Int) then (if 0 ≤ (wrap64 ((wrap64 ((l0_3.length : Int) - 1)) - (wrap64 (a2 - a0_1)))) then (if (wrap64 ((wrap64 ((l0_3.length : Int) - 1)) - (wrap64 (a2 - a0_1)))) < (l0_3.length : Int) then (if 0 ≤ (wrap64 (a1 - a0_0)) then (if (wrap64 (a1 - a0_0)) < ((rdOf ByteArray.empty l0_3 (wrap64 ((wrap64 ((l0_3.length : Int) - 1)) - (wrap64 (a2 - a0_1))))).size : Int) then (some ((bt (rdOf ByteArray.empty l0_3 (wrap64 ((wrap64 ((l0_3.length : Int) - 1)) - (wrap64 (a2 - a0_1))))) (wrap64 (a1 - a0_0))) == 35)) else (none)) else (none)) else (none)) else (none)) else (some false)) else (some false)) else (some false)) else (some false)
set_option maxHeartbeats 8000000 in
set_option maxRecDepth 100000 in
theorem impl_pixelAt.calls (a0_0 : Int) (a0_1 : Int) (a0_2 : Int) (A0_3 : Option Addr) (c0_3 : Nat) (l0_3 : List ByteArray) (a1 : Int) (a2 : Int) (r : Bool) (w : World) (hr0_3 : Kd.C Kd.string w A0_3 l0_3.length l0_3) (hc0_3 : l0_3.length ≤ c0_3) (h : impl_pixelAt.f a0_0 a0_1 a0_2 l0_3 a1 a2 = some r) :
  Calls Tryd.prog 35 #[.agg #[.int .i64 a0_0, .int .i64 a0_1, .int .i64 a0_2, .slice A0_3 l0_3.length c0_3], .int .i64 a1, .int .i64 a2] w fun e w' => e = .returned (.bool r) ∧ Below w.heap.size w w' := by
 have hu27 := Tryd.underlying27
 have HR0_3 := aM hr0_3
 have HC0_3 := aM hc0_3
 clear hr0_3 hc0_3
 have HB := aM (Below.refl w.heap.size w)
 have H : (if (wrap64 (a1 - a0_0)) ≥ 0 then (if (wrap64 (a1 - a0_0)) < a0_2 then (if (wrap64 (a2 - a0_1)) ≥ 0 then (if (wrap64 (a2 - a0_1)) < (l0_3.length : Int) then (if 0 ≤ (wrap64 ((wrap64 ((l0_3.length : Int) - 1)) - (wrap64 (a2 - a0_1)))) then (if (wrap64 ((wrap64 ((l0_3.length : Int) - 1)) - (wrap64 (a2 - a0_1)))) < (l0_3.length : Int) then (if 0 ≤ (wrap64 (a1 - a0_0)) then (if (wrap64 (a1 - a0_0)) < ((rdOf ByteArray.empty l0_3 (wrap64 ((wrap64 ((l0_3.length : Int) - 1)) - (wrap64 (a2 - a0_1))))).size : Int) then (some ((bt (rdOf ByteArray.empty l0_3 (wrap64 ((wrap64 ((l0_3.length : Int) - 1)) - (wrap64 (a2 - a0_1))))) (wrap64 (a1 - a0_0))) == 35)) else (none)) else (none)) else (none)) else (none)) else (some false)) else (some false)) else (some false)) else (some false)) = some r := h
 clear h
 by_cases c4 : (wrap64 (a1 - a0_0)) ≥ 0
 ·rw [if_pos c4] at H
  have c4b0 : decide (0 ≤ (wrap64 (a1 - a0_0))) = true := decide_eq_true c4
  clear c4
  by_cases c5 : (wrap64 (a1 - a0_0)) < a0_2
  ·rw [if_pos c5] at H
   have c5b0 : decide ((wrap64 (a1 - a0_0)) < a0_2) = true := decide_eq_true c5
   clear c5
   by_cases c6 : (wrap64 (a2 - a0_1)) ≥ 0
   ·rw [if_pos c6] at H
    have c6b0 : decide (0 ≤ (wrap64 (a2 - a0_1))) = true := decide_eq_true c6
    clear c6
    by_cases c7 : (wrap64 (a2 - a0_1)) < (l0_3.length : Int)
    ·rw [if_pos c7] at H
     have c7b0 : decide ((wrap64 (a2 - a0_1)) < (l0_3.length : Int)) = true := decide_eq_true c7
     clear c7
     obtain ⟨ji8, hji8⟩ : ∃ j_ : Int, (wrap64 ((wrap64 ((l0_3.length : Int) - 1)) - (wrap64 (a2 - a0_1)))) = j_ := ⟨_, rfl⟩
     replace H : (if 0 ≤ (ji8) then (if (ji8) < (l0_3.length : Int) then (if 0 ≤ (wrap64 (a1 - a0_0)) then (if (wrap64 (a1 - a0_0)) < ((rdOf ByteArray.empty l0_3 (ji8)).size : Int) then (some ((bt (rdOf ByteArray.empty l0_3 (ji8)) (wrap64 (a1 - a0_0))) == 35)) else (none)) else (none)) else (none)) else (none)) = some r := by first | (rw [hji8] at H; exact H) | (simp only [hji8] at H ⊢; exact H)
     have hji8w : (IntKind.i64.wrap ((wrap64 ((l0_3.length : Int) - 1)) - (wrap64 (a2 - a0_1)))) = ji8 := (i64_w _).trans hji8
     by_cases c9 : 0 ≤ (ji8)
     ·rw [if_pos c9] at H
      have c9b0 : decide (0 ≤ (ji8)) = true := decide_eq_true c9
      clear c9
      by_cases c10 : (ji8) < (l0_3.length : Int)
      ·rw [if_pos c10] at H
       have c10b0 : decide ((ji8) < (l0_3.length : Int)) = true := decide_eq_true c10
       clear c10
       obtain ⟨ji11, hji11⟩ : ∃ j_ : Int, (wrap64 (a1 - a0_0)) = j_ := ⟨_, rfl⟩
       replace H : (if 0 ≤ (ji11) then (if (ji11) < ((rdOf ByteArray.empty l0_3 (ji8)).size : Int) then (some ((bt (rdOf ByteArray.empty l0_3 (ji8)) (ji11)) == 35)) else (none)) else (none)) = some r := by first | (rw [hji11] at H; exact H) | (simp only [hji11] at H ⊢; exact H)
       (try rw [hji11] at c4b0)
       (try rw [hji11] at c5b0)
       have hji11w : (IntKind.i64.wrap (a1 - a0_0)) = ji11 := (i64_w _).trans hji11
       by_cases c12 : 0 ≤ (ji11)
       ·rw [if_pos c12] at H
        have c12b0 : decide (0 ≤ (ji11)) = true := decide_eq_true c12
        clear c12
        by_cases c13 : (ji11) < ((rdOf ByteArray.empty l0_3 (ji8)).size : Int)
        ·rw [if_pos c13] at H
         have c13b0 : decide ((ji11) < ((rdOf ByteArray.empty l0_3 (ji8)).size : Int)) = true := decide_eq_true c13
         clear c13
         obtain rfl := Option.some.inj H
         go_enter Tryd.func35, Tryd.ntmps35
         go_wp2_with (first | ((with_reducible refine gate_dst (N := 3) rfl ?_); refine box_event ?hg (N := 3) ?hd (cs := #[.int .i64 a0_0, .int .i64 a0_1, .int .i64 a0_2, .slice A0_3 l0_3.length c0_3]) (t := 27) ?hr ?_; (case hd => rfl); (case hg => rfl); (case hr => first | (go_simp; done) | (go_simp; rfl)); intro gb165 hg w15 hbox hb; have n0_ := aM (below_step bQ hb); have n1_ := aM (hbox); have n2_ := aM ((by rw [hg]; exact (below_size bQ) : w.heap.size ≤ gb165)); have n3_ := aM ((by rw [hg]; exact (below_size bQ) : w.heap.size ≤ gb165)); clear HB; have HB := n0_; have BK165 := n1_; have GW165 := n2_; have GE165 := n3_; clear n0_ n1_ n2_ n3_; clear hb hbox hg; have hcz16_0 : w15.cell? ⟨gb165, 0, none⟩ = some (.int .i64 a0_0) := (blk_cell BK165.out 0).trans rfl; have hcz16_1 : w15.cell? ⟨gb165, 1, none⟩ = some (.int .i64 a0_1) := (blk_cell BK165.out 1).trans rfl; have hcz16_2 : w15.cell? ⟨gb165, 2, none⟩ = some (.int .i64 a0_2) := (blk_cell BK165.out 2).trans rfl; have hcz16_3 : w15.cell? ⟨gb165, 3, none⟩ = some (.slice A0_3 l0_3.length c0_3) := (blk_cell BK165.out 3).trans rfl; have hfz16_0 := blk_frozen BK165.out 0; have hfz16_1 := blk_frozen BK165.out 1; have hfz16_2 := blk_frozen BK165.out 2; have hfz16_3 := blk_frozen BK165.out 3; have p166 : 0 ≤ ((ji8) : Int) := dA; have q166 : (ji8) < (l0_3.length : Int) := dA; obtain ⟨ad166, e166, hx166_0⟩ := Kd.at_string HR0_3.out (ji8) p166 q166; cases e166; replace hx166_0 := cB HB.out hx166_0; replace p166 := eq_true p166; replace q166 := eq_true q166; have p14 : 0 ≤ ((ji11) : Int) := dA; have q14 : (ji11) < ((rdOf ByteArray.empty l0_3 (ji8)).size : Int) := dA; have hx14 := bt_at (rdOf ByteArray.empty l0_3 (ji8)) (ji11); replace p14 := eq_true p14; replace q14 := eq_true q14))
         repeat (go_quiet (first | ((with_reducible refine gate_dst (N := 3) rfl ?_); refine box_event ?hg (N := 3) ?hd (cs := #[.int .i64 a0_0, .int .i64 a0_1, .int .i64 a0_2, .slice A0_3 l0_3.length c0_3]) (t := 27) ?hr ?_; (case hd => rfl); (case hg => rfl); (case hr => first | (go_simp; done) | (go_simp; rfl)); intro gb165 hg w15 hbox hb; have n0_ := aM (below_step bQ hb); have n1_ := aM (hbox); have n2_ := aM ((by rw [hg]; exact (below_size bQ) : w.heap.size ≤ gb165)); have n3_ := aM ((by rw [hg]; exact (below_size bQ) : w.heap.size ≤ gb165)); clear HB; have HB := n0_; have BK165 := n1_; have GW165 := n2_; have GE165 := n3_; clear n0_ n1_ n2_ n3_; clear hb hbox hg; have hcz16_0 : w15.cell? ⟨gb165, 0, none⟩ = some (.int .i64 a0_0) := (blk_cell BK165.out 0).trans rfl; have hcz16_1 : w15.cell? ⟨gb165, 1, none⟩ = some (.int .i64 a0_1) := (blk_cell BK165.out 1).trans rfl; have hcz16_2 : w15.cell? ⟨gb165, 2, none⟩ = some (.int .i64 a0_2) := (blk_cell BK165.out 2).trans rfl; have hcz16_3 : w15.cell? ⟨gb165, 3, none⟩ = some (.slice A0_3 l0_3.length c0_3) := (blk_cell BK165.out 3).trans rfl; have hfz16_0 := blk_frozen BK165.out 0; have hfz16_1 := blk_frozen BK165.out 1; have hfz16_2 := blk_frozen BK165.out 2; have hfz16_3 := blk_frozen BK165.out 3; have p166 : 0 ≤ ((ji8) : Int) := dA; have q166 : (ji8) < (l0_3.length : Int) := dA; obtain ⟨ad166, e166, hx166_0⟩ := Kd.at_string HR0_3.out (ji8) p166 q166; cases e166; replace hx166_0 := cB HB.out hx166_0; replace p166 := eq_true p166; replace q166 := eq_true q166; have p14 : 0 ≤ ((ji11) : Int) := dA; have q14 : (ji11) < ((rdOf ByteArray.empty l0_3 (ji8)).size : Int) := dA; have hx14 := bt_at (rdOf ByteArray.empty l0_3 (ji8)) (ji11); replace p14 := eq_true p14; replace q14 := eq_true q14)); try go_wp2_with (first | ((with_reducible refine gate_dst (N := 3) rfl ?_); refine box_event ?hg (N := 3) ?hd (cs := #[.int .i64 a0_0, .int .i64 a0_1, .int .i64 a0_2, .slice A0_3 l0_3.length c0_3]) (t := 27) ?hr ?_; (case hd => rfl); (case hg => rfl); (case hr => first | (go_simp; done) | (go_simp; rfl)); intro gb165 hg w15 hbox hb; have n0_ := aM (below_step bQ hb); have n1_ := aM (hbox); have n2_ := aM ((by rw [hg]; exact (below_size bQ) : w.heap.size ≤ gb165)); have n3_ := aM ((by rw [hg]; exact (below_size bQ) : w.heap.size ≤ gb165)); clear HB; have HB := n0_; have BK165 := n1_; have GW165 := n2_; have GE165 := n3_; clear n0_ n1_ n2_ n3_; clear hb hbox hg; have hcz16_0 : w15.cell? ⟨gb165, 0, none⟩ = some (.int .i64 a0_0) := (blk_cell BK165.out 0).trans rfl; have hcz16_1 : w15.cell? ⟨gb165, 1, none⟩ = some (.int .i64 a0_1) := (blk_cell BK165.out 1).trans rfl; have hcz16_2 : w15.cell? ⟨gb165, 2, none⟩ = some (.int .i64 a0_2) := (blk_cell BK165.out 2).trans rfl; have hcz16_3 : w15.cell? ⟨gb165, 3, none⟩ = some (.slice A0_3 l0_3.length c0_3) := (blk_cell BK165.out 3).trans rfl; have hfz16_0 := blk_frozen BK165.out 0; have hfz16_1 := blk_frozen BK165.out 1; have hfz16_2 := blk_frozen BK165.out 2; have hfz16_3 := blk_frozen BK165.out 3; have p166 : 0 ≤ ((ji8) : Int) := dA; have q166 : (ji8) < (l0_3.length : Int) := dA; obtain ⟨ad166, e166, hx166_0⟩ := Kd.at_string HR0_3.out (ji8) p166 q166; cases e166; replace hx166_0 := cB HB.out hx166_0; replace p166 := eq_true p166; replace q166 := eq_true q166; have p14 : 0 ≤ ((ji11) : Int) := dA; have q14 : (ji11) < ((rdOf ByteArray.empty l0_3 (ji8)).size : Int) := dA; have hx14 := bt_at (rdOf ByteArray.empty l0_3 (ji8)) (ji11); replace p14 := eq_true p14; replace q14 := eq_true q14)))
         go_ret
         exact ⟨by first | rfl | (simp [errW_none, errW_some] <;> rfl) | (simp only [← hji8, ← hji11]; first | rfl | (simp [errW_none, errW_some] <;> rfl)) | (simp [*, errW_none, errW_some] <;> rfl), by repeat (first | (with_reducible first | exact HB.out | apply bA | apply bN | apply bD | refine below_set ?_ GE165.out) | exact HB.out)⟩
        ·rw [if_neg c13] at H
         exact absurd H (by simp)
       ·rw [if_neg c12] at H
        exact absurd H (by simp)
      ·rw [if_neg c10] at H
       exact absurd H (by simp)
     ·rw [if_neg c9] at H
      exact absurd H (by simp)
    ·rw [if_neg c7] at H
     have c7b0 : decide ((wrap64 (a2 - a0_1)) < (l0_3.length : Int)) = false := decide_eq_false c7
     clear c7
     obtain rfl := Option.some.inj H
     go_enter Tryd.func35, Tryd.ntmps35
     go_wp2_with (first | ((with_reducible refine gate_dst (N := 3) rfl ?_); refine box_event ?hg (N := 3) ?hd (cs := #[.int .i64 a0_0, .int .i64 a0_1, .int .i64 a0_2, .slice A0_3 l0_3.length c0_3]) (t := 27) ?hr ?_; (case hd => rfl); (case hg => rfl); (case hr => first | (go_simp; done) | (go_simp; rfl)); intro gb165 hg w17 hbox hb; have n0_ := aM (below_step bQ hb); have n1_ := aM (hbox); have n2_ := aM ((by rw [hg]; exact (below_size bQ) : w.heap.size ≤ gb165)); have n3_ := aM ((by rw [hg]; exact (below_size bQ) : w.heap.size ≤ gb165)); clear HB; have HB := n0_; have BK165 := n1_; have GW165 := n2_; have GE165 := n3_; clear n0_ n1_ n2_ n3_; clear hb hbox hg; have hcz18_0 : w17.cell? ⟨gb165, 0, none⟩ = some (.int .i64 a0_0) := (blk_cell BK165.out 0).trans rfl; have hcz18_1 : w17.cell? ⟨gb165, 1, none⟩ = some (.int .i64 a0_1) := (blk_cell BK165.out 1).trans rfl; have hcz18_2 : w17.cell? ⟨gb165, 2, none⟩ = some (.int .i64 a0_2) := (blk_cell BK165.out 2).trans rfl; have hcz18_3 : w17.cell? ⟨gb165, 3, none⟩ = some (.slice A0_3 l0_3.length c0_3) := (blk_cell BK165.out 3).trans rfl; have hfz18_0 := blk_frozen BK165.out 0; have hfz18_1 := blk_frozen BK165.out 1; have hfz18_2 := blk_frozen BK165.out 2; have hfz18_3 := blk_frozen BK165.out 3))
     repeat (go_quiet (first | ((with_reducible refine gate_dst (N := 3) rfl ?_); refine box_event ?hg (N := 3) ?hd (cs := #[.int .i64 a0_0, .int .i64 a0_1, .int .i64 a0_2, .slice A0_3 l0_3.length c0_3]) (t := 27) ?hr ?_; (case hd => rfl); (case hg => rfl); (case hr => first | (go_simp; done) | (go_simp; rfl)); intro gb165 hg w17 hbox hb; have n0_ := aM (below_step bQ hb); have n1_ := aM (hbox); have n2_ := aM ((by rw [hg]; exact (below_size bQ) : w.heap.size ≤ gb165)); have n3_ := aM ((by rw [hg]; exact (below_size bQ) : w.heap.size ≤ gb165)); clear HB; have HB := n0_; have BK165 := n1_; have GW165 := n2_; have GE165 := n3_; clear n0_ n1_ n2_ n3_; clear hb hbox hg; have hcz18_0 : w17.cell? ⟨gb165, 0, none⟩ = some (.int .i64 a0_0) := (blk_cell BK165.out 0).trans rfl; have hcz18_1 : w17.cell? ⟨gb165, 1, none⟩ = some (.int .i64 a0_1) := (blk_cell BK165.out 1).trans rfl; have hcz18_2 : w17.cell? ⟨gb165, 2, none⟩ = some (.int .i64 a0_2) := (blk_cell BK165.out 2).trans rfl; have hcz18_3 : w17.cell? ⟨gb165, 3, none⟩ = some (.slice A0_3 l0_3.length c0_3) := (blk_cell BK165.out 3).trans rfl; have hfz18_0 := blk_frozen BK165.out 0; have hfz18_1 := blk_frozen BK165.out 1; have hfz18_2 := blk_frozen BK165.out 2; have hfz18_3 := blk_frozen BK165.out 3)); try go_wp2_with (first | ((with_reducible refine gate_dst (N := 3) rfl ?_); refine box_event ?hg (N := 3) ?hd (cs := #[.int .i64 a0_0, .int .i64 a0_1, .int .i64 a0_2, .slice A0_3 l0_3.length c0_3]) (t := 27) ?hr ?_; (case hd => rfl); (case hg => rfl); (case hr => first | (go_simp; done) | (go_simp; rfl)); intro gb165 hg w17 hbox hb; have n0_ := aM (below_step bQ hb); have n1_ := aM (hbox); have n2_ := aM ((by rw [hg]; exact (below_size bQ) : w.heap.size ≤ gb165)); have n3_ := aM ((by rw [hg]; exact (below_size bQ) : w.heap.size ≤ gb165)); clear HB; have HB := n0_; have BK165 := n1_; have GW165 := n2_; have GE165 := n3_; clear n0_ n1_ n2_ n3_; clear hb hbox hg; have hcz18_0 : w17.cell? ⟨gb165, 0, none⟩ = some (.int .i64 a0_0) := (blk_cell BK165.out 0).trans rfl; have hcz18_1 : w17.cell? ⟨gb165, 1, none⟩ = some (.int .i64 a0_1) := (blk_cell BK165.out 1).trans rfl; have hcz18_2 : w17.cell? ⟨gb165, 2, none⟩ = some (.int .i64 a0_2) := (blk_cell BK165.out 2).trans rfl; have hcz18_3 : w17.cell? ⟨gb165, 3, none⟩ = some (.slice A0_3 l0_3.length c0_3) := (blk_cell BK165.out 3).trans rfl; have hfz18_0 := blk_frozen BK165.out 0; have hfz18_1 := blk_frozen BK165.out 1; have hfz18_2 := blk_frozen BK165.out 2; have hfz18_3 := blk_frozen BK165.out 3)))
     go_ret
     exact ⟨eQ, by repeat (first | (with_reducible first | exact HB.out | apply bA | apply bN | apply bD | refine below_set ?_ GE165.out) | exact HB.out)⟩
   ·rw [if_neg c6] at H
    have c6b0 : decide (0 ≤ (wrap64 (a2 - a0_1))) = false := decide_eq_false c6
    clear c6
    obtain rfl := Option.some.inj H
    go_enter Tryd.func35, Tryd.ntmps35
    go_wp2_with (first | ((with_reducible refine gate_dst (N := 3) rfl ?_); refine box_event ?hg (N := 3) ?hd (cs := #[.int .i64 a0_0, .int .i64 a0_1, .int .i64 a0_2, .slice A0_3 l0_3.length c0_3]) (t := 27) ?hr ?_; (case hd => rfl); (case hg => rfl); (case hr => first | (go_simp; done) | (go_simp; rfl)); intro gb165 hg w19 hbox hb; have n0_ := aM (below_step bQ hb); have n1_ := aM (hbox); have n2_ := aM ((by rw [hg]; exact (below_size bQ) : w.heap.size ≤ gb165)); have n3_ := aM ((by rw [hg]; exact (below_size bQ) : w.heap.size ≤ gb165)); clear HB; have HB := n0_; have BK165 := n1_; have GW165 := n2_; have GE165 := n3_; clear n0_ n1_ n2_ n3_; clear hb hbox hg; have hcz20_0 : w19.cell? ⟨gb165, 0, none⟩ = some (.int .i64 a0_0) := (blk_cell BK165.out 0).trans rfl; have hcz20_1 : w19.cell? ⟨gb165, 1, none⟩ = some (.int .i64 a0_1) := (blk_cell BK165.out 1).trans rfl; have hcz20_2 : w19.cell? ⟨gb165, 2, none⟩ = some (.int .i64 a0_2) := (blk_cell BK165.out 2).trans rfl; have hcz20_3 : w19.cell? ⟨gb165, 3, none⟩ = some (.slice A0_3 l0_3.length c0_3) := (blk_cell BK165.out 3).trans rfl; have hfz20_0 := blk_frozen BK165.out 0; have hfz20_1 := blk_frozen BK165.out 1; have hfz20_2 := blk_frozen BK165.out 2; have hfz20_3 := blk_frozen BK165.out 3))
    repeat (go_quiet (first | ((with_reducible refine gate_dst (N := 3) rfl ?_); refine box_event ?hg (N := 3) ?hd (cs := #[.int .i64 a0_0, .int .i64 a0_1, .int .i64 a0_2, .slice A0_3 l0_3.length c0_3]) (t := 27) ?hr ?_; (case hd => rfl); (case hg => rfl); (case hr => first | (go_simp; done) | (go_simp; rfl)); intro gb165 hg w19 hbox hb; have n0_ := aM (below_step bQ hb); have n1_ := aM (hbox); have n2_ := aM ((by rw [hg]; exact (below_size bQ) : w.heap.size ≤ gb165)); have n3_ := aM ((by rw [hg]; exact (below_size bQ) : w.heap.size ≤ gb165)); clear HB; have HB := n0_; have BK165 := n1_; have GW165 := n2_; have GE165 := n3_; clear n0_ n1_ n2_ n3_; clear hb hbox hg; have hcz20_0 : w19.cell? ⟨gb165, 0, none⟩ = some (.int .i64 a0_0) := (blk_cell BK165.out 0).trans rfl; have hcz20_1 : w19.cell? ⟨gb165, 1, none⟩ = some (.int .i64 a0_1) := (blk_cell BK165.out 1).trans rfl; have hcz20_2 : w19.cell? ⟨gb165, 2, none⟩ = some (.int .i64 a0_2) := (blk_cell BK165.out 2).trans rfl; have hcz20_3 : w19.cell? ⟨gb165, 3, none⟩ = some (.slice A0_3 l0_3.length c0_3) := (blk_cell BK165.out 3).trans rfl; have hfz20_0 := blk_frozen BK165.out 0; have hfz20_1 := blk_frozen BK165.out 1; have hfz20_2 := blk_frozen BK165.out 2; have hfz20_3 := blk_frozen BK165.out 3)); try go_wp2_with (first | ((with_reducible refine gate_dst (N := 3) rfl ?_); refine box_event ?hg (N := 3) ?hd (cs := #[.int .i64 a0_0, .int .i64 a0_1, .int .i64 a0_2, .slice A0_3 l0_3.length c0_3]) (t := 27) ?hr ?_; (case hd => rfl); (case hg => rfl); (case hr => first | (go_simp; done) | (go_simp; rfl)); intro gb165 hg w19 hbox hb; have n0_ := aM (below_step bQ hb); have n1_ := aM (hbox); have n2_ := aM ((by rw [hg]; exact (below_size bQ) : w.heap.size ≤ gb165)); have n3_ := aM ((by rw [hg]; exact (below_size bQ) : w.heap.size ≤ gb165)); clear HB; have HB := n0_; have BK165 := n1_; have GW165 := n2_; have GE165 := n3_; clear n0_ n1_ n2_ n3_; clear hb hbox hg; have hcz20_0 : w19.cell? ⟨gb165, 0, none⟩ = some (.int .i64 a0_0) := (blk_cell BK165.out 0).trans rfl; have hcz20_1 : w19.cell? ⟨gb165, 1, none⟩ = some (.int .i64 a0_1) := (blk_cell BK165.out 1).trans rfl; have hcz20_2 : w19.cell? ⟨gb165, 2, none⟩ = some (.int .i64 a0_2) := (blk_cell BK165.out 2).trans rfl; have hcz20_3 : w19.cell? ⟨gb165, 3, none⟩ = some (.slice A0_3 l0_3.length c0_3) := (blk_cell BK165.out 3).trans rfl; have hfz20_0 := blk_frozen BK165.out 0; have hfz20_1 := blk_frozen BK165.out 1; have hfz20_2 := blk_frozen BK165.out 2; have hfz20_3 := blk_frozen BK165.out 3)))
    go_ret
    exact ⟨eQ, by repeat (first | (with_reducible first | exact HB.out | apply bA | apply bN | apply bD | refine below_set ?_ GE165.out) | exact HB.out)⟩
  ·rw [if_neg c5] at H
   have c5b0 : decide ((wrap64 (a1 - a0_0)) < a0_2) = false := decide_eq_false c5
   clear c5
   obtain rfl := Option.some.inj H
   go_enter Tryd.func35, Tryd.ntmps35
   go_wp2_with (first | ((with_reducible refine gate_dst (N := 3) rfl ?_); refine box_event ?hg (N := 3) ?hd (cs := #[.int .i64 a0_0, .int .i64 a0_1, .int .i64 a0_2, .slice A0_3 l0_3.length c0_3]) (t := 27) ?hr ?_; (case hd => rfl); (case hg => rfl); (case hr => first | (go_simp; done) | (go_simp; rfl)); intro gb165 hg w21 hbox hb; have n0_ := aM (below_step bQ hb); have n1_ := aM (hbox); have n2_ := aM ((by rw [hg]; exact (below_size bQ) : w.heap.size ≤ gb165)); have n3_ := aM ((by rw [hg]; exact (below_size bQ) : w.heap.size ≤ gb165)); clear HB; have HB := n0_; have BK165 := n1_; have GW165 := n2_; have GE165 := n3_; clear n0_ n1_ n2_ n3_; clear hb hbox hg; have hcz22_0 : w21.cell? ⟨gb165, 0, none⟩ = some (.int .i64 a0_0) := (blk_cell BK165.out 0).trans rfl; have hcz22_1 : w21.cell? ⟨gb165, 1, none⟩ = some (.int .i64 a0_1) := (blk_cell BK165.out 1).trans rfl; have hcz22_2 : w21.cell? ⟨gb165, 2, none⟩ = some (.int .i64 a0_2) := (blk_cell BK165.out 2).trans rfl; have hcz22_3 : w21.cell? ⟨gb165, 3, none⟩ = some (.slice A0_3 l0_3.length c0_3) := (blk_cell BK165.out 3).trans rfl; have hfz22_0 := blk_frozen BK165.out 0; have hfz22_1 := blk_frozen BK165.out 1; have hfz22_2 := blk_frozen BK165.out 2; have hfz22_3 := blk_frozen BK165.out 3))
   repeat (go_quiet (first | ((with_reducible refine gate_dst (N := 3) rfl ?_); refine box_event ?hg (N := 3) ?hd (cs := #[.int .i64 a0_0, .int .i64 a0_1, .int .i64 a0_2, .slice A0_3 l0_3.length c0_3]) (t := 27) ?hr ?_; (case hd => rfl); (case hg => rfl); (case hr => first | (go_simp; done) | (go_simp; rfl)); intro gb165 hg w21 hbox hb; have n0_ := aM (below_step bQ hb); have n1_ := aM (hbox); have n2_ := aM ((by rw [hg]; exact (below_size bQ) : w.heap.size ≤ gb165)); have n3_ := aM ((by rw [hg]; exact (below_size bQ) : w.heap.size ≤ gb165)); clear HB; have HB := n0_; have BK165 := n1_; have GW165 := n2_; have GE165 := n3_; clear n0_ n1_ n2_ n3_; clear hb hbox hg; have hcz22_0 : w21.cell? ⟨gb165, 0, none⟩ = some (.int .i64 a0_0) := (blk_cell BK165.out 0).trans rfl; have hcz22_1 : w21.cell? ⟨gb165, 1, none⟩ = some (.int .i64 a0_1) := (blk_cell BK165.out 1).trans rfl; have hcz22_2 : w21.cell? ⟨gb165, 2, none⟩ = some (.int .i64 a0_2) := (blk_cell BK165.out 2).trans rfl; have hcz22_3 : w21.cell? ⟨gb165, 3, none⟩ = some (.slice A0_3 l0_3.length c0_3) := (blk_cell BK165.out 3).trans rfl; have hfz22_0 := blk_frozen BK165.out 0; have hfz22_1 := blk_frozen BK165.out 1; have hfz22_2 := blk_frozen BK165.out 2; have hfz22_3 := blk_frozen BK165.out 3)); try go_wp2_with (first | ((with_reducible refine gate_dst (N := 3) rfl ?_); refine box_event ?hg (N := 3) ?hd (cs := #[.int .i64 a0_0, .int .i64 a0_1, .int .i64 a0_2, .slice A0_3 l0_3.length c0_3]) (t := 27) ?hr ?_; (case hd => rfl); (case hg => rfl); (case hr => first | (go_simp; done) | (go_simp; rfl)); intro gb165 hg w21 hbox hb; have n0_ := aM (below_step bQ hb); have n1_ := aM (hbox); have n2_ := aM ((by rw [hg]; exact (below_size bQ) : w.heap.size ≤ gb165)); have n3_ := aM ((by rw [hg]; exact (below_size bQ) : w.heap.size ≤ gb165)); clear HB; have HB := n0_; have BK165 := n1_; have GW165 := n2_; have GE165 := n3_; clear n0_ n1_ n2_ n3_; clear hb hbox hg; have hcz22_0 : w21.cell? ⟨gb165, 0, none⟩ = some (.int .i64 a0_0) := (blk_cell BK165.out 0).trans rfl; have hcz22_1 : w21.cell? ⟨gb165, 1, none⟩ = some (.int .i64 a0_1) := (blk_cell BK165.out 1).trans rfl; have hcz22_2 : w21.cell? ⟨gb165, 2, none⟩ = some (.int .i64 a0_2) := (blk_cell BK165.out 2).trans rfl; have hcz22_3 : w21.cell? ⟨gb165, 3, none⟩ = some (.slice A0_3 l0_3.length c0_3) := (blk_cell BK165.out 3).trans rfl; have hfz22_0 := blk_frozen BK165.out 0; have hfz22_1 := blk_frozen BK165.out 1; have hfz22_2 := blk_frozen BK165.out 2; have hfz22_3 := blk_frozen BK165.out 3)))
   go_ret
   exact ⟨eQ, by repeat (first | (with_reducible first | exact HB.out | apply bA | apply bN | apply bD | refine below_set ?_ GE165.out) | exact HB.out)⟩
 ·rw [if_neg c4] at H
  have c4b0 : decide (0 ≤ (wrap64 (a1 - a0_0))) = false := decide_eq_false c4
  clear c4
  obtain rfl := Option.some.inj H
  go_enter Tryd.func35, Tryd.ntmps35
  go_wp2_with (first | ((with_reducible refine gate_dst (N := 3) rfl ?_); refine box_event ?hg (N := 3) ?hd (cs := #[.int .i64 a0_0, .int .i64 a0_1, .int .i64 a0_2, .slice A0_3 l0_3.length c0_3]) (t := 27) ?hr ?_; (case hd => rfl); (case hg => rfl); (case hr => first | (go_simp; done) | (go_simp; rfl)); intro gb165 hg w23 hbox hb; have n0_ := aM (below_step bQ hb); have n1_ := aM (hbox); have n2_ := aM ((by rw [hg]; exact (below_size bQ) : w.heap.size ≤ gb165)); have n3_ := aM ((by rw [hg]; exact (below_size bQ) : w.heap.size ≤ gb165)); clear HB; have HB := n0_; have BK165 := n1_; have GW165 := n2_; have GE165 := n3_; clear n0_ n1_ n2_ n3_; clear hb hbox hg; have hcz24_0 : w23.cell? ⟨gb165, 0, none⟩ = some (.int .i64 a0_0) := (blk_cell BK165.out 0).trans rfl; have hcz24_1 : w23.cell? ⟨gb165, 1, none⟩ = some (.int .i64 a0_1) := (blk_cell BK165.out 1).trans rfl; have hcz24_2 : w23.cell? ⟨gb165, 2, none⟩ = some (.int .i64 a0_2) := (blk_cell BK165.out 2).trans rfl; have hcz24_3 : w23.cell? ⟨gb165, 3, none⟩ = some (.slice A0_3 l0_3.length c0_3) := (blk_cell BK165.out 3).trans rfl; have hfz24_0 := blk_frozen BK165.out 0; have hfz24_1 := blk_frozen BK165.out 1; have hfz24_2 := blk_frozen BK165.out 2; have hfz24_3 := blk_frozen BK165.out 3))
  repeat (go_quiet (first | ((with_reducible refine gate_dst (N := 3) rfl ?_); refine box_event ?hg (N := 3) ?hd (cs := #[.int .i64 a0_0, .int .i64 a0_1, .int .i64 a0_2, .slice A0_3 l0_3.length c0_3]) (t := 27) ?hr ?_; (case hd => rfl); (case hg => rfl); (case hr => first | (go_simp; done) | (go_simp; rfl)); intro gb165 hg w23 hbox hb; have n0_ := aM (below_step bQ hb); have n1_ := aM (hbox); have n2_ := aM ((by rw [hg]; exact (below_size bQ) : w.heap.size ≤ gb165)); have n3_ := aM ((by rw [hg]; exact (below_size bQ) : w.heap.size ≤ gb165)); clear HB; have HB := n0_; have BK165 := n1_; have GW165 := n2_; have GE165 := n3_; clear n0_ n1_ n2_ n3_; clear hb hbox hg; have hcz24_0 : w23.cell? ⟨gb165, 0, none⟩ = some (.int .i64 a0_0) := (blk_cell BK165.out 0).trans rfl; have hcz24_1 : w23.cell? ⟨gb165, 1, none⟩ = some (.int .i64 a0_1) := (blk_cell BK165.out 1).trans rfl; have hcz24_2 : w23.cell? ⟨gb165, 2, none⟩ = some (.int .i64 a0_2) := (blk_cell BK165.out 2).trans rfl; have hcz24_3 : w23.cell? ⟨gb165, 3, none⟩ = some (.slice A0_3 l0_3.length c0_3) := (blk_cell BK165.out 3).trans rfl; have hfz24_0 := blk_frozen BK165.out 0; have hfz24_1 := blk_frozen BK165.out 1; have hfz24_2 := blk_frozen BK165.out 2; have hfz24_3 := blk_frozen BK165.out 3)); try go_wp2_with (first | ((with_reducible refine gate_dst (N := 3) rfl ?_); refine box_event ?hg (N := 3) ?hd (cs := #[.int .i64 a0_0, .int .i64 a0_1, .int .i64 a0_2, .slice A0_3 l0_3.length c0_3]) (t := 27) ?hr ?_; (case hd => rfl); (case hg => rfl); (case hr => first | (go_simp; done) | (go_simp; rfl)); intro gb165 hg w23 hbox hb; have n0_ := aM (below_step bQ hb); have n1_ := aM (hbox); have n2_ := aM ((by rw [hg]; exact (below_size bQ) : w.heap.size ≤ gb165)); have n3_ := aM ((by rw [hg]; exact (below_size bQ) : w.heap.size ≤ gb165)); clear HB; have HB := n0_; have BK165 := n1_; have GW165 := n2_; have GE165 := n3_; clear n0_ n1_ n2_ n3_; clear hb hbox hg; have hcz24_0 : w23.cell? ⟨gb165, 0, none⟩ = some (.int .i64 a0_0) := (blk_cell BK165.out 0).trans rfl; have hcz24_1 : w23.cell? ⟨gb165, 1, none⟩ = some (.int .i64 a0_1) := (blk_cell BK165.out 1).trans rfl; have hcz24_2 : w23.cell? ⟨gb165, 2, none⟩ = some (.int .i64 a0_2) := (blk_cell BK165.out 2).trans rfl; have hcz24_3 : w23.cell? ⟨gb165, 3, none⟩ = some (.slice A0_3 l0_3.length c0_3) := (blk_cell BK165.out 3).trans rfl; have hfz24_0 := blk_frozen BK165.out 0; have hfz24_1 := blk_frozen BK165.out 1; have hfz24_2 := blk_frozen BK165.out 2; have hfz24_3 := blk_frozen BK165.out 3)))
  go_ret
  exact ⟨eQ, by repeat (first | (with_reducible first | exact HB.out | apply bA | apply bN | apply bD | refine below_set ?_ GE165.out) | exact HB.out)⟩

/-! ### impl_PixelAt: function 15 -/
def impl_PixelAt.f (k : Nat) (a0_0 : Int) (a0_1 : Int) (a0_2 : Int) (l0_3 : List ByteArray) (a1 : Int) (a2 : Int) : Option (Bool) := (impl_ValidBitmap.f k a0_0 a0_1 a0_2 l0_3).bind fun t168 => (if t168 = true then (if (mn a1 a2) ≥ (-2097152) then (if (mx a1 a2) ≤ 2097152 then ((impl_pixelAt.f a0_0 a0_1 a0_2 l0_3 a1 a2).bind fun t169 => (some t169)) else (some false)) else (some false)) else (some false))
theorem impl_PixelAt.mono : ∀ a0 a1 a2 a3 a4 a5 k, LeO (impl_PixelAt.f k a0 a1 a2 a3 a4 a5) (impl_PixelAt.f (k + 1) a0 a1 a2 a3 a4 a5) := by
 intro a0 a1 a2 a3 a4 a5 k
 unfold impl_PixelAt.f
 repeat' first
   | (with_reducible exact impl_ValidBitmap.mono _ _ _ _ _)
   | (with_reducible exact LeO.refl _)
   | (with_reducible exact LeO.none _)
   | (with_reducible refine LeO.ite ?_ ?_)
   | (with_reducible refine LeO.bind ?_ (fun _ => ?_))
   | exact impl_ValidBitmap.mono _ _ _ _ _
   | exact LeO.none _
   | refine LeO.ite ?_ ?_
   | refine LeO.bind ?_ (fun _ => ?_)
set_option maxHeartbeats 8000000 in
set_option maxRecDepth 100000 in
theorem impl_PixelAt.calls (k : Nat) (a0_0 : Int) (a0_1 : Int) (a0_2 : Int) (A0_3 : Option Addr) (c0_3 : Nat) (l0_3 : List ByteArray) (a1 : Int) (a2 : Int) (r : Bool) (w : World) (hr0_3 : Kd.C Kd.string w A0_3 l0_3.length l0_3) (hc0_3 : l0_3.length ≤ c0_3) (h : impl_PixelAt.f k a0_0 a0_1 a0_2 l0_3 a1 a2 = some r) :
  Calls Tryd.prog 15 #[.agg #[.int .i64 a0_0, .int .i64 a0_1, .int .i64 a0_2, .slice A0_3 l0_3.length c0_3], .int .i64 a1, .int .i64 a2] w fun e w' => e = .returned (.bool r) ∧ Below w.heap.size w w' := by
 have hu27 := Tryd.underlying27
 have HR0_3 := aM hr0_3
 have HC0_3 := aM hc0_3
 clear hr0_3 hc0_3
 have HB := aM (Below.refl w.heap.size w)
 have H : ((impl_ValidBitmap.f k a0_0 a0_1 a0_2 l0_3).bind fun t168 => (if t168 = true then (if (mn a1 a2) ≥ (-2097152) then (if (mx a1 a2) ≤ 2097152 then ((impl_pixelAt.f a0_0 a0_1 a0_2 l0_3 a1 a2).bind fun t169 => (some t169)) else (some false)) else (some false)) else (some false))) = some r := h
 clear h
 replace H := Option.bind_eq_some_iff.mp H
 obtain ⟨t168, A40, H⟩ := H
 replace H : (if t168 = true then (if (mn a1 a2) ≥ (-2097152) then (if (mx a1 a2) ≤ 2097152 then ((impl_pixelAt.f a0_0 a0_1 a0_2 l0_3 a1 a2).bind fun t169 => (some t169)) else (some false)) else (some false)) else (some false)) = some r := H
 have A4 := aM A40
 clear A40
 by_cases c5 : t168 = true
 ·subst c5
  have H1 : (if (mn a1 a2) ≥ (-2097152) then (if (mx a1 a2) ≤ 2097152 then ((impl_pixelAt.f a0_0 a0_1 a0_2 l0_3 a1 a2).bind fun t169 => (some t169)) else (some false)) else (some false)) = some r := by rw [if_pos rfl] at H; exact H
  clear H
  have H := H1
  clear H1
  obtain ⟨ji6, hji6⟩ : ∃ j_ : Int, (mn a1 a2) = j_ := ⟨_, rfl⟩
  replace H : (if (ji6) ≥ (-2097152) then (if (mx a1 a2) ≤ 2097152 then ((impl_pixelAt.f a0_0 a0_1 a0_2 l0_3 a1 a2).bind fun t169 => (some t169)) else (some false)) else (some false)) = some r := by first | (rw [hji6] at H; exact H) | (simp only [hji6] at H ⊢; exact H)
  (try rw [hji6] at A4)
  have hji6_ : (if a2 < a1 then a2 else a1) = ji6 := hji6
  by_cases c7 : (ji6) ≥ (-2097152)
  ·rw [if_pos c7] at H
   have c7b0 : decide ((-2097152) ≤ (ji6)) = true := decide_eq_true c7
   clear c7
   obtain ⟨ji8, hji8⟩ : ∃ j_ : Int, (mx a1 a2) = j_ := ⟨_, rfl⟩
   replace H : (if (ji8) ≤ 2097152 then ((impl_pixelAt.f a0_0 a0_1 a0_2 l0_3 a1 a2).bind fun t169 => (some t169)) else (some false)) = some r := by first | (rw [hji8] at H; exact H) | (simp only [hji8] at H ⊢; exact H)
   (try rw [hji8] at A4)
   have hji8_ : (if a1 < a2 then a2 else a1) = ji8 := hji8
   by_cases c9 : (ji8) ≤ 2097152
   ·rw [if_pos c9] at H
    have c9b0 : decide ((ji8) ≤ 2097152) = true := decide_eq_true c9
    clear c9
    replace H := Option.bind_eq_some_iff.mp H
    obtain ⟨t169, A100, H⟩ := H
    replace H : (some t169) = some r := H
    have A10 := aM A100
    clear A100
    obtain rfl := Option.some.inj H
    go_enter Tryd.func15, Tryd.ntmps15
    go_wp2_with (first | ((with_reducible refine gate_dst (N := 3) rfl ?_); (try (refine gate_guard (by rfl) ?_; dsimp only)); refine box_event ?hg (N := 3) ?hd (cs := #[.int .i64 a0_0, .int .i64 a0_1, .int .i64 a0_2, .slice A0_3 l0_3.length c0_3]) (t := 27) ?hr ?_; (case hd => rfl); (case hg => rfl); (case hr => first | (go_simp; done) | (go_simp; rfl)); intro gb167 hg w11 hbox hb; have n0_ := aM (below_step bQ hb); have n1_ := aM (hbox); have n2_ := aM ((by rw [hg]; exact (below_size bQ) : w.heap.size ≤ gb167)); have n3_ := aM ((by rw [hg]; exact (below_size bQ) : w.heap.size ≤ gb167)); clear HB; have HB := n0_; have BK167 := n1_; have GW167 := n2_; have GE167 := n3_; clear n0_ n1_ n2_ n3_; clear hb hbox hg; have hcz12_0 : w11.cell? ⟨gb167, 0, none⟩ = some (.int .i64 a0_0) := (blk_cell BK167.out 0).trans rfl; have hcz12_1 : w11.cell? ⟨gb167, 1, none⟩ = some (.int .i64 a0_1) := (blk_cell BK167.out 1).trans rfl; have hcz12_2 : w11.cell? ⟨gb167, 2, none⟩ = some (.int .i64 a0_2) := (blk_cell BK167.out 2).trans rfl; have hcz12_3 : w11.cell? ⟨gb167, 3, none⟩ = some (.slice A0_3 l0_3.length c0_3) := (blk_cell BK167.out 3).trans rfl; have hfz12_0 := blk_frozen BK167.out 0; have hfz12_1 := blk_frozen BK167.out 1; have hfz12_2 := blk_frozen BK167.out 2; have hfz12_3 := blk_frozen BK167.out 3) | ((with_reducible refine gate_callee (f := 12) rfl ?_); refine goesL_ (some 8) rfl rfl Tryd.func12 (by kernel_rfl) rfl #[.agg #[.int .i64 a0_0, .int .i64 a0_1, .int .i64 a0_2, .slice A0_3 l0_3.length c0_3]] rfl gQ ?_; (with_reducible refine (impl_ValidBitmap.calls k a0_0 a0_1 a0_2 _ _ l0_3 true _ ?side1 ?side2 A4.out).mono ?_); (case side1 => exact cQ HR0_3.out); (case side2 => exact HC0_3.out); rintro e w13 ⟨rfl, hb⟩; refine ⟨_, rfl, ?_⟩; have n0_ := aM (blk_below (g := gb167) (o := .cells #[.int .i64 a0_0, .int .i64 a0_1, .int .i64 a0_2, .slice A0_3 l0_3.length c0_3] 27 (0, 0)) (by (with_reducible repeat (first | refine blk_drewN ?_ _ | refine blk_drew ?_ | refine blk_alloc ?_ _)); exact BK167.out) hb); have n1_ := aM (below_step (by repeat (first | (with_reducible first | exact HB.out | apply bA | apply bN | apply bD | refine below_set ?_ GE167.out) | exact HB.out)) hb); clear BK167; clear HB; have BK167 := n0_; have HB := n1_; clear n0_ n1_; (try clear hb); (try clear hb2); (try clear hk); (try clear hi); have hcz14_0 : w13.cell? ⟨gb167, 0, none⟩ = some (.int .i64 a0_0) := (blk_cell BK167.out 0).trans rfl; have hcz14_1 : w13.cell? ⟨gb167, 1, none⟩ = some (.int .i64 a0_1) := (blk_cell BK167.out 1).trans rfl; have hcz14_2 : w13.cell? ⟨gb167, 2, none⟩ = some (.int .i64 a0_2) := (blk_cell BK167.out 2).trans rfl; have hcz14_3 : w13.cell? ⟨gb167, 3, none⟩ = some (.slice A0_3 l0_3.length c0_3) := (blk_cell BK167.out 3).trans rfl; have hfz14_0 := blk_frozen BK167.out 0; have hfz14_1 := blk_frozen BK167.out 1; have hfz14_2 := blk_frozen BK167.out 2; have hfz14_3 := blk_frozen BK167.out 3) | (go_at_call 35; (with_reducible refine (impl_pixelAt.calls a0_0 a0_1 a0_2 _ _ l0_3 a1 a2 t169 _ ?side1 ?side2 A10.out).mono ?_); (case side1 => exact cQ HR0_3.out); (case side2 => exact HC0_3.out); rintro e w15 ⟨rfl, hb⟩; have n0_ := aM (blk_below (g := gb167) (o := .cells #[.int .i64 a0_0, .int .i64 a0_1, .int .i64 a0_2, .slice A0_3 l0_3.length c0_3] 27 (0, 0)) (by (with_reducible repeat (first | refine blk_drewN ?_ _ | refine blk_drew ?_ | refine blk_alloc ?_ _)); exact BK167.out) hb); have n1_ := aM (below_step (by repeat (first | (with_reducible first | exact HB.out | apply bA | apply bN | apply bD | refine below_set ?_ GE167.out) | exact HB.out)) hb); clear BK167; clear HB; have BK167 := n0_; have HB := n1_; clear n0_ n1_; (try clear hb); (try clear hb2); (try clear hk); (try clear hi)))
    go_ret
    exact ⟨by first | rfl | (simp [errW_none, errW_some] <;> rfl) | (simp only [← hji6, ← hji8]; first | rfl | (simp [errW_none, errW_some] <;> rfl)) | (simp [*, errW_none, errW_some] <;> rfl), by repeat (first | (with_reducible first | exact HB.out | apply bA | apply bN | apply bD | refine below_set ?_ GE167.out) | exact HB.out)⟩
   ·rw [if_neg c9] at H
    have c9b0 : decide ((ji8) ≤ 2097152) = false := decide_eq_false c9
    clear c9
    obtain rfl := Option.some.inj H
    go_enter Tryd.func15, Tryd.ntmps15
    go_wp2_with (first | ((with_reducible refine gate_dst (N := 3) rfl ?_); (try (refine gate_guard (by rfl) ?_; dsimp only)); refine box_event ?hg (N := 3) ?hd (cs := #[.int .i64 a0_0, .int .i64 a0_1, .int .i64 a0_2, .slice A0_3 l0_3.length c0_3]) (t := 27) ?hr ?_; (case hd => rfl); (case hg => rfl); (case hr => first | (go_simp; done) | (go_simp; rfl)); intro gb167 hg w16 hbox hb; have n0_ := aM (below_step bQ hb); have n1_ := aM (hbox); have n2_ := aM ((by rw [hg]; exact (below_size bQ) : w.heap.size ≤ gb167)); have n3_ := aM ((by rw [hg]; exact (below_size bQ) : w.heap.size ≤ gb167)); clear HB; have HB := n0_; have BK167 := n1_; have GW167 := n2_; have GE167 := n3_; clear n0_ n1_ n2_ n3_; clear hb hbox hg; have hcz17_0 : w16.cell? ⟨gb167, 0, none⟩ = some (.int .i64 a0_0) := (blk_cell BK167.out 0).trans rfl; have hcz17_1 : w16.cell? ⟨gb167, 1, none⟩ = some (.int .i64 a0_1) := (blk_cell BK167.out 1).trans rfl; have hcz17_2 : w16.cell? ⟨gb167, 2, none⟩ = some (.int .i64 a0_2) := (blk_cell BK167.out 2).trans rfl; have hcz17_3 : w16.cell? ⟨gb167, 3, none⟩ = some (.slice A0_3 l0_3.length c0_3) := (blk_cell BK167.out 3).trans rfl; have hfz17_0 := blk_frozen BK167.out 0; have hfz17_1 := blk_frozen BK167.out 1; have hfz17_2 := blk_frozen BK167.out 2; have hfz17_3 := blk_frozen BK167.out 3) | ((with_reducible refine gate_callee (f := 12) rfl ?_); refine goesL_ (some 8) rfl rfl Tryd.func12 (by kernel_rfl) rfl #[.agg #[.int .i64 a0_0, .int .i64 a0_1, .int .i64 a0_2, .slice A0_3 l0_3.length c0_3]] rfl gQ ?_; (with_reducible refine (impl_ValidBitmap.calls k a0_0 a0_1 a0_2 _ _ l0_3 true _ ?side1 ?side2 A4.out).mono ?_); (case side1 => exact cQ HR0_3.out); (case side2 => exact HC0_3.out); rintro e w18 ⟨rfl, hb⟩; refine ⟨_, rfl, ?_⟩; have n0_ := aM (blk_below (g := gb167) (o := .cells #[.int .i64 a0_0, .int .i64 a0_1, .int .i64 a0_2, .slice A0_3 l0_3.length c0_3] 27 (0, 0)) (by (with_reducible repeat (first | refine blk_drewN ?_ _ | refine blk_drew ?_ | refine blk_alloc ?_ _)); exact BK167.out) hb); have n1_ := aM (below_step (by repeat (first | (with_reducible first | exact HB.out | apply bA | apply bN | apply bD | refine below_set ?_ GE167.out) | exact HB.out)) hb); clear BK167; clear HB; have BK167 := n0_; have HB := n1_; clear n0_ n1_; (try clear hb); (try clear hb2); (try clear hk); (try clear hi)))
    go_ret
    exact ⟨by first | rfl | (simp [errW_none, errW_some] <;> rfl) | (simp only [← hji6, ← hji8]; first | rfl | (simp [errW_none, errW_some] <;> rfl)) | (simp [*, errW_none, errW_some] <;> rfl), by repeat (first | (with_reducible first | exact HB.out | apply bA | apply bN | apply bD | refine below_set ?_ GE167.out) | exact HB.out)⟩
  ·rw [if_neg c7] at H
   have c7b0 : decide ((-2097152) ≤ (ji6)) = false := decide_eq_false c7
   clear c7
   obtain rfl := Option.some.inj H
   go_enter Tryd.func15, Tryd.ntmps15
   go_wp2_with (first | ((with_reducible refine gate_dst (N := 3) rfl ?_); (try (refine gate_guard (by rfl) ?_; dsimp only)); refine box_event ?hg (N := 3) ?hd (cs := #[.int .i64 a0_0, .int .i64 a0_1, .int .i64 a0_2, .slice A0_3 l0_3.length c0_3]) (t := 27) ?hr ?_; (case hd => rfl); (case hg => rfl); (case hr => first | (go_simp; done) | (go_simp; rfl)); intro gb167 hg w19 hbox hb; have n0_ := aM (below_step bQ hb); have n1_ := aM (hbox); have n2_ := aM ((by rw [hg]; exact (below_size bQ) : w.heap.size ≤ gb167)); have n3_ := aM ((by rw [hg]; exact (below_size bQ) : w.heap.size ≤ gb167)); clear HB; have HB := n0_; have BK167 := n1_; have GW167 := n2_; have GE167 := n3_; clear n0_ n1_ n2_ n3_; clear hb hbox hg; have hcz20_0 : w19.cell? ⟨gb167, 0, none⟩ = some (.int .i64 a0_0) := (blk_cell BK167.out 0).trans rfl; have hcz20_1 : w19.cell? ⟨gb167, 1, none⟩ = some (.int .i64 a0_1) := (blk_cell BK167.out 1).trans rfl; have hcz20_2 : w19.cell? ⟨gb167, 2, none⟩ = some (.int .i64 a0_2) := (blk_cell BK167.out 2).trans rfl; have hcz20_3 : w19.cell? ⟨gb167, 3, none⟩ = some (.slice A0_3 l0_3.length c0_3) := (blk_cell BK167.out 3).trans rfl; have hfz20_0 := blk_frozen BK167.out 0; have hfz20_1 := blk_frozen BK167.out 1; have hfz20_2 := blk_frozen BK167.out 2; have hfz20_3 := blk_frozen BK167.out 3) | ((with_reducible refine gate_callee (f := 12) rfl ?_); refine goesL_ (some 8) rfl rfl Tryd.func12 (by kernel_rfl) rfl #[.agg #[.int .i64 a0_0, .int .i64 a0_1, .int .i64 a0_2, .slice A0_3 l0_3.length c0_3]] rfl gQ ?_; (with_reducible refine (impl_ValidBitmap.calls k a0_0 a0_1 a0_2 _ _ l0_3 true _ ?side1 ?side2 A4.out).mono ?_); (case side1 => exact cQ HR0_3.out); (case side2 => exact HC0_3.out); rintro e w21 ⟨rfl, hb⟩; refine ⟨_, rfl, ?_⟩; have n0_ := aM (blk_below (g := gb167) (o := .cells #[.int .i64 a0_0, .int .i64 a0_1, .int .i64 a0_2, .slice A0_3 l0_3.length c0_3] 27 (0, 0)) (by (with_reducible repeat (first | refine blk_drewN ?_ _ | refine blk_drew ?_ | refine blk_alloc ?_ _)); exact BK167.out) hb); have n1_ := aM (below_step (by repeat (first | (with_reducible first | exact HB.out | apply bA | apply bN | apply bD | refine below_set ?_ GE167.out) | exact HB.out)) hb); clear BK167; clear HB; have BK167 := n0_; have HB := n1_; clear n0_ n1_; (try clear hb); (try clear hb2); (try clear hk); (try clear hi)))
   go_ret
   exact ⟨by first | rfl | (simp [errW_none, errW_some] <;> rfl) | (simp only [← hji6]; first | rfl | (simp [errW_none, errW_some] <;> rfl)) | (simp [*, errW_none, errW_some] <;> rfl), by repeat (first | (with_reducible first | exact HB.out | apply bA | apply bN | apply bD | refine below_set ?_ GE167.out) | exact HB.out)⟩
 ·replace c5 := Bool.eq_false_iff.mpr c5
  subst c5
  have H1 : (some false) = some r := by rw [if_neg (show ¬ (false = true) by decide)] at H; exact H
  clear H
  have H := H1
  clear H1
  obtain rfl := Option.some.inj H
  go_enter Tryd.func15, Tryd.ntmps15
  go_wp2_with (first | ((with_reducible refine gate_dst (N := 3) rfl ?_); (try (refine gate_guard (by rfl) ?_; dsimp only)); refine box_event ?hg (N := 3) ?hd (cs := #[.int .i64 a0_0, .int .i64 a0_1, .int .i64 a0_2, .slice A0_3 l0_3.length c0_3]) (t := 27) ?hr ?_; (case hd => rfl); (case hg => rfl); (case hr => first | (go_simp; done) | (go_simp; rfl)); intro gb167 hg w22 hbox hb; have n0_ := aM (below_step bQ hb); have n1_ := aM (hbox); have n2_ := aM ((by rw [hg]; exact (below_size bQ) : w.heap.size ≤ gb167)); have n3_ := aM ((by rw [hg]; exact (below_size bQ) : w.heap.size ≤ gb167)); clear HB; have HB := n0_; have BK167 := n1_; have GW167 := n2_; have GE167 := n3_; clear n0_ n1_ n2_ n3_; clear hb hbox hg; have hcz23_0 : w22.cell? ⟨gb167, 0, none⟩ = some (.int .i64 a0_0) := (blk_cell BK167.out 0).trans rfl; have hcz23_1 : w22.cell? ⟨gb167, 1, none⟩ = some (.int .i64 a0_1) := (blk_cell BK167.out 1).trans rfl; have hcz23_2 : w22.cell? ⟨gb167, 2, none⟩ = some (.int .i64 a0_2) := (blk_cell BK167.out 2).trans rfl; have hcz23_3 : w22.cell? ⟨gb167, 3, none⟩ = some (.slice A0_3 l0_3.length c0_3) := (blk_cell BK167.out 3).trans rfl; have hfz23_0 := blk_frozen BK167.out 0; have hfz23_1 := blk_frozen BK167.out 1; have hfz23_2 := blk_frozen BK167.out 2; have hfz23_3 := blk_frozen BK167.out 3) | ((with_reducible refine gate_callee (f := 12) rfl ?_); refine goesL_ (some 8) rfl rfl Tryd.func12 (by kernel_rfl) rfl #[.agg #[.int .i64 a0_0, .int .i64 a0_1, .int .i64 a0_2, .slice A0_3 l0_3.length c0_3]] rfl gQ ?_; (with_reducible refine (impl_ValidBitmap.calls k a0_0 a0_1 a0_2 _ _ l0_3 false _ ?side1 ?side2 A4.out).mono ?_); (case side1 => exact cQ HR0_3.out); (case side2 => exact HC0_3.out); rintro e w24 ⟨rfl, hb⟩; refine ⟨_, rfl, ?_⟩; have n0_ := aM (blk_below (g := gb167) (o := .cells #[.int .i64 a0_0, .int .i64 a0_1, .int .i64 a0_2, .slice A0_3 l0_3.length c0_3] 27 (0, 0)) (by (with_reducible repeat (first | refine blk_drewN ?_ _ | refine blk_drew ?_ | refine blk_alloc ?_ _)); exact BK167.out) hb); have n1_ := aM (below_step (by repeat (first | (with_reducible first | exact HB.out | apply bA | apply bN | apply bD | refine below_set ?_ GE167.out) | exact HB.out)) hb); clear BK167; clear HB; have BK167 := n0_; have HB := n1_; clear n0_ n1_; (try clear hb); (try clear hb2); (try clear hk); (try clear hi)))
  go_ret
  exact ⟨eQ, by repeat (first | (with_reducible first | exact HB.out | apply bA | apply bN | apply bD | refine below_set ?_ GE167.out) | exact HB.out)⟩

end Go.Proofs.YthngjfipdfckkaaDoor.QFnExactPixelAt
