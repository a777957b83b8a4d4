/- What some Go functions answer, each as a Lean function, and that the machine answers so: written by a program of this session out of the translation. -/
import Derived.Test.YtfabhfdjabehpaaQFnExactLineTextx0
import Derived.Test.YtfabhfdjabehpaaQFnExactLineTextx1
import Derived.Test.YtfabhfdjabehpaaQFnExactLineTextx2
namespace Go.Proofs.Ytfabhfdjabehpaa.QFnExactLineText
open Go.RowKit Go.Proofs.YtfabhfdjabehpaaW.PrintWords Go.Proofs.YtfabhfdjabehpaaW.PrintLast Go.Proofs.YtfabhfdjabehpaaW.PrintMore Go.Proofs.Ytfabhfdjabehpaa.Rp
attribute [local go_sem] max2_int min2_int max_two min_two max_three min_three max_four min_four   -- for this text's walks alone
set_option linter.unusedVariables false
set_option linter.unusedSimpArgs false

/-! ### spec_l24Ok_at: function 33 -/
def spec_l24Ok_at.j0 : Nat → Int → Bool → List (S39) → Int → Option (Bool)
 | 0, _, _, _, _ => none
 | k + 1, x3, x26, x1000, x1001 => if x26 = true then (some false) else ((spec_IsName.f k ((rd_T39 x1000 x1001).f1)).bind fun t170 => (if ((rd_T39 x1000 x1001).f0) = 1 then (if t170 = true then ((spec_l24Items.f k ((rd_T39 x1000 x1001).f3) 1 20).bind fun t174 => (if t174 = true then (if (((rd_T39 x1000 x1001).f5).length : Int) = 0 then (some (((rd_T39 x1000 x1001).f6) == 0)) else (some false)) else (some false))) else (some false)) else (if ((rd_T39 x1000 x1001).f0) = 2 then (if t170 = true then (if (((rd_T39 x1000 x1001).f3).length : Int) = 0 then (if (((rd_T39 x1000 x1001).f5).length : Int) = 0 then (some (((rd_T39 x1000 x1001).f6) == 0)) else (some false)) else (some false)) else (some false)) else (if ((rd_T39 x1000 x1001).f0) = 3 then (if ((rd_T39 x1000 x1001).f1).toList = ([] : List UInt8) then ((spec_l24Items.f k ((rd_T39 x1000 x1001).f3) 1 x3).bind fun t180 => (if t180 = true then ((spec_l24Items.f k ((rd_T39 x1000 x1001).f5) 0 x3).bind fun t182 => (if t182 = true then (some (((rd_T39 x1000 x1001).f6) == 0)) else (some false))) else (some false))) else (some false)) else (if ((rd_T39 x1000 x1001).f0) = 4 then (if ((rd_T39 x1000 x1001).f1).toList = ([] : List UInt8) then (if (((rd_T39 x1000 x1001).f3).length : Int) = 0 then (if (((rd_T39 x1000 x1001).f5).length : Int) = 0 then (some (((rd_T39 x1000 x1001).f6) == 0)) else (some false)) else (some false)) else (some false)) else (if ((rd_T39 x1000 x1001).f0) = 5 then (if ((rd_T39 x1000 x1001).f1).toList = ([] : List UInt8) then ((spec_l24Items.f k ((rd_T39 x1000 x1001).f3) 2 2).bind fun t189 => (if t189 = true then (if (((rd_T39 x1000 x1001).f5).length : Int) = 0 then ((spec_l00In.f ((rd_T39 x1000 x1001).f6) (-262144) 262144).bind fun t191 => (some t191)) else (some false)) else (some false))) else (some false)) else (if ((rd_T39 x1000 x1001).f0) = 6 then (if t170 = true then ((spec_l24Items.f k ((rd_T39 x1000 x1001).f3) 2 2).bind fun t193 => (if t193 = true then (if (((rd_T39 x1000 x1001).f5).length : Int) = 0 then (some (((rd_T39 x1000 x1001).f6) == 0)) else (some false)) else (some false))) else (some false)) else (if ((rd_T39 x1000 x1001).f0) = 7 then (if t170 = true then (if (((rd_T39 x1000 x1001).f3).length : Int) = 0 then ((spec_l24Forms.f k ((rd_T39 x1000 x1001).f5)).bind fun t197 => (if t197 = true then ((spec_l00In.f ((rd_T39 x1000 x1001).f6) 1 3).bind fun t199 => (some t199)) else (some false))) else (some false)) else (some false)) else (some false)))))))))
def spec_l24Ok_at.f (k : Nat) (l0_0 : List (S39)) (a0_1 : Int) : Option (Bool) := (spec_l24Context.f ((rd_T39 l0_0 a0_1).f0)).bind fun t164 => ((spec_l24Items.f k ((rd_T39 l0_0 a0_1).f2) 0 t164).bind fun t166 => (if t166 = true then ((spec_l24Items.f k ((rd_T39 l0_0 a0_1).f4) 0 t164).bind fun t168 => (spec_l24Ok_at.j0 k t164 (!t168) l0_0 a0_1)) else (spec_l24Ok_at.j0 k t164 true l0_0 a0_1)))
theorem spec_l24Ok_at.mono_l : ∀ k, (∀ y0 y1 y2 y3, LeO (spec_l24Ok_at.j0 k y0 y1 y2 y3) (spec_l24Ok_at.j0 (k + 1) y0 y1 y2 y3))
 | 0 => fun _ _ _ _ r h => by simp [spec_l24Ok_at.j0] at h
 | k + 1 => by
  have ih0 := spec_l24Ok_at.mono_l k
  ·intro y0 y1 y2 y3
   unfold spec_l24Ok_at.j0
   repeat' first
   | (with_reducible exact ih0 _ _ _ _)
   | (with_reducible exact spec_IsName.mono _ _)
   | (with_reducible exact spec_l24Forms.mono _ _)
   | (with_reducible exact spec_l24Items.mono _ _ _ _)
   | (with_reducible exact LeO.refl _)
   | (with_reducible exact LeO.none _)
   | (with_reducible refine LeO.ite ?_ ?_)
   | (with_reducible refine LeO.bind ?_ (fun _ => ?_))
   | exact ih0 _ _ _ _
   | exact spec_IsName.mono _ _
   | exact spec_l24Forms.mono _ _
   | exact spec_l24Items.mono _ _ _ _
   | exact LeO.none _
   | refine LeO.ite ?_ ?_
   | refine LeO.bind ?_ (fun _ => ?_)
theorem spec_l24Ok_at.mono : ∀ a0 a1 k, LeO (spec_l24Ok_at.f k a0 a1) (spec_l24Ok_at.f (k + 1) a0 a1) := by
 intro a0 a1 k
 have ih0 := spec_l24Ok_at.mono_l k
 unfold spec_l24Ok_at.f
 repeat' first
   | (with_reducible exact ih0 _ _ _ _)
   | (with_reducible exact spec_IsName.mono _ _)
   | (with_reducible exact spec_l24Forms.mono _ _)
   | (with_reducible exact spec_l24Items.mono _ _ _ _)
   | (with_reducible exact LeO.refl _)
   | (with_reducible exact LeO.none _)
   | (with_reducible refine LeO.ite ?_ ?_)
   | (with_reducible refine LeO.bind ?_ (fun _ => ?_))
   | exact ih0 _ _ _ _
   | exact spec_IsName.mono _ _
   | exact spec_l24Forms.mono _ _
   | exact spec_l24Items.mono _ _ _ _
   | exact LeO.none _
   | refine LeO.ite ?_ ?_
   | refine LeO.bind ?_ (fun _ => ?_)
set_option maxHeartbeats 8000000 in
set_option maxRecDepth 100000 in
theorem spec_l24Ok_at.calls (k : Nat) (p0_ : Addr) (l0_0 : List (S39)) (a0_1 : Int) (r : Bool) (w : World) (hP0_ : RPtr k39 ((a0_1 : Int).toNat * 7) w p0_ l0_0 a0_1) (h : spec_l24Ok_at.f k l0_0 a0_1 = some r) :
  Calls Try.prog 33 #[.pointer (some p0_)] w fun e w' => e = .returned (.bool r) ∧ Below w.heap.size w w' := by
 obtain ⟨ad0_, rfl, hr0_0, hi0_, hj0_⟩ := hP0_
 have hc0_0 : l0_0.length ≤ l0_0.length := Nat.le_refl _
 replace hi0_ := decide_eq_true hi0_
 replace hj0_ := decide_eq_true hj0_
 obtain ⟨ad9000, A9000_2, c9000_2, A9000_3, c9000_3, A9000_4, c9000_4, A9000_5, c9000_5, e9000, HX9000_0, HX9000_1, HX9000_2, HX9000_3, HX9000_4, HX9000_5, HX9000_6, HC9000_2, HR9000_2, HC9000_3, HR9000_3, HC9000_4, HR9000_4, HC9000_5, HR9000_5⟩ := at_T39 hr0_0 a0_1 (of_decide_eq_true hi0_) (of_decide_eq_true hj0_)
 obtain rfl : ad0_ = ad9000 := (by injection e9000)
 replace HX9000_0 := aM HX9000_0
 replace HX9000_1 := aM HX9000_1
 replace HX9000_2 := aM HX9000_2
 replace HX9000_3 := aM HX9000_3
 replace HX9000_4 := aM HX9000_4
 replace HX9000_5 := aM HX9000_5
 replace HX9000_6 := aM HX9000_6
 replace HC9000_2 := aM HC9000_2
 replace HR9000_2 := aM HR9000_2
 replace HC9000_3 := aM HC9000_3
 replace HR9000_3 := aM HR9000_3
 replace HC9000_4 := aM HC9000_4
 replace HR9000_4 := aM HR9000_4
 replace HC9000_5 := aM HC9000_5
 replace HR9000_5 := aM HR9000_5
 have HR0_0 := aM hr0_0
 have HC0_0 := aM hc0_0
 clear hr0_0 hc0_0
 have HB := aM (Below.refl w.heap.size w)
 have H : ((spec_l24Context.f ((rd_T39 l0_0 a0_1).f0)).bind fun t164 => ((spec_l24Items.f k ((rd_T39 l0_0 a0_1).f2) 0 t164).bind fun t166 => (if t166 = true then ((spec_l24Items.f k ((rd_T39 l0_0 a0_1).f4) 0 t164).bind fun t168 => (spec_l24Ok_at.j0 k t164 (!t168) l0_0 a0_1)) else (spec_l24Ok_at.j0 k t164 true l0_0 a0_1)))) = some r := h
 clear h
 replace H := Option.bind_eq_some_iff.mp H
 obtain ⟨t164, A20, H⟩ := H
 replace H : ((spec_l24Items.f k ((rd_T39 l0_0 a0_1).f2) 0 t164).bind fun t166 => (if t166 = true then ((spec_l24Items.f k ((rd_T39 l0_0 a0_1).f4) 0 t164).bind fun t168 => (spec_l24Ok_at.j0 k t164 (!t168) l0_0 a0_1)) else (spec_l24Ok_at.j0 k t164 true l0_0 a0_1))) = some r := H
 have A2 := aM A20
 clear A20
 have HC3 := aM H
 clear H
 have hx163_0 := HX9000_0.out
 have hx163_1 := HX9000_1.out
 have hx163_2 := HX9000_2.out
 have hx163_3 := HX9000_3.out
 have hx163_4 := HX9000_4.out
 have hx163_5 := HX9000_5.out
 have hx163_6 := HX9000_6.out
 have HR163_2 := HR9000_2
 have HC163_2 := HC9000_2
 have HR163_3 := HR9000_3
 have HC163_3 := HC9000_3
 have HR163_4 := HR9000_4
 have HC163_4 := HC9000_4
 have HR163_5 := HR9000_5
 have HC163_5 := HC9000_5
 go_enter Try.func33, Try.ntmps33
 go_upto_region 2 with (first | ((with_reducible refine gate_callee (f := 51) rfl ?_); refine goesL_ (some 10) rfl rfl Try.func51 (by kernel_rfl) rfl #[.int .i64 ((rd_T39 l0_0 a0_1).f0)] rfl gQ ?_; (with_reducible refine (spec_l24Context.calls ((rd_T39 l0_0 a0_1).f0) t164 _ A2.out).mono ?_); rintro e w' ⟨rfl, ⟨nd, rfl⟩⟩; refine ⟨_, rfl, ?_⟩))
 (try simp only [Act.put, sI, sZ, sS])
 go_cut [26] (fun v26 wc => ∃ (kq : Nat) (x26_2 : Bool), v26 = .bool x26_2 ∧ Aside0 (spec_l24Ok_at.j0 kq t164 x26_2 l0_0 a0_1 = some r) ∧ Aside0 (kq ≤ k) ∧ Aside0 (Below w.heap.size w wc))
 case first =>
  have H := HC3.out
  clear HC3
  replace H := Option.bind_eq_some_iff.mp H
  obtain ⟨t166, A40, H⟩ := H
  replace H : (if t166 = true then ((spec_l24Items.f k ((rd_T39 l0_0 a0_1).f4) 0 t164).bind fun t168 => (spec_l24Ok_at.j0 k t164 (!t168) l0_0 a0_1)) else (spec_l24Ok_at.j0 k t164 true l0_0 a0_1)) = some r := H
  have A4 := aM A40
  clear A40
  by_cases c5 : t166 = true
  ·subst c5
   have H1 : ((spec_l24Items.f k ((rd_T39 l0_0 a0_1).f4) 0 t164).bind fun t168 => (spec_l24Ok_at.j0 k t164 (!t168) l0_0 a0_1)) = some r := by rw [if_pos rfl] at H; exact H
   clear H
   have H := H1
   clear H1
   replace H := Option.bind_eq_some_iff.mp H
   obtain ⟨t168, A60, H⟩ := H
   replace H : (spec_l24Ok_at.j0 k t164 (!t168) l0_0 a0_1) = some r := H
   have A6 := aM A60
   clear A60
   have H' := aM H
   clear H
   have hx165_0 := HX9000_0.out
   have hx165_1 := HX9000_1.out
   have hx165_2 := HX9000_2.out
   have hx165_3 := HX9000_3.out
   have hx165_4 := HX9000_4.out
   have hx165_5 := HX9000_5.out
   have hx165_6 := HX9000_6.out
   replace hx165_0 := cB HB.out hx165_0
   replace hx165_1 := cB HB.out hx165_1
   replace hx165_2 := cB HB.out hx165_2
   replace hx165_3 := cB HB.out hx165_3
   replace hx165_4 := cB HB.out hx165_4
   replace hx165_5 := cB HB.out hx165_5
   replace hx165_6 := cB HB.out hx165_6
   have HR165_2 := HR9000_2
   have HC165_2 := HC9000_2
   have HR165_3 := HR9000_3
   have HC165_3 := HC9000_3
   have HR165_4 := HR9000_4
   have HC165_4 := HC9000_4
   have HR165_5 := HR9000_5
   have HC165_5 := HC9000_5
   go_wp2_with (first | ((with_reducible refine gate_callee (f := 52) rfl ?_); refine goesL_ (some 16) rfl rfl Try.func52 (by kernel_rfl) rfl #[.slice A9000_2 ((rd_T39 l0_0 a0_1).f2).length c9000_2, .int .i64 0, .int .i64 t164] rfl gQ ?_; (with_reducible refine (spec_l24Items.calls k _ _ ((rd_T39 l0_0 a0_1).f2) 0 t164 true _ ?side1 ?side2 A4.out).mono ?_); (case side1 => exact cQ HR165_2.out); (case side2 => exact HC165_2.out); rintro e w' ⟨rfl, ⟨nd, rfl⟩⟩; refine ⟨_, rfl, ?_⟩; have hx167_0 := HX9000_0.out; have hx167_1 := HX9000_1.out; have hx167_2 := HX9000_2.out; have hx167_3 := HX9000_3.out; have hx167_4 := HX9000_4.out; have hx167_5 := HX9000_5.out; have hx167_6 := HX9000_6.out; replace hx167_0 := cB HB.out hx167_0; replace hx167_1 := cB HB.out hx167_1; replace hx167_2 := cB HB.out hx167_2; replace hx167_3 := cB HB.out hx167_3; replace hx167_4 := cB HB.out hx167_4; replace hx167_5 := cB HB.out hx167_5; replace hx167_6 := cB HB.out hx167_6; have HR167_2 := HR9000_2; have HC167_2 := HC9000_2; have HR167_3 := HR9000_3; have HC167_3 := HC9000_3; have HR167_4 := HR9000_4; have HC167_4 := HC9000_4; have HR167_5 := HR9000_5; have HC167_5 := HC9000_5) | (go_at_call 52; (with_reducible refine (spec_l24Items.calls k _ _ ((rd_T39 l0_0 a0_1).f4) 0 t164 t168 _ ?side1 ?side2 A6.out).mono ?_); (case side1 => exact cQ HR167_4.out); (case side2 => exact HC167_4.out); rintro e w' ⟨rfl, ⟨nd, rfl⟩⟩))
   go_meet
   case rel => exact ⟨_, (!t168), rQ, H', ⟨by first | omega | exact Nat.le_refl _⟩, ⟨bQ⟩⟩
  ·replace c5 := Bool.eq_false_iff.mpr c5
   subst c5
   have H1 : (spec_l24Ok_at.j0 k t164 true l0_0 a0_1) = some r := by rw [if_neg (show ¬ (false = true) by decide)] at H; exact H
   clear H
   have H := H1
   clear H1
   have H' := aM H
   clear H
   have hx165_0 := HX9000_0.out
   have hx165_1 := HX9000_1.out
   have hx165_2 := HX9000_2.out
   have hx165_3 := HX9000_3.out
   have hx165_4 := HX9000_4.out
   have hx165_5 := HX9000_5.out
   have hx165_6 := HX9000_6.out
   replace hx165_0 := cB HB.out hx165_0
   replace hx165_1 := cB HB.out hx165_1
   replace hx165_2 := cB HB.out hx165_2
   replace hx165_3 := cB HB.out hx165_3
   replace hx165_4 := cB HB.out hx165_4
   replace hx165_5 := cB HB.out hx165_5
   replace hx165_6 := cB HB.out hx165_6
   have HR165_2 := HR9000_2
   have HC165_2 := HC9000_2
   have HR165_3 := HR9000_3
   have HC165_3 := HC9000_3
   have HR165_4 := HR9000_4
   have HC165_4 := HC9000_4
   have HR165_5 := HR9000_5
   have HC165_5 := HC9000_5
   go_wp2_with (first | ((with_reducible refine gate_callee (f := 52) rfl ?_); refine goesL_ (some 16) rfl rfl Try.func52 (by kernel_rfl) rfl #[.slice A9000_2 ((rd_T39 l0_0 a0_1).f2).length c9000_2, .int .i64 0, .int .i64 t164] rfl gQ ?_; (with_reducible refine (spec_l24Items.calls k _ _ ((rd_T39 l0_0 a0_1).f2) 0 t164 false _ ?side1 ?side2 A4.out).mono ?_); (case side1 => exact cQ HR165_2.out); (case side2 => exact HC165_2.out); rintro e w' ⟨rfl, ⟨nd, rfl⟩⟩; refine ⟨_, rfl, ?_⟩))
   go_meet
   case rel => exact ⟨_, (true), rQ, H', ⟨by first | omega | exact Nat.le_refl _⟩, ⟨bQ⟩⟩
 case rest =>
  clear HC3
  try clear hx1
  try clear p2
  try clear c5
  try clear hx163_0
  try clear hx163_1
  try clear hx163_2
  try clear hx163_3
  try clear hx163_4
  try clear hx163_5
  try clear hx163_6
  try clear hx165_0
  try clear hx165_1
  try clear hx165_2
  try clear hx165_3
  try clear hx165_4
  try clear hx165_5
  try clear hx165_6
  try clear hx167_0
  try clear hx167_1
  try clear hx167_2
  try clear hx167_3
  try clear hx167_4
  try clear hx167_5
  try clear hx167_6
  obtain ⟨kq, x26_2, rfl, HA, HJ2, HB⟩ := hcut
  cases kq with
  | zero => exact absurd HA.out (by simp [spec_l24Ok_at.j0])
  | succ kj2 =>
   have H := HA.out
   clear HA
   simp only [spec_l24Ok_at.j0] at H
   by_cases c7 : x26_2 = true
   ·subst c7
    have H1 : (some false) = some r := by rw [if_pos rfl] at H; exact H
    clear H
    have H := H1
    clear H1
    obtain rfl := Option.some.inj H
    go_wp2
    go_ret
    exact ⟨eQ, bQ⟩
   ·replace c7 := Bool.eq_false_iff.mpr c7
    subst c7
    have H1 : ((spec_IsName.f kj2 ((rd_T39 l0_0 a0_1).f1)).bind fun t170 => (if ((rd_T39 l0_0 a0_1).f0) = 1 then (if t170 = true then ((spec_l24Items.f kj2 ((rd_T39 l0_0 a0_1).f3) 1 20).bind fun t174 => (if t174 = true then (if (((rd_T39 l0_0 a0_1).f5).length : Int) = 0 then (some (((rd_T39 l0_0 a0_1).f6) == 0)) else (some false)) else (some false))) else (some false)) else (if ((rd_T39 l0_0 a0_1).f0) = 2 then (if t170 = true then (if (((rd_T39 l0_0 a0_1).f3).length : Int) = 0 then (if (((rd_T39 l0_0 a0_1).f5).length : Int) = 0 then (some (((rd_T39 l0_0 a0_1).f6) == 0)) else (some false)) else (some false)) else (some false)) else (if ((rd_T39 l0_0 a0_1).f0) = 3 then (if ((rd_T39 l0_0 a0_1).f1).toList = ([] : List UInt8) then ((spec_l24Items.f kj2 ((rd_T39 l0_0 a0_1).f3) 1 t164).bind fun t180 => (if t180 = true then ((spec_l24Items.f kj2 ((rd_T39 l0_0 a0_1).f5) 0 t164).bind fun t182 => (if t182 = true then (some (((rd_T39 l0_0 a0_1).f6) == 0)) else (some false))) else (some false))) else (some false)) else (if ((rd_T39 l0_0 a0_1).f0) = 4 then (if ((rd_T39 l0_0 a0_1).f1).toList = ([] : List UInt8) then (if (((rd_T39 l0_0 a0_1).f3).length : Int) = 0 then (if (((rd_T39 l0_0 a0_1).f5).length : Int) = 0 then (some (((rd_T39 l0_0 a0_1).f6) == 0)) else (some false)) else (some false)) else (some false)) else (if ((rd_T39 l0_0 a0_1).f0) = 5 then (if ((rd_T39 l0_0 a0_1).f1).toList = ([] : List UInt8) then ((spec_l24Items.f kj2 ((rd_T39 l0_0 a0_1).f3) 2 2).bind fun t189 => (if t189 = true then (if (((rd_T39 l0_0 a0_1).f5).length : Int) = 0 then ((spec_l00In.f ((rd_T39 l0_0 a0_1).f6) (-262144) 262144).bind fun t191 => (some t191)) else (some false)) else (some false))) else (some false)) else (if ((rd_T39 l0_0 a0_1).f0) = 6 then (if t170 = true then ((spec_l24Items.f kj2 ((rd_T39 l0_0 a0_1).f3) 2 2).bind fun t193 => (if t193 = true then (if (((rd_T39 l0_0 a0_1).f5).length : Int) = 0 then (some (((rd_T39 l0_0 a0_1).f6) == 0)) else (some false)) else (some false))) else (some false)) else (if ((rd_T39 l0_0 a0_1).f0) = 7 then (if t170 = true then (if (((rd_T39 l0_0 a0_1).f3).length : Int) = 0 then ((spec_l24Forms.f kj2 ((rd_T39 l0_0 a0_1).f5)).bind fun t197 => (if t197 = true then ((spec_l00In.f ((rd_T39 l0_0 a0_1).f6) 1 3).bind fun t199 => (some t199)) else (some false))) else (some false)) else (some false)) else (some false))))))))) = some r := by rw [if_neg (show ¬ (false = true) by decide)] at H; exact H
    clear H
    have H := H1
    clear H1
    replace H := Option.bind_eq_some_iff.mp H
    obtain ⟨t170, A80, H⟩ := H
    replace H : (if ((rd_T39 l0_0 a0_1).f0) = 1 then (if t170 = true then ((spec_l24Items.f kj2 ((rd_T39 l0_0 a0_1).f3) 1 20).bind fun t174 => (if t174 = true then (if (((rd_T39 l0_0 a0_1).f5).length : Int) = 0 then (some (((rd_T39 l0_0 a0_1).f6) == 0)) else (some false)) else (some false))) else (some false)) else (if ((rd_T39 l0_0 a0_1).f0) = 2 then (if t170 = true then (if (((rd_T39 l0_0 a0_1).f3).length : Int) = 0 then (if (((rd_T39 l0_0 a0_1).f5).length : Int) = 0 then (some (((rd_T39 l0_0 a0_1).f6) == 0)) else (some false)) else (some false)) else (some false)) else (if ((rd_T39 l0_0 a0_1).f0) = 3 then (if ((rd_T39 l0_0 a0_1).f1).toList = ([] : List UInt8) then ((spec_l24Items.f kj2 ((rd_T39 l0_0 a0_1).f3) 1 t164).bind fun t180 => (if t180 = true then ((spec_l24Items.f kj2 ((rd_T39 l0_0 a0_1).f5) 0 t164).bind fun t182 => (if t182 = true then (some (((rd_T39 l0_0 a0_1).f6) == 0)) else (some false))) else (some false))) else (some false)) else (if ((rd_T39 l0_0 a0_1).f0) = 4 then (if ((rd_T39 l0_0 a0_1).f1).toList = ([] : List UInt8) then (if (((rd_T39 l0_0 a0_1).f3).length : Int) = 0 then (if (((rd_T39 l0_0 a0_1).f5).length : Int) = 0 then (some (((rd_T39 l0_0 a0_1).f6) == 0)) else (some false)) else (some false)) else (some false)) else (if ((rd_T39 l0_0 a0_1).f0) = 5 then (if ((rd_T39 l0_0 a0_1).f1).toList = ([] : List UInt8) then ((spec_l24Items.f kj2 ((rd_T39 l0_0 a0_1).f3) 2 2).bind fun t189 => (if t189 = true then (if (((rd_T39 l0_0 a0_1).f5).length : Int) = 0 then ((spec_l00In.f ((rd_T39 l0_0 a0_1).f6) (-262144) 262144).bind fun t191 => (some t191)) else (some false)) else (some false))) else (some false)) else (if ((rd_T39 l0_0 a0_1).f0) = 6 then (if t170 = true then ((spec_l24Items.f kj2 ((rd_T39 l0_0 a0_1).f3) 2 2).bind fun t193 => (if t193 = true then (if (((rd_T39 l0_0 a0_1).f5).length : Int) = 0 then (some (((rd_T39 l0_0 a0_1).f6) == 0)) else (some false)) else (some false))) else (some false)) else (if ((rd_T39 l0_0 a0_1).f0) = 7 then (if t170 = true then (if (((rd_T39 l0_0 a0_1).f3).length : Int) = 0 then ((spec_l24Forms.f kj2 ((rd_T39 l0_0 a0_1).f5)).bind fun t197 => (if t197 = true then ((spec_l00In.f ((rd_T39 l0_0 a0_1).f6) 1 3).bind fun t199 => (some t199)) else (some false))) else (some false)) else (some false)) else (some false)))))))) = some r := H
    have A8 := aM A80
    clear A80
    by_cases c9 : ((rd_T39 l0_0 a0_1).f0) = 1
    ·rw [if_pos c9] at H
     have c9b0 : (((rd_T39 l0_0 a0_1).f0) == 1) = true := beq_iff_eq.mpr c9
     have c9b1 : (((rd_T39 l0_0 a0_1).f0) != 1) = false := bne_eq_false_iff_eq.mpr c9
     clear c9
     by_cases c10 : t170 = true
     ·subst c10
      have H1 : ((spec_l24Items.f kj2 ((rd_T39 l0_0 a0_1).f3) 1 20).bind fun t174 => (if t174 = true then (if (((rd_T39 l0_0 a0_1).f5).length : Int) = 0 then (some (((rd_T39 l0_0 a0_1).f6) == 0)) else (some false)) else (some false))) = some r := by rw [if_pos rfl] at H; exact H
      clear H
      have H := H1
      clear H1
      replace H := Option.bind_eq_some_iff.mp H
      obtain ⟨t174, A110, H⟩ := H
      replace H : (if t174 = true then (if (((rd_T39 l0_0 a0_1).f5).length : Int) = 0 then (some (((rd_T39 l0_0 a0_1).f6) == 0)) else (some false)) else (some false)) = some r := H
      have A11 := aM A110
      clear A110
      by_cases c12 : t174 = true
      ·subst c12
       have H1 : (if (((rd_T39 l0_0 a0_1).f5).length : Int) = 0 then (some (((rd_T39 l0_0 a0_1).f6) == 0)) else (some false)) = some r := by rw [if_pos rfl] at H; exact H
       clear H
       have H := H1
       clear H1
       by_cases c13 : (((rd_T39 l0_0 a0_1).f5).length : Int) = 0
       ·rw [if_pos c13] at H
        have c13b0 : ((((rd_T39 l0_0 a0_1).f5).length : Int) == 0) = true := beq_iff_eq.mpr c13
        have c13b1 : ((((rd_T39 l0_0 a0_1).f5).length : Int) != 0) = false := bne_eq_false_iff_eq.mpr c13
        clear c13
        obtain rfl := Option.some.inj H
        have hx169_0 := HX9000_0.out
        have hx169_1 := HX9000_1.out
        have hx169_2 := HX9000_2.out
        have hx169_3 := HX9000_3.out
        have hx169_4 := HX9000_4.out
        have hx169_5 := HX9000_5.out
        have hx169_6 := HX9000_6.out
        replace hx169_0 := cB HB.out hx169_0
        replace hx169_1 := cB HB.out hx169_1
        replace hx169_2 := cB HB.out hx169_2
        replace hx169_3 := cB HB.out hx169_3
        replace hx169_4 := cB HB.out hx169_4
        replace hx169_5 := cB HB.out hx169_5
        replace hx169_6 := cB HB.out hx169_6
        have HR169_2 := HR9000_2
        have HC169_2 := HC9000_2
        have HR169_3 := HR9000_3
        have HC169_3 := HC9000_3
        have HR169_4 := HR9000_4
        have HC169_4 := HC9000_4
        have HR169_5 := HR9000_5
        have HC169_5 := HC9000_5
        go_wp2_with (first | ((with_reducible refine gate_callee (f := 53) rfl ?_); refine goesL_ (some 31) rfl rfl Try.func53 (by kernel_rfl) rfl #[.string ((rd_T39 l0_0 a0_1).f1)] rfl gQ ?_; (with_reducible refine (spec_IsName.calls kj2 ((rd_T39 l0_0 a0_1).f1) true _ A8.out).mono ?_); rintro e w' ⟨rfl, ⟨nd, rfl⟩⟩; refine ⟨_, rfl, ?_⟩; have hx171_0 := HX9000_0.out; have hx171_1 := HX9000_1.out; have hx171_2 := HX9000_2.out; have hx171_3 := HX9000_3.out; have hx171_4 := HX9000_4.out; have hx171_5 := HX9000_5.out; have hx171_6 := HX9000_6.out; replace hx171_0 := cB HB.out hx171_0; replace hx171_1 := cB HB.out hx171_1; replace hx171_2 := cB HB.out hx171_2; replace hx171_3 := cB HB.out hx171_3; replace hx171_4 := cB HB.out hx171_4; replace hx171_5 := cB HB.out hx171_5; replace hx171_6 := cB HB.out hx171_6; have HR171_2 := HR9000_2; have HC171_2 := HC9000_2; have HR171_3 := HR9000_3; have HC171_3 := HC9000_3; have HR171_4 := HR9000_4; have HC171_4 := HC9000_4; have HR171_5 := HR9000_5; have HC171_5 := HC9000_5; have hx172_0 := HX9000_0.out; have hx172_1 := HX9000_1.out; have hx172_2 := HX9000_2.out; have hx172_3 := HX9000_3.out; have hx172_4 := HX9000_4.out; have hx172_5 := HX9000_5.out; have hx172_6 := HX9000_6.out; replace hx172_0 := cB HB.out hx172_0; replace hx172_1 := cB HB.out hx172_1; replace hx172_2 := cB HB.out hx172_2; replace hx172_3 := cB HB.out hx172_3; replace hx172_4 := cB HB.out hx172_4; replace hx172_5 := cB HB.out hx172_5; replace hx172_6 := cB HB.out hx172_6; have HR172_2 := HR9000_2; have HC172_2 := HC9000_2; have HR172_3 := HR9000_3; have HC172_3 := HC9000_3; have HR172_4 := HR9000_4; have HC172_4 := HC9000_4; have HR172_5 := HR9000_5; have HC172_5 := HC9000_5; have hx173_0 := HX9000_0.out; have hx173_1 := HX9000_1.out; have hx173_2 := HX9000_2.out; have hx173_3 := HX9000_3.out; have hx173_4 := HX9000_4.out; have hx173_5 := HX9000_5.out; have hx173_6 := HX9000_6.out; replace hx173_0 := cB HB.out hx173_0; replace hx173_1 := cB HB.out hx173_1; replace hx173_2 := cB HB.out hx173_2; replace hx173_3 := cB HB.out hx173_3; replace hx173_4 := cB HB.out hx173_4; replace hx173_5 := cB HB.out hx173_5; replace hx173_6 := cB HB.out hx173_6; have HR173_2 := HR9000_2; have HC173_2 := HC9000_2; have HR173_3 := HR9000_3; have HC173_3 := HC9000_3; have HR173_4 := HR9000_4; have HC173_4 := HC9000_4; have HR173_5 := HR9000_5; have HC173_5 := HC9000_5) | (go_at_call 52; (with_reducible refine (spec_l24Items.calls kj2 _ _ ((rd_T39 l0_0 a0_1).f3) 1 20 true _ ?side1 ?side2 A11.out).mono ?_); (case side1 => exact cQ HR173_3.out); (case side2 => exact HC173_3.out); rintro e w' ⟨rfl, ⟨nd, rfl⟩⟩; have hx175_0 := HX9000_0.out; have hx175_1 := HX9000_1.out; have hx175_2 := HX9000_2.out; have hx175_3 := HX9000_3.out; have hx175_4 := HX9000_4.out; have hx175_5 := HX9000_5.out; have hx175_6 := HX9000_6.out; replace hx175_0 := cB HB.out hx175_0; replace hx175_1 := cB HB.out hx175_1; replace hx175_2 := cB HB.out hx175_2; replace hx175_3 := cB HB.out hx175_3; replace hx175_4 := cB HB.out hx175_4; replace hx175_5 := cB HB.out hx175_5; replace hx175_6 := cB HB.out hx175_6; have HR175_2 := HR9000_2; have HC175_2 := HC9000_2; have HR175_3 := HR9000_3; have HC175_3 := HC9000_3; have HR175_4 := HR9000_4; have HC175_4 := HC9000_4; have HR175_5 := HR9000_5; have HC175_5 := HC9000_5))
        go_ret
        exact ⟨eQ, bQ⟩
       ·rw [if_neg c13] at H
        have c13b0 : ((((rd_T39 l0_0 a0_1).f5).length : Int) == 0) = false := beq_eq_false_iff_ne.mpr c13
        have c13b1 : ((((rd_T39 l0_0 a0_1).f5).length : Int) != 0) = true := bne_iff_ne.mpr c13
        have c13b2 : ¬ (((rd_T39 l0_0 a0_1).f5) = []) := fun h_ => c13 (by rw [h_]; rfl)
        obtain rfl := Option.some.inj H
        have hx169_0 := HX9000_0.out
        have hx169_1 := HX9000_1.out
        have hx169_2 := HX9000_2.out
        have hx169_3 := HX9000_3.out
        have hx169_4 := HX9000_4.out
        have hx169_5 := HX9000_5.out
        have hx169_6 := HX9000_6.out
        replace hx169_0 := cB HB.out hx169_0
        replace hx169_1 := cB HB.out hx169_1
        replace hx169_2 := cB HB.out hx169_2
        replace hx169_3 := cB HB.out hx169_3
        replace hx169_4 := cB HB.out hx169_4
        replace hx169_5 := cB HB.out hx169_5
        replace hx169_6 := cB HB.out hx169_6
        have HR169_2 := HR9000_2
        have HC169_2 := HC9000_2
        have HR169_3 := HR9000_3
        have HC169_3 := HC9000_3
        have HR169_4 := HR9000_4
        have HC169_4 := HC9000_4
        have HR169_5 := HR9000_5
        have HC169_5 := HC9000_5
        go_wp2_with (first | ((with_reducible refine gate_callee (f := 53) rfl ?_); refine goesL_ (some 31) rfl rfl Try.func53 (by kernel_rfl) rfl #[.string ((rd_T39 l0_0 a0_1).f1)] rfl gQ ?_; (with_reducible refine (spec_IsName.calls kj2 ((rd_T39 l0_0 a0_1).f1) true _ A8.out).mono ?_); rintro e w' ⟨rfl, ⟨nd, rfl⟩⟩; refine ⟨_, rfl, ?_⟩; have hx171_0 := HX9000_0.out; have hx171_1 := HX9000_1.out; have hx171_2 := HX9000_2.out; have hx171_3 := HX9000_3.out; have hx171_4 := HX9000_4.out; have hx171_5 := HX9000_5.out; have hx171_6 := HX9000_6.out; replace hx171_0 := cB HB.out hx171_0; replace hx171_1 := cB HB.out hx171_1; replace hx171_2 := cB HB.out hx171_2; replace hx171_3 := cB HB.out hx171_3; replace hx171_4 := cB HB.out hx171_4; replace hx171_5 := cB HB.out hx171_5; replace hx171_6 := cB HB.out hx171_6; have HR171_2 := HR9000_2; have HC171_2 := HC9000_2; have HR171_3 := HR9000_3; have HC171_3 := HC9000_3; have HR171_4 := HR9000_4; have HC171_4 := HC9000_4; have HR171_5 := HR9000_5; have HC171_5 := HC9000_5; have hx172_0 := HX9000_0.out; have hx172_1 := HX9000_1.out; have hx172_2 := HX9000_2.out; have hx172_3 := HX9000_3.out; have hx172_4 := HX9000_4.out; have hx172_5 := HX9000_5.out; have hx172_6 := HX9000_6.out; replace hx172_0 := cB HB.out hx172_0; replace hx172_1 := cB HB.out hx172_1; replace hx172_2 := cB HB.out hx172_2; replace hx172_3 := cB HB.out hx172_3; replace hx172_4 := cB HB.out hx172_4; replace hx172_5 := cB HB.out hx172_5; replace hx172_6 := cB HB.out hx172_6; have HR172_2 := HR9000_2; have HC172_2 := HC9000_2; have HR172_3 := HR9000_3; have HC172_3 := HC9000_3; have HR172_4 := HR9000_4; have HC172_4 := HC9000_4; have HR172_5 := HR9000_5; have HC172_5 := HC9000_5; have hx173_0 := HX9000_0.out; have hx173_1 := HX9000_1.out; have hx173_2 := HX9000_2.out; have hx173_3 := HX9000_3.out; have hx173_4 := HX9000_4.out; have hx173_5 := HX9000_5.out; have hx173_6 := HX9000_6.out; replace hx173_0 := cB HB.out hx173_0; replace hx173_1 := cB HB.out hx173_1; replace hx173_2 := cB HB.out hx173_2; replace hx173_3 := cB HB.out hx173_3; replace hx173_4 := cB HB.out hx173_4; replace hx173_5 := cB HB.out hx173_5; replace hx173_6 := cB HB.out hx173_6; have HR173_2 := HR9000_2; have HC173_2 := HC9000_2; have HR173_3 := HR9000_3; have HC173_3 := HC9000_3; have HR173_4 := HR9000_4; have HC173_4 := HC9000_4; have HR173_5 := HR9000_5; have HC173_5 := HC9000_5) | (go_at_call 52; (with_reducible refine (spec_l24Items.calls kj2 _ _ ((rd_T39 l0_0 a0_1).f3) 1 20 true _ ?side1 ?side2 A11.out).mono ?_); (case side1 => exact cQ HR173_3.out); (case side2 => exact HC173_3.out); rintro e w' ⟨rfl, ⟨nd, rfl⟩⟩))
        go_ret
        exact ⟨eQ, bQ⟩
      ·replace c12 := Bool.eq_false_iff.mpr c12
       subst c12
       have H1 : (some false) = some r := by rw [if_neg (show ¬ (false = true) by decide)] at H; exact H
       clear H
       have H := H1
       clear H1
       obtain rfl := Option.some.inj H
       have hx169_0 := HX9000_0.out
       have hx169_1 := HX9000_1.out
       have hx169_2 := HX9000_2.out
       have hx169_3 := HX9000_3.out
       have hx169_4 := HX9000_4.out
       have hx169_5 := HX9000_5.out
       have hx169_6 := HX9000_6.out
       replace hx169_0 := cB HB.out hx169_0
       replace hx169_1 := cB HB.out hx169_1
       replace hx169_2 := cB HB.out hx169_2
       replace hx169_3 := cB HB.out hx169_3
       replace hx169_4 := cB HB.out hx169_4
       replace hx169_5 := cB HB.out hx169_5
       replace hx169_6 := cB HB.out hx169_6
       have HR169_2 := HR9000_2
       have HC169_2 := HC9000_2
       have HR169_3 := HR9000_3
       have HC169_3 := HC9000_3
       have HR169_4 := HR9000_4
       have HC169_4 := HC9000_4
       have HR169_5 := HR9000_5
       have HC169_5 := HC9000_5
       go_wp2_with (first | ((with_reducible refine gate_callee (f := 53) rfl ?_); refine goesL_ (some 31) rfl rfl Try.func53 (by kernel_rfl) rfl #[.string ((rd_T39 l0_0 a0_1).f1)] rfl gQ ?_; (with_reducible refine (spec_IsName.calls kj2 ((rd_T39 l0_0 a0_1).f1) true _ A8.out).mono ?_); rintro e w' ⟨rfl, ⟨nd, rfl⟩⟩; refine ⟨_, rfl, ?_⟩; have hx171_0 := HX9000_0.out; have hx171_1 := HX9000_1.out; have hx171_2 := HX9000_2.out; have hx171_3 := HX9000_3.out; have hx171_4 := HX9000_4.out; have hx171_5 := HX9000_5.out; have hx171_6 := HX9000_6.out; replace hx171_0 := cB HB.out hx171_0; replace hx171_1 := cB HB.out hx171_1; replace hx171_2 := cB HB.out hx171_2; replace hx171_3 := cB HB.out hx171_3; replace hx171_4 := cB HB.out hx171_4; replace hx171_5 := cB HB.out hx171_5; replace hx171_6 := cB HB.out hx171_6; have HR171_2 := HR9000_2; have HC171_2 := HC9000_2; have HR171_3 := HR9000_3; have HC171_3 := HC9000_3; have HR171_4 := HR9000_4; have HC171_4 := HC9000_4; have HR171_5 := HR9000_5; have HC171_5 := HC9000_5; have hx172_0 := HX9000_0.out; have hx172_1 := HX9000_1.out; have hx172_2 := HX9000_2.out; have hx172_3 := HX9000_3.out; have hx172_4 := HX9000_4.out; have hx172_5 := HX9000_5.out; have hx172_6 := HX9000_6.out; replace hx172_0 := cB HB.out hx172_0; replace hx172_1 := cB HB.out hx172_1; replace hx172_2 := cB HB.out hx172_2; replace hx172_3 := cB HB.out hx172_3; replace hx172_4 := cB HB.out hx172_4; replace hx172_5 := cB HB.out hx172_5; replace hx172_6 := cB HB.out hx172_6; have HR172_2 := HR9000_2; have HC172_2 := HC9000_2; have HR172_3 := HR9000_3; have HC172_3 := HC9000_3; have HR172_4 := HR9000_4; have HC172_4 := HC9000_4; have HR172_5 := HR9000_5; have HC172_5 := HC9000_5; have hx173_0 := HX9000_0.out; have hx173_1 := HX9000_1.out; have hx173_2 := HX9000_2.out; have hx173_3 := HX9000_3.out; have hx173_4 := HX9000_4.out; have hx173_5 := HX9000_5.out; have hx173_6 := HX9000_6.out; replace hx173_0 := cB HB.out hx173_0; replace hx173_1 := cB HB.out hx173_1; replace hx173_2 := cB HB.out hx173_2; replace hx173_3 := cB HB.out hx173_3; replace hx173_4 := cB HB.out hx173_4; replace hx173_5 := cB HB.out hx173_5; replace hx173_6 := cB HB.out hx173_6; have HR173_2 := HR9000_2; have HC173_2 := HC9000_2; have HR173_3 := HR9000_3; have HC173_3 := HC9000_3; have HR173_4 := HR9000_4; have HC173_4 := HC9000_4; have HR173_5 := HR9000_5; have HC173_5 := HC9000_5) | (go_at_call 52; (with_reducible refine (spec_l24Items.calls kj2 _ _ ((rd_T39 l0_0 a0_1).f3) 1 20 false _ ?side1 ?side2 A11.out).mono ?_); (case side1 => exact cQ HR173_3.out); (case side2 => exact HC173_3.out); rintro e w' ⟨rfl, ⟨nd, rfl⟩⟩))
       go_ret
       exact ⟨eQ, bQ⟩
     ·replace c10 := Bool.eq_false_iff.mpr c10
      subst c10
      have H1 : (some false) = some r := by rw [if_neg (show ¬ (false = true) by decide)] at H; exact H
      clear H
      have H := H1
      clear H1
      obtain rfl := Option.some.inj H
      have hx169_0 := HX9000_0.out
      have hx169_1 := HX9000_1.out
      have hx169_2 := HX9000_2.out
      have hx169_3 := HX9000_3.out
      have hx169_4 := HX9000_4.out
      have hx169_5 := HX9000_5.out
      have hx169_6 := HX9000_6.out
      replace hx169_0 := cB HB.out hx169_0
      replace hx169_1 := cB HB.out hx169_1
      replace hx169_2 := cB HB.out hx169_2
      replace hx169_3 := cB HB.out hx169_3
      replace hx169_4 := cB HB.out hx169_4
      replace hx169_5 := cB HB.out hx169_5
      replace hx169_6 := cB HB.out hx169_6
      have HR169_2 := HR9000_2
      have HC169_2 := HC9000_2
      have HR169_3 := HR9000_3
      have HC169_3 := HC9000_3
      have HR169_4 := HR9000_4
      have HC169_4 := HC9000_4
      have HR169_5 := HR9000_5
      have HC169_5 := HC9000_5
      go_wp2_with (first | ((with_reducible refine gate_callee (f := 53) rfl ?_); refine goesL_ (some 31) rfl rfl Try.func53 (by kernel_rfl) rfl #[.string ((rd_T39 l0_0 a0_1).f1)] rfl gQ ?_; (with_reducible refine (spec_IsName.calls kj2 ((rd_T39 l0_0 a0_1).f1) false _ A8.out).mono ?_); rintro e w' ⟨rfl, ⟨nd, rfl⟩⟩; refine ⟨_, rfl, ?_⟩; have hx171_0 := HX9000_0.out; have hx171_1 := HX9000_1.out; have hx171_2 := HX9000_2.out; have hx171_3 := HX9000_3.out; have hx171_4 := HX9000_4.out; have hx171_5 := HX9000_5.out; have hx171_6 := HX9000_6.out; replace hx171_0 := cB HB.out hx171_0; replace hx171_1 := cB HB.out hx171_1; replace hx171_2 := cB HB.out hx171_2; replace hx171_3 := cB HB.out hx171_3; replace hx171_4 := cB HB.out hx171_4; replace hx171_5 := cB HB.out hx171_5; replace hx171_6 := cB HB.out hx171_6; have HR171_2 := HR9000_2; have HC171_2 := HC9000_2; have HR171_3 := HR9000_3; have HC171_3 := HC9000_3; have HR171_4 := HR9000_4; have HC171_4 := HC9000_4; have HR171_5 := HR9000_5; have HC171_5 := HC9000_5; have hx172_0 := HX9000_0.out; have hx172_1 := HX9000_1.out; have hx172_2 := HX9000_2.out; have hx172_3 := HX9000_3.out; have hx172_4 := HX9000_4.out; have hx172_5 := HX9000_5.out; have hx172_6 := HX9000_6.out; replace hx172_0 := cB HB.out hx172_0; replace hx172_1 := cB HB.out hx172_1; replace hx172_2 := cB HB.out hx172_2; replace hx172_3 := cB HB.out hx172_3; replace hx172_4 := cB HB.out hx172_4; replace hx172_5 := cB HB.out hx172_5; replace hx172_6 := cB HB.out hx172_6; have HR172_2 := HR9000_2; have HC172_2 := HC9000_2; have HR172_3 := HR9000_3; have HC172_3 := HC9000_3; have HR172_4 := HR9000_4; have HC172_4 := HC9000_4; have HR172_5 := HR9000_5; have HC172_5 := HC9000_5))
      go_ret
      exact ⟨eQ, bQ⟩
    ·rw [if_neg c9] at H
     have c9b0 : (((rd_T39 l0_0 a0_1).f0) == 1) = false := beq_eq_false_iff_ne.mpr c9
     have c9b1 : (((rd_T39 l0_0 a0_1).f0) != 1) = true := bne_iff_ne.mpr c9
     by_cases c14 : ((rd_T39 l0_0 a0_1).f0) = 2
     ·rw [if_pos c14] at H
      have c14b0 : (((rd_T39 l0_0 a0_1).f0) == 2) = true := beq_iff_eq.mpr c14
      have c14b1 : (((rd_T39 l0_0 a0_1).f0) != 2) = false := bne_eq_false_iff_eq.mpr c14
      clear c14
      by_cases c15 : t170 = true
      ·subst c15
       have H1 : (if (((rd_T39 l0_0 a0_1).f3).length : Int) = 0 then (if (((rd_T39 l0_0 a0_1).f5).length : Int) = 0 then (some (((rd_T39 l0_0 a0_1).f6) == 0)) else (some false)) else (some false)) = some r := by rw [if_pos rfl] at H; exact H
       clear H
       have H := H1
       clear H1
       by_cases c16 : (((rd_T39 l0_0 a0_1).f3).length : Int) = 0
       ·rw [if_pos c16] at H
        have c16b0 : ((((rd_T39 l0_0 a0_1).f3).length : Int) == 0) = true := beq_iff_eq.mpr c16
        have c16b1 : ((((rd_T39 l0_0 a0_1).f3).length : Int) != 0) = false := bne_eq_false_iff_eq.mpr c16
        clear c16
        by_cases c17 : (((rd_T39 l0_0 a0_1).f5).length : Int) = 0
        ·rw [if_pos c17] at H
         have c17b0 : ((((rd_T39 l0_0 a0_1).f5).length : Int) == 0) = true := beq_iff_eq.mpr c17
         have c17b1 : ((((rd_T39 l0_0 a0_1).f5).length : Int) != 0) = false := bne_eq_false_iff_eq.mpr c17
         clear c17
         obtain rfl := Option.some.inj H
         have hx169_0 := HX9000_0.out
         have hx169_1 := HX9000_1.out
         have hx169_2 := HX9000_2.out
         have hx169_3 := HX9000_3.out
         have hx169_4 := HX9000_4.out
         have hx169_5 := HX9000_5.out
         have hx169_6 := HX9000_6.out
         replace hx169_0 := cB HB.out hx169_0
         replace hx169_1 := cB HB.out hx169_1
         replace hx169_2 := cB HB.out hx169_2
         replace hx169_3 := cB HB.out hx169_3
         replace hx169_4 := cB HB.out hx169_4
         replace hx169_5 := cB HB.out hx169_5
         replace hx169_6 := cB HB.out hx169_6
         have HR169_2 := HR9000_2
         have HC169_2 := HC9000_2
         have HR169_3 := HR9000_3
         have HC169_3 := HC9000_3
         have HR169_4 := HR9000_4
         have HC169_4 := HC9000_4
         have HR169_5 := HR9000_5
         have HC169_5 := HC9000_5
         go_wp2_with (first | ((with_reducible refine gate_callee (f := 53) rfl ?_); refine goesL_ (some 31) rfl rfl Try.func53 (by kernel_rfl) rfl #[.string ((rd_T39 l0_0 a0_1).f1)] rfl gQ ?_; (with_reducible refine (spec_IsName.calls kj2 ((rd_T39 l0_0 a0_1).f1) true _ A8.out).mono ?_); rintro e w' ⟨rfl, ⟨nd, rfl⟩⟩; refine ⟨_, rfl, ?_⟩; have hx171_0 := HX9000_0.out; have hx171_1 := HX9000_1.out; have hx171_2 := HX9000_2.out; have hx171_3 := HX9000_3.out; have hx171_4 := HX9000_4.out; have hx171_5 := HX9000_5.out; have hx171_6 := HX9000_6.out; replace hx171_0 := cB HB.out hx171_0; replace hx171_1 := cB HB.out hx171_1; replace hx171_2 := cB HB.out hx171_2; replace hx171_3 := cB HB.out hx171_3; replace hx171_4 := cB HB.out hx171_4; replace hx171_5 := cB HB.out hx171_5; replace hx171_6 := cB HB.out hx171_6; have HR171_2 := HR9000_2; have HC171_2 := HC9000_2; have HR171_3 := HR9000_3; have HC171_3 := HC9000_3; have HR171_4 := HR9000_4; have HC171_4 := HC9000_4; have HR171_5 := HR9000_5; have HC171_5 := HC9000_5; have hx172_0 := HX9000_0.out; have hx172_1 := HX9000_1.out; have hx172_2 := HX9000_2.out; have hx172_3 := HX9000_3.out; have hx172_4 := HX9000_4.out; have hx172_5 := HX9000_5.out; have hx172_6 := HX9000_6.out; replace hx172_0 := cB HB.out hx172_0; replace hx172_1 := cB HB.out hx172_1; replace hx172_2 := cB HB.out hx172_2; replace hx172_3 := cB HB.out hx172_3; replace hx172_4 := cB HB.out hx172_4; replace hx172_5 := cB HB.out hx172_5; replace hx172_6 := cB HB.out hx172_6; have HR172_2 := HR9000_2; have HC172_2 := HC9000_2; have HR172_3 := HR9000_3; have HC172_3 := HC9000_3; have HR172_4 := HR9000_4; have HC172_4 := HC9000_4; have HR172_5 := HR9000_5; have HC172_5 := HC9000_5; have hx176_0 := HX9000_0.out; have hx176_1 := HX9000_1.out; have hx176_2 := HX9000_2.out; have hx176_3 := HX9000_3.out; have hx176_4 := HX9000_4.out; have hx176_5 := HX9000_5.out; have hx176_6 := HX9000_6.out; replace hx176_0 := cB HB.out hx176_0; replace hx176_1 := cB HB.out hx176_1; replace hx176_2 := cB HB.out hx176_2; replace hx176_3 := cB HB.out hx176_3; replace hx176_4 := cB HB.out hx176_4; replace hx176_5 := cB HB.out hx176_5; replace hx176_6 := cB HB.out hx176_6; have HR176_2 := HR9000_2; have HC176_2 := HC9000_2; have HR176_3 := HR9000_3; have HC176_3 := HC9000_3; have HR176_4 := HR9000_4; have HC176_4 := HC9000_4; have HR176_5 := HR9000_5; have HC176_5 := HC9000_5; have hx177_0 := HX9000_0.out; have hx177_1 := HX9000_1.out; have hx177_2 := HX9000_2.out; have hx177_3 := HX9000_3.out; have hx177_4 := HX9000_4.out; have hx177_5 := HX9000_5.out; have hx177_6 := HX9000_6.out; replace hx177_0 := cB HB.out hx177_0; replace hx177_1 := cB HB.out hx177_1; replace hx177_2 := cB HB.out hx177_2; replace hx177_3 := cB HB.out hx177_3; replace hx177_4 := cB HB.out hx177_4; replace hx177_5 := cB HB.out hx177_5; replace hx177_6 := cB HB.out hx177_6; have HR177_2 := HR9000_2; have HC177_2 := HC9000_2; have HR177_3 := HR9000_3; have HC177_3 := HC9000_3; have HR177_4 := HR9000_4; have HC177_4 := HC9000_4; have HR177_5 := HR9000_5; have HC177_5 := HC9000_5))
         go_ret
         exact ⟨eQ, bQ⟩
        ·rw [if_neg c17] at H
         have c17b0 : ((((rd_T39 l0_0 a0_1).f5).length : Int) == 0) = false := beq_eq_false_iff_ne.mpr c17
         have c17b1 : ((((rd_T39 l0_0 a0_1).f5).length : Int) != 0) = true := bne_iff_ne.mpr c17
         have c17b2 : ¬ (((rd_T39 l0_0 a0_1).f5) = []) := fun h_ => c17 (by rw [h_]; rfl)
         obtain rfl := Option.some.inj H
         have hx169_0 := HX9000_0.out
         have hx169_1 := HX9000_1.out
         have hx169_2 := HX9000_2.out
         have hx169_3 := HX9000_3.out
         have hx169_4 := HX9000_4.out
         have hx169_5 := HX9000_5.out
         have hx169_6 := HX9000_6.out
         replace hx169_0 := cB HB.out hx169_0
         replace hx169_1 := cB HB.out hx169_1
         replace hx169_2 := cB HB.out hx169_2
         replace hx169_3 := cB HB.out hx169_3
         replace hx169_4 := cB HB.out hx169_4
         replace hx169_5 := cB HB.out hx169_5
         replace hx169_6 := cB HB.out hx169_6
         have HR169_2 := HR9000_2
         have HC169_2 := HC9000_2
         have HR169_3 := HR9000_3
         have HC169_3 := HC9000_3
         have HR169_4 := HR9000_4
         have HC169_4 := HC9000_4
         have HR169_5 := HR9000_5
         have HC169_5 := HC9000_5
         go_wp2_with (first | ((with_reducible refine gate_callee (f := 53) rfl ?_); refine goesL_ (some 31) rfl rfl Try.func53 (by kernel_rfl) rfl #[.string ((rd_T39 l0_0 a0_1).f1)] rfl gQ ?_; (with_reducible refine (spec_IsName.calls kj2 ((rd_T39 l0_0 a0_1).f1) true _ A8.out).mono ?_); rintro e w' ⟨rfl, ⟨nd, rfl⟩⟩; refine ⟨_, rfl, ?_⟩; have hx171_0 := HX9000_0.out; have hx171_1 := HX9000_1.out; have hx171_2 := HX9000_2.out; have hx171_3 := HX9000_3.out; have hx171_4 := HX9000_4.out; have hx171_5 := HX9000_5.out; have hx171_6 := HX9000_6.out; replace hx171_0 := cB HB.out hx171_0; replace hx171_1 := cB HB.out hx171_1; replace hx171_2 := cB HB.out hx171_2; replace hx171_3 := cB HB.out hx171_3; replace hx171_4 := cB HB.out hx171_4; replace hx171_5 := cB HB.out hx171_5; replace hx171_6 := cB HB.out hx171_6; have HR171_2 := HR9000_2; have HC171_2 := HC9000_2; have HR171_3 := HR9000_3; have HC171_3 := HC9000_3; have HR171_4 := HR9000_4; have HC171_4 := HC9000_4; have HR171_5 := HR9000_5; have HC171_5 := HC9000_5; have hx172_0 := HX9000_0.out; have hx172_1 := HX9000_1.out; have hx172_2 := HX9000_2.out; have hx172_3 := HX9000_3.out; have hx172_4 := HX9000_4.out; have hx172_5 := HX9000_5.out; have hx172_6 := HX9000_6.out; replace hx172_0 := cB HB.out hx172_0; replace hx172_1 := cB HB.out hx172_1; replace hx172_2 := cB HB.out hx172_2; replace hx172_3 := cB HB.out hx172_3; replace hx172_4 := cB HB.out hx172_4; replace hx172_5 := cB HB.out hx172_5; replace hx172_6 := cB HB.out hx172_6; have HR172_2 := HR9000_2; have HC172_2 := HC9000_2; have HR172_3 := HR9000_3; have HC172_3 := HC9000_3; have HR172_4 := HR9000_4; have HC172_4 := HC9000_4; have HR172_5 := HR9000_5; have HC172_5 := HC9000_5; have hx176_0 := HX9000_0.out; have hx176_1 := HX9000_1.out; have hx176_2 := HX9000_2.out; have hx176_3 := HX9000_3.out; have hx176_4 := HX9000_4.out; have hx176_5 := HX9000_5.out; have hx176_6 := HX9000_6.out; replace hx176_0 := cB HB.out hx176_0; replace hx176_1 := cB HB.out hx176_1; replace hx176_2 := cB HB.out hx176_2; replace hx176_3 := cB HB.out hx176_3; replace hx176_4 := cB HB.out hx176_4; replace hx176_5 := cB HB.out hx176_5; replace hx176_6 := cB HB.out hx176_6; have HR176_2 := HR9000_2; have HC176_2 := HC9000_2; have HR176_3 := HR9000_3; have HC176_3 := HC9000_3; have HR176_4 := HR9000_4; have HC176_4 := HC9000_4; have HR176_5 := HR9000_5; have HC176_5 := HC9000_5))
         go_ret
         exact ⟨eQ, bQ⟩
       ·rw [if_neg c16] at H
        have c16b0 : ((((rd_T39 l0_0 a0_1).f3).length : Int) == 0) = false := beq_eq_false_iff_ne.mpr c16
        have c16b1 : ((((rd_T39 l0_0 a0_1).f3).length : Int) != 0) = true := bne_iff_ne.mpr c16
        have c16b2 : ¬ (((rd_T39 l0_0 a0_1).f3) = []) := fun h_ => c16 (by rw [h_]; rfl)
        obtain rfl := Option.some.inj H
        have hx169_0 := HX9000_0.out
        have hx169_1 := HX9000_1.out
        have hx169_2 := HX9000_2.out
        have hx169_3 := HX9000_3.out
        have hx169_4 := HX9000_4.out
        have hx169_5 := HX9000_5.out
        have hx169_6 := HX9000_6.out
        replace hx169_0 := cB HB.out hx169_0
        replace hx169_1 := cB HB.out hx169_1
        replace hx169_2 := cB HB.out hx169_2
        replace hx169_3 := cB HB.out hx169_3
        replace hx169_4 := cB HB.out hx169_4
        replace hx169_5 := cB HB.out hx169_5
        replace hx169_6 := cB HB.out hx169_6
        have HR169_2 := HR9000_2
        have HC169_2 := HC9000_2
        have HR169_3 := HR9000_3
        have HC169_3 := HC9000_3
        have HR169_4 := HR9000_4
        have HC169_4 := HC9000_4
        have HR169_5 := HR9000_5
        have HC169_5 := HC9000_5
        go_wp2_with (first | ((with_reducible refine gate_callee (f := 53) rfl ?_); refine goesL_ (some 31) rfl rfl Try.func53 (by kernel_rfl) rfl #[.string ((rd_T39 l0_0 a0_1).f1)] rfl gQ ?_; (with_reducible refine (spec_IsName.calls kj2 ((rd_T39 l0_0 a0_1).f1) true _ A8.out).mono ?_); rintro e w' ⟨rfl, ⟨nd, rfl⟩⟩; refine ⟨_, rfl, ?_⟩; have hx171_0 := HX9000_0.out; have hx171_1 := HX9000_1.out; have hx171_2 := HX9000_2.out; have hx171_3 := HX9000_3.out; have hx171_4 := HX9000_4.out; have hx171_5 := HX9000_5.out; have hx171_6 := HX9000_6.out; replace hx171_0 := cB HB.out hx171_0; replace hx171_1 := cB HB.out hx171_1; replace hx171_2 := cB HB.out hx171_2; replace hx171_3 := cB HB.out hx171_3; replace hx171_4 := cB HB.out hx171_4; replace hx171_5 := cB HB.out hx171_5; replace hx171_6 := cB HB.out hx171_6; have HR171_2 := HR9000_2; have HC171_2 := HC9000_2; have HR171_3 := HR9000_3; have HC171_3 := HC9000_3; have HR171_4 := HR9000_4; have HC171_4 := HC9000_4; have HR171_5 := HR9000_5; have HC171_5 := HC9000_5; have hx172_0 := HX9000_0.out; have hx172_1 := HX9000_1.out; have hx172_2 := HX9000_2.out; have hx172_3 := HX9000_3.out; have hx172_4 := HX9000_4.out; have hx172_5 := HX9000_5.out; have hx172_6 := HX9000_6.out; replace hx172_0 := cB HB.out hx172_0; replace hx172_1 := cB HB.out hx172_1; replace hx172_2 := cB HB.out hx172_2; replace hx172_3 := cB HB.out hx172_3; replace hx172_4 := cB HB.out hx172_4; replace hx172_5 := cB HB.out hx172_5; replace hx172_6 := cB HB.out hx172_6; have HR172_2 := HR9000_2; have HC172_2 := HC9000_2; have HR172_3 := HR9000_3; have HC172_3 := HC9000_3; have HR172_4 := HR9000_4; have HC172_4 := HC9000_4; have HR172_5 := HR9000_5; have HC172_5 := HC9000_5; have hx176_0 := HX9000_0.out; have hx176_1 := HX9000_1.out; have hx176_2 := HX9000_2.out; have hx176_3 := HX9000_3.out; have hx176_4 := HX9000_4.out; have hx176_5 := HX9000_5.out; have hx176_6 := HX9000_6.out; replace hx176_0 := cB HB.out hx176_0; replace hx176_1 := cB HB.out hx176_1; replace hx176_2 := cB HB.out hx176_2; replace hx176_3 := cB HB.out hx176_3; replace hx176_4 := cB HB.out hx176_4; replace hx176_5 := cB HB.out hx176_5; replace hx176_6 := cB HB.out hx176_6; have HR176_2 := HR9000_2; have HC176_2 := HC9000_2; have HR176_3 := HR9000_3; have HC176_3 := HC9000_3; have HR176_4 := HR9000_4; have HC176_4 := HC9000_4; have HR176_5 := HR9000_5; have HC176_5 := HC9000_5))
        go_ret
        exact ⟨eQ, bQ⟩
      ·replace c15 := Bool.eq_false_iff.mpr c15
       subst c15
       have H1 : (some false) = some r := by rw [if_neg (show ¬ (false = true) by decide)] at H; exact H
       clear H
       have H := H1
       clear H1
       obtain rfl := Option.some.inj H
       have hx169_0 := HX9000_0.out
       have hx169_1 := HX9000_1.out
       have hx169_2 := HX9000_2.out
       have hx169_3 := HX9000_3.out
       have hx169_4 := HX9000_4.out
       have hx169_5 := HX9000_5.out
       have hx169_6 := HX9000_6.out
       replace hx169_0 := cB HB.out hx169_0
       replace hx169_1 := cB HB.out hx169_1
       replace hx169_2 := cB HB.out hx169_2
       replace hx169_3 := cB HB.out hx169_3
       replace hx169_4 := cB HB.out hx169_4
       replace hx169_5 := cB HB.out hx169_5
       replace hx169_6 := cB HB.out hx169_6
       have HR169_2 := HR9000_2
       have HC169_2 := HC9000_2
       have HR169_3 := HR9000_3
       have HC169_3 := HC9000_3
       have HR169_4 := HR9000_4
       have HC169_4 := HC9000_4
       have HR169_5 := HR9000_5
       have HC169_5 := HC9000_5
       go_wp2_with (first | ((with_reducible refine gate_callee (f := 53) rfl ?_); refine goesL_ (some 31) rfl rfl Try.func53 (by kernel_rfl) rfl #[.string ((rd_T39 l0_0 a0_1).f1)] rfl gQ ?_; (with_reducible refine (spec_IsName.calls kj2 ((rd_T39 l0_0 a0_1).f1) false _ A8.out).mono ?_); rintro e w' ⟨rfl, ⟨nd, rfl⟩⟩; refine ⟨_, rfl, ?_⟩; have hx171_0 := HX9000_0.out; have hx171_1 := HX9000_1.out; have hx171_2 := HX9000_2.out; have hx171_3 := HX9000_3.out; have hx171_4 := HX9000_4.out; have hx171_5 := HX9000_5.out; have hx171_6 := HX9000_6.out; replace hx171_0 := cB HB.out hx171_0; replace hx171_1 := cB HB.out hx171_1; replace hx171_2 := cB HB.out hx171_2; replace hx171_3 := cB HB.out hx171_3; replace hx171_4 := cB HB.out hx171_4; replace hx171_5 := cB HB.out hx171_5; replace hx171_6 := cB HB.out hx171_6; have HR171_2 := HR9000_2; have HC171_2 := HC9000_2; have HR171_3 := HR9000_3; have HC171_3 := HC9000_3; have HR171_4 := HR9000_4; have HC171_4 := HC9000_4; have HR171_5 := HR9000_5; have HC171_5 := HC9000_5; have hx172_0 := HX9000_0.out; have hx172_1 := HX9000_1.out; have hx172_2 := HX9000_2.out; have hx172_3 := HX9000_3.out; have hx172_4 := HX9000_4.out; have hx172_5 := HX9000_5.out; have hx172_6 := HX9000_6.out; replace hx172_0 := cB HB.out hx172_0; replace hx172_1 := cB HB.out hx172_1; replace hx172_2 := cB HB.out hx172_2; replace hx172_3 := cB HB.out hx172_3; replace hx172_4 := cB HB.out hx172_4; replace hx172_5 := cB HB.out hx172_5; replace hx172_6 := cB HB.out hx172_6; have HR172_2 := HR9000_2; have HC172_2 := HC9000_2; have HR172_3 := HR9000_3; have HC172_3 := HC9000_3; have HR172_4 := HR9000_4; have HC172_4 := HC9000_4; have HR172_5 := HR9000_5; have HC172_5 := HC9000_5))
       go_ret
       exact ⟨eQ, bQ⟩
     ·rw [if_neg c14] at H
      have c14b0 : (((rd_T39 l0_0 a0_1).f0) == 2) = false := beq_eq_false_iff_ne.mpr c14
      have c14b1 : (((rd_T39 l0_0 a0_1).f0) != 2) = true := bne_iff_ne.mpr c14
      by_cases c18 : ((rd_T39 l0_0 a0_1).f0) = 3
      ·rw [if_pos c18] at H
       have c18b0 : (((rd_T39 l0_0 a0_1).f0) == 3) = true := beq_iff_eq.mpr c18
       have c18b1 : (((rd_T39 l0_0 a0_1).f0) != 3) = false := bne_eq_false_iff_eq.mpr c18
       clear c18
       by_cases c19 : ((rd_T39 l0_0 a0_1).f1).toList = ([] : List UInt8)
       ·rw [if_pos c19] at H
        have c19b0 : (((rd_T39 l0_0 a0_1).f1).toList == ([] : List UInt8)) = true := beq_iff_eq.mpr c19
        have c19b1 : (((rd_T39 l0_0 a0_1).f1).toList != ([] : List UInt8)) = false := bne_eq_false_iff_eq.mpr c19
        clear c19
        replace H := Option.bind_eq_some_iff.mp H
        obtain ⟨t180, A200, H⟩ := H
        replace H : (if t180 = true then ((spec_l24Items.f kj2 ((rd_T39 l0_0 a0_1).f5) 0 t164).bind fun t182 => (if t182 = true then (some (((rd_T39 l0_0 a0_1).f6) == 0)) else (some false))) else (some false)) = some r := H
        have A20 := aM A200
        clear A200
        by_cases c21 : t180 = true
        ·subst c21
         have H1 : ((spec_l24Items.f kj2 ((rd_T39 l0_0 a0_1).f5) 0 t164).bind fun t182 => (if t182 = true then (some (((rd_T39 l0_0 a0_1).f6) == 0)) else (some false))) = some r := by rw [if_pos rfl] at H; exact H
         clear H
         have H := H1
         clear H1
         replace H := Option.bind_eq_some_iff.mp H
         obtain ⟨t182, A220, H⟩ := H
         replace H : (if t182 = true then (some (((rd_T39 l0_0 a0_1).f6) == 0)) else (some false)) = some r := H
         have A22 := aM A220
         clear A220
         by_cases c23 : t182 = true
         ·subst c23
          have H1 : (some (((rd_T39 l0_0 a0_1).f6) == 0)) = some r := by rw [if_pos rfl] at H; exact H
          clear H
          have H := H1
          clear H1
          obtain rfl := Option.some.inj H
          have hx169_0 := HX9000_0.out
          have hx169_1 := HX9000_1.out
          have hx169_2 := HX9000_2.out
          have hx169_3 := HX9000_3.out
          have hx169_4 := HX9000_4.out
          have hx169_5 := HX9000_5.out
          have hx169_6 := HX9000_6.out
          replace hx169_0 := cB HB.out hx169_0
          replace hx169_1 := cB HB.out hx169_1
          replace hx169_2 := cB HB.out hx169_2
          replace hx169_3 := cB HB.out hx169_3
          replace hx169_4 := cB HB.out hx169_4
          replace hx169_5 := cB HB.out hx169_5
          replace hx169_6 := cB HB.out hx169_6
          have HR169_2 := HR9000_2
          have HC169_2 := HC9000_2
          have HR169_3 := HR9000_3
          have HC169_3 := HC9000_3
          have HR169_4 := HR9000_4
          have HC169_4 := HC9000_4
          have HR169_5 := HR9000_5
          have HC169_5 := HC9000_5
          go_wp2_with (first | ((with_reducible refine gate_callee (f := 53) rfl ?_); refine goesL_ (some 31) rfl rfl Try.func53 (by kernel_rfl) rfl #[.string ((rd_T39 l0_0 a0_1).f1)] rfl gQ ?_; (with_reducible refine (spec_IsName.calls kj2 ((rd_T39 l0_0 a0_1).f1) t170 _ A8.out).mono ?_); rintro e w' ⟨rfl, ⟨nd, rfl⟩⟩; refine ⟨_, rfl, ?_⟩; have hx171_0 := HX9000_0.out; have hx171_1 := HX9000_1.out; have hx171_2 := HX9000_2.out; have hx171_3 := HX9000_3.out; have hx171_4 := HX9000_4.out; have hx171_5 := HX9000_5.out; have hx171_6 := HX9000_6.out; replace hx171_0 := cB HB.out hx171_0; replace hx171_1 := cB HB.out hx171_1; replace hx171_2 := cB HB.out hx171_2; replace hx171_3 := cB HB.out hx171_3; replace hx171_4 := cB HB.out hx171_4; replace hx171_5 := cB HB.out hx171_5; replace hx171_6 := cB HB.out hx171_6; have HR171_2 := HR9000_2; have HC171_2 := HC9000_2; have HR171_3 := HR9000_3; have HC171_3 := HC9000_3; have HR171_4 := HR9000_4; have HC171_4 := HC9000_4; have HR171_5 := HR9000_5; have HC171_5 := HC9000_5; have hx172_0 := HX9000_0.out; have hx172_1 := HX9000_1.out; have hx172_2 := HX9000_2.out; have hx172_3 := HX9000_3.out; have hx172_4 := HX9000_4.out; have hx172_5 := HX9000_5.out; have hx172_6 := HX9000_6.out; replace hx172_0 := cB HB.out hx172_0; replace hx172_1 := cB HB.out hx172_1; replace hx172_2 := cB HB.out hx172_2; replace hx172_3 := cB HB.out hx172_3; replace hx172_4 := cB HB.out hx172_4; replace hx172_5 := cB HB.out hx172_5; replace hx172_6 := cB HB.out hx172_6; have HR172_2 := HR9000_2; have HC172_2 := HC9000_2; have HR172_3 := HR9000_3; have HC172_3 := HC9000_3; have HR172_4 := HR9000_4; have HC172_4 := HC9000_4; have HR172_5 := HR9000_5; have HC172_5 := HC9000_5; have hx178_0 := HX9000_0.out; have hx178_1 := HX9000_1.out; have hx178_2 := HX9000_2.out; have hx178_3 := HX9000_3.out; have hx178_4 := HX9000_4.out; have hx178_5 := HX9000_5.out; have hx178_6 := HX9000_6.out; replace hx178_0 := cB HB.out hx178_0; replace hx178_1 := cB HB.out hx178_1; replace hx178_2 := cB HB.out hx178_2; replace hx178_3 := cB HB.out hx178_3; replace hx178_4 := cB HB.out hx178_4; replace hx178_5 := cB HB.out hx178_5; replace hx178_6 := cB HB.out hx178_6; have HR178_2 := HR9000_2; have HC178_2 := HC9000_2; have HR178_3 := HR9000_3; have HC178_3 := HC9000_3; have HR178_4 := HR9000_4; have HC178_4 := HC9000_4; have HR178_5 := HR9000_5; have HC178_5 := HC9000_5; have hx179_0 := HX9000_0.out; have hx179_1 := HX9000_1.out; have hx179_2 := HX9000_2.out; have hx179_3 := HX9000_3.out; have hx179_4 := HX9000_4.out; have hx179_5 := HX9000_5.out; have hx179_6 := HX9000_6.out; replace hx179_0 := cB HB.out hx179_0; replace hx179_1 := cB HB.out hx179_1; replace hx179_2 := cB HB.out hx179_2; replace hx179_3 := cB HB.out hx179_3; replace hx179_4 := cB HB.out hx179_4; replace hx179_5 := cB HB.out hx179_5; replace hx179_6 := cB HB.out hx179_6; have HR179_2 := HR9000_2; have HC179_2 := HC9000_2; have HR179_3 := HR9000_3; have HC179_3 := HC9000_3; have HR179_4 := HR9000_4; have HC179_4 := HC9000_4; have HR179_5 := HR9000_5; have HC179_5 := HC9000_5) | (go_at_call 52; (with_reducible refine (spec_l24Items.calls kj2 _ _ ((rd_T39 l0_0 a0_1).f3) 1 t164 true _ ?side1 ?side2 A20.out).mono ?_); (case side1 => exact cQ HR179_3.out); (case side2 => exact HC179_3.out); rintro e w' ⟨rfl, ⟨nd, rfl⟩⟩; have hx181_0 := HX9000_0.out; have hx181_1 := HX9000_1.out; have hx181_2 := HX9000_2.out; have hx181_3 := HX9000_3.out; have hx181_4 := HX9000_4.out; have hx181_5 := HX9000_5.out; have hx181_6 := HX9000_6.out; replace hx181_0 := cB HB.out hx181_0; replace hx181_1 := cB HB.out hx181_1; replace hx181_2 := cB HB.out hx181_2; replace hx181_3 := cB HB.out hx181_3; replace hx181_4 := cB HB.out hx181_4; replace hx181_5 := cB HB.out hx181_5; replace hx181_6 := cB HB.out hx181_6; have HR181_2 := HR9000_2; have HC181_2 := HC9000_2; have HR181_3 := HR9000_3; have HC181_3 := HC9000_3; have HR181_4 := HR9000_4; have HC181_4 := HC9000_4; have HR181_5 := HR9000_5; have HC181_5 := HC9000_5) | (go_at_call 52; (with_reducible refine (spec_l24Items.calls kj2 _ _ ((rd_T39 l0_0 a0_1).f5) 0 t164 true _ ?side1 ?side2 A22.out).mono ?_); (case side1 => exact cQ HR181_5.out); (case side2 => exact HC181_5.out); rintro e w' ⟨rfl, ⟨nd, rfl⟩⟩; have hx183_0 := HX9000_0.out; have hx183_1 := HX9000_1.out; have hx183_2 := HX9000_2.out; have hx183_3 := HX9000_3.out; have hx183_4 := HX9000_4.out; have hx183_5 := HX9000_5.out; have hx183_6 := HX9000_6.out; replace hx183_0 := cB HB.out hx183_0; replace hx183_1 := cB HB.out hx183_1; replace hx183_2 := cB HB.out hx183_2; replace hx183_3 := cB HB.out hx183_3; replace hx183_4 := cB HB.out hx183_4; replace hx183_5 := cB HB.out hx183_5; replace hx183_6 := cB HB.out hx183_6; have HR183_2 := HR9000_2; have HC183_2 := HC9000_2; have HR183_3 := HR9000_3; have HC183_3 := HC9000_3; have HR183_4 := HR9000_4; have HC183_4 := HC9000_4; have HR183_5 := HR9000_5; have HC183_5 := HC9000_5))
          go_ret
          exact ⟨eQ, bQ⟩
         ·replace c23 := Bool.eq_false_iff.mpr c23
          subst c23
          have H1 : (some false) = some r := by rw [if_neg (show ¬ (false = true) by decide)] at H; exact H
          clear H
          have H := H1
          clear H1
          obtain rfl := Option.some.inj H
          have hx169_0 := HX9000_0.out
          have hx169_1 := HX9000_1.out
          have hx169_2 := HX9000_2.out
          have hx169_3 := HX9000_3.out
          have hx169_4 := HX9000_4.out
          have hx169_5 := HX9000_5.out
          have hx169_6 := HX9000_6.out
          replace hx169_0 := cB HB.out hx169_0
          replace hx169_1 := cB HB.out hx169_1
          replace hx169_2 := cB HB.out hx169_2
          replace hx169_3 := cB HB.out hx169_3
          replace hx169_4 := cB HB.out hx169_4
          replace hx169_5 := cB HB.out hx169_5
          replace hx169_6 := cB HB.out hx169_6
          have HR169_2 := HR9000_2
          have HC169_2 := HC9000_2
          have HR169_3 := HR9000_3
          have HC169_3 := HC9000_3
          have HR169_4 := HR9000_4
          have HC169_4 := HC9000_4
          have HR169_5 := HR9000_5
          have HC169_5 := HC9000_5
          go_wp2_with (first | ((with_reducible refine gate_callee (f := 53) rfl ?_); refine goesL_ (some 31) rfl rfl Try.func53 (by kernel_rfl) rfl #[.string ((rd_T39 l0_0 a0_1).f1)] rfl gQ ?_; (with_reducible refine (spec_IsName.calls kj2 ((rd_T39 l0_0 a0_1).f1) t170 _ A8.out).mono ?_); rintro e w' ⟨rfl, ⟨nd, rfl⟩⟩; refine ⟨_, rfl, ?_⟩; have hx171_0 := HX9000_0.out; have hx171_1 := HX9000_1.out; have hx171_2 := HX9000_2.out; have hx171_3 := HX9000_3.out; have hx171_4 := HX9000_4.out; have hx171_5 := HX9000_5.out; have hx171_6 := HX9000_6.out; replace hx171_0 := cB HB.out hx171_0; replace hx171_1 := cB HB.out hx171_1; replace hx171_2 := cB HB.out hx171_2; replace hx171_3 := cB HB.out hx171_3; replace hx171_4 := cB HB.out hx171_4; replace hx171_5 := cB HB.out hx171_5; replace hx171_6 := cB HB.out hx171_6; have HR171_2 := HR9000_2; have HC171_2 := HC9000_2; have HR171_3 := HR9000_3; have HC171_3 := HC9000_3; have HR171_4 := HR9000_4; have HC171_4 := HC9000_4; have HR171_5 := HR9000_5; have HC171_5 := HC9000_5; have hx172_0 := HX9000_0.out; have hx172_1 := HX9000_1.out; have hx172_2 := HX9000_2.out; have hx172_3 := HX9000_3.out; have hx172_4 := HX9000_4.out; have hx172_5 := HX9000_5.out; have hx172_6 := HX9000_6.out; replace hx172_0 := cB HB.out hx172_0; replace hx172_1 := cB HB.out hx172_1; replace hx172_2 := cB HB.out hx172_2; replace hx172_3 := cB HB.out hx172_3; replace hx172_4 := cB HB.out hx172_4; replace hx172_5 := cB HB.out hx172_5; replace hx172_6 := cB HB.out hx172_6; have HR172_2 := HR9000_2; have HC172_2 := HC9000_2; have HR172_3 := HR9000_3; have HC172_3 := HC9000_3; have HR172_4 := HR9000_4; have HC172_4 := HC9000_4; have HR172_5 := HR9000_5; have HC172_5 := HC9000_5; have hx178_0 := HX9000_0.out; have hx178_1 := HX9000_1.out; have hx178_2 := HX9000_2.out; have hx178_3 := HX9000_3.out; have hx178_4 := HX9000_4.out; have hx178_5 := HX9000_5.out; have hx178_6 := HX9000_6.out; replace hx178_0 := cB HB.out hx178_0; replace hx178_1 := cB HB.out hx178_1; replace hx178_2 := cB HB.out hx178_2; replace hx178_3 := cB HB.out hx178_3; replace hx178_4 := cB HB.out hx178_4; replace hx178_5 := cB HB.out hx178_5; replace hx178_6 := cB HB.out hx178_6; have HR178_2 := HR9000_2; have HC178_2 := HC9000_2; have HR178_3 := HR9000_3; have HC178_3 := HC9000_3; have HR178_4 := HR9000_4; have HC178_4 := HC9000_4; have HR178_5 := HR9000_5; have HC178_5 := HC9000_5; have hx179_0 := HX9000_0.out; have hx179_1 := HX9000_1.out; have hx179_2 := HX9000_2.out; have hx179_3 := HX9000_3.out; have hx179_4 := HX9000_4.out; have hx179_5 := HX9000_5.out; have hx179_6 := HX9000_6.out; replace hx179_0 := cB HB.out hx179_0; replace hx179_1 := cB HB.out hx179_1; replace hx179_2 := cB HB.out hx179_2; replace hx179_3 := cB HB.out hx179_3; replace hx179_4 := cB HB.out hx179_4; replace hx179_5 := cB HB.out hx179_5; replace hx179_6 := cB HB.out hx179_6; have HR179_2 := HR9000_2; have HC179_2 := HC9000_2; have HR179_3 := HR9000_3; have HC179_3 := HC9000_3; have HR179_4 := HR9000_4; have HC179_4 := HC9000_4; have HR179_5 := HR9000_5; have HC179_5 := HC9000_5) | (go_at_call 52; (with_reducible refine (spec_l24Items.calls kj2 _ _ ((rd_T39 l0_0 a0_1).f3) 1 t164 true _ ?side1 ?side2 A20.out).mono ?_); (case side1 => exact cQ HR179_3.out); (case side2 => exact HC179_3.out); rintro e w' ⟨rfl, ⟨nd, rfl⟩⟩; have hx181_0 := HX9000_0.out; have hx181_1 := HX9000_1.out; have hx181_2 := HX9000_2.out; have hx181_3 := HX9000_3.out; have hx181_4 := HX9000_4.out; have hx181_5 := HX9000_5.out; have hx181_6 := HX9000_6.out; replace hx181_0 := cB HB.out hx181_0; replace hx181_1 := cB HB.out hx181_1; replace hx181_2 := cB HB.out hx181_2; replace hx181_3 := cB HB.out hx181_3; replace hx181_4 := cB HB.out hx181_4; replace hx181_5 := cB HB.out hx181_5; replace hx181_6 := cB HB.out hx181_6; have HR181_2 := HR9000_2; have HC181_2 := HC9000_2; have HR181_3 := HR9000_3; have HC181_3 := HC9000_3; have HR181_4 := HR9000_4; have HC181_4 := HC9000_4; have HR181_5 := HR9000_5; have HC181_5 := HC9000_5) | (go_at_call 52; (with_reducible refine (spec_l24Items.calls kj2 _ _ ((rd_T39 l0_0 a0_1).f5) 0 t164 false _ ?side1 ?side2 A22.out).mono ?_); (case side1 => exact cQ HR181_5.out); (case side2 => exact HC181_5.out); rintro e w' ⟨rfl, ⟨nd, rfl⟩⟩))
          go_ret
          exact ⟨eQ, bQ⟩
        ·replace c21 := Bool.eq_false_iff.mpr c21
         subst c21
         have H1 : (some false) = some r := by rw [if_neg (show ¬ (false = true) by decide)] at H; exact H
         clear H
         have H := H1
         clear H1
         obtain rfl := Option.some.inj H
         have hx169_0 := HX9000_0.out
         have hx169_1 := HX9000_1.out
         have hx169_2 := HX9000_2.out
         have hx169_3 := HX9000_3.out
         have hx169_4 := HX9000_4.out
         have hx169_5 := HX9000_5.out
         have hx169_6 := HX9000_6.out
         replace hx169_0 := cB HB.out hx169_0
         replace hx169_1 := cB HB.out hx169_1
         replace hx169_2 := cB HB.out hx169_2
         replace hx169_3 := cB HB.out hx169_3
         replace hx169_4 := cB HB.out hx169_4
         replace hx169_5 := cB HB.out hx169_5
         replace hx169_6 := cB HB.out hx169_6
         have HR169_2 := HR9000_2
         have HC169_2 := HC9000_2
         have HR169_3 := HR9000_3
         have HC169_3 := HC9000_3
         have HR169_4 := HR9000_4
         have HC169_4 := HC9000_4
         have HR169_5 := HR9000_5
         have HC169_5 := HC9000_5
         go_wp2_with (first | ((with_reducible refine gate_callee (f := 53) rfl ?_); refine goesL_ (some 31) rfl rfl Try.func53 (by kernel_rfl) rfl #[.string ((rd_T39 l0_0 a0_1).f1)] rfl gQ ?_; (with_reducible refine (spec_IsName.calls kj2 ((rd_T39 l0_0 a0_1).f1) t170 _ A8.out).mono ?_); rintro e w' ⟨rfl, ⟨nd, rfl⟩⟩; refine ⟨_, rfl, ?_⟩; have hx171_0 := HX9000_0.out; have hx171_1 := HX9000_1.out; have hx171_2 := HX9000_2.out; have hx171_3 := HX9000_3.out; have hx171_4 := HX9000_4.out; have hx171_5 := HX9000_5.out; have hx171_6 := HX9000_6.out; replace hx171_0 := cB HB.out hx171_0; replace hx171_1 := cB HB.out hx171_1; replace hx171_2 := cB HB.out hx171_2; replace hx171_3 := cB HB.out hx171_3; replace hx171_4 := cB HB.out hx171_4; replace hx171_5 := cB HB.out hx171_5; replace hx171_6 := cB HB.out hx171_6; have HR171_2 := HR9000_2; have HC171_2 := HC9000_2; have HR171_3 := HR9000_3; have HC171_3 := HC9000_3; have HR171_4 := HR9000_4; have HC171_4 := HC9000_4; have HR171_5 := HR9000_5; have HC171_5 := HC9000_5; have hx172_0 := HX9000_0.out; have hx172_1 := HX9000_1.out; have hx172_2 := HX9000_2.out; have hx172_3 := HX9000_3.out; have hx172_4 := HX9000_4.out; have hx172_5 := HX9000_5.out; have hx172_6 := HX9000_6.out; replace hx172_0 := cB HB.out hx172_0; replace hx172_1 := cB HB.out hx172_1; replace hx172_2 := cB HB.out hx172_2; replace hx172_3 := cB HB.out hx172_3; replace hx172_4 := cB HB.out hx172_4; replace hx172_5 := cB HB.out hx172_5; replace hx172_6 := cB HB.out hx172_6; have HR172_2 := HR9000_2; have HC172_2 := HC9000_2; have HR172_3 := HR9000_3; have HC172_3 := HC9000_3; have HR172_4 := HR9000_4; have HC172_4 := HC9000_4; have HR172_5 := HR9000_5; have HC172_5 := HC9000_5; have hx178_0 := HX9000_0.out; have hx178_1 := HX9000_1.out; have hx178_2 := HX9000_2.out; have hx178_3 := HX9000_3.out; have hx178_4 := HX9000_4.out; have hx178_5 := HX9000_5.out; have hx178_6 := HX9000_6.out; replace hx178_0 := cB HB.out hx178_0; replace hx178_1 := cB HB.out hx178_1; replace hx178_2 := cB HB.out hx178_2; replace hx178_3 := cB HB.out hx178_3; replace hx178_4 := cB HB.out hx178_4; replace hx178_5 := cB HB.out hx178_5; replace hx178_6 := cB HB.out hx178_6; have HR178_2 := HR9000_2; have HC178_2 := HC9000_2; have HR178_3 := HR9000_3; have HC178_3 := HC9000_3; have HR178_4 := HR9000_4; have HC178_4 := HC9000_4; have HR178_5 := HR9000_5; have HC178_5 := HC9000_5; have hx179_0 := HX9000_0.out; have hx179_1 := HX9000_1.out; have hx179_2 := HX9000_2.out; have hx179_3 := HX9000_3.out; have hx179_4 := HX9000_4.out; have hx179_5 := HX9000_5.out; have hx179_6 := HX9000_6.out; replace hx179_0 := cB HB.out hx179_0; replace hx179_1 := cB HB.out hx179_1; replace hx179_2 := cB HB.out hx179_2; replace hx179_3 := cB HB.out hx179_3; replace hx179_4 := cB HB.out hx179_4; replace hx179_5 := cB HB.out hx179_5; replace hx179_6 := cB HB.out hx179_6; have HR179_2 := HR9000_2; have HC179_2 := HC9000_2; have HR179_3 := HR9000_3; have HC179_3 := HC9000_3; have HR179_4 := HR9000_4; have HC179_4 := HC9000_4; have HR179_5 := HR9000_5; have HC179_5 := HC9000_5) | (go_at_call 52; (with_reducible refine (spec_l24Items.calls kj2 _ _ ((rd_T39 l0_0 a0_1).f3) 1 t164 false _ ?side1 ?side2 A20.out).mono ?_); (case side1 => exact cQ HR179_3.out); (case side2 => exact HC179_3.out); rintro e w' ⟨rfl, ⟨nd, rfl⟩⟩))
         go_ret
         exact ⟨eQ, bQ⟩
       ·rw [if_neg c19] at H
        have c19b0 : (((rd_T39 l0_0 a0_1).f1).toList == ([] : List UInt8)) = false := beq_eq_false_iff_ne.mpr c19
        have c19b1 : (((rd_T39 l0_0 a0_1).f1).toList != ([] : List UInt8)) = true := bne_iff_ne.mpr c19
        obtain rfl := Option.some.inj H
        have hx169_0 := HX9000_0.out
        have hx169_1 := HX9000_1.out
        have hx169_2 := HX9000_2.out
        have hx169_3 := HX9000_3.out
        have hx169_4 := HX9000_4.out
        have hx169_5 := HX9000_5.out
        have hx169_6 := HX9000_6.out
        replace hx169_0 := cB HB.out hx169_0
        replace hx169_1 := cB HB.out hx169_1
        replace hx169_2 := cB HB.out hx169_2
        replace hx169_3 := cB HB.out hx169_3
        replace hx169_4 := cB HB.out hx169_4
        replace hx169_5 := cB HB.out hx169_5
        replace hx169_6 := cB HB.out hx169_6
        have HR169_2 := HR9000_2
        have HC169_2 := HC9000_2
        have HR169_3 := HR9000_3
        have HC169_3 := HC9000_3
        have HR169_4 := HR9000_4
        have HC169_4 := HC9000_4
        have HR169_5 := HR9000_5
        have HC169_5 := HC9000_5
        go_wp2_with (first | ((with_reducible refine gate_callee (f := 53) rfl ?_); refine goesL_ (some 31) rfl rfl Try.func53 (by kernel_rfl) rfl #[.string ((rd_T39 l0_0 a0_1).f1)] rfl gQ ?_; (with_reducible refine (spec_IsName.calls kj2 ((rd_T39 l0_0 a0_1).f1) t170 _ A8.out).mono ?_); rintro e w' ⟨rfl, ⟨nd, rfl⟩⟩; refine ⟨_, rfl, ?_⟩; have hx171_0 := HX9000_0.out; have hx171_1 := HX9000_1.out; have hx171_2 := HX9000_2.out; have hx171_3 := HX9000_3.out; have hx171_4 := HX9000_4.out; have hx171_5 := HX9000_5.out; have hx171_6 := HX9000_6.out; replace hx171_0 := cB HB.out hx171_0; replace hx171_1 := cB HB.out hx171_1; replace hx171_2 := cB HB.out hx171_2; replace hx171_3 := cB HB.out hx171_3; replace hx171_4 := cB HB.out hx171_4; replace hx171_5 := cB HB.out hx171_5; replace hx171_6 := cB HB.out hx171_6; have HR171_2 := HR9000_2; have HC171_2 := HC9000_2; have HR171_3 := HR9000_3; have HC171_3 := HC9000_3; have HR171_4 := HR9000_4; have HC171_4 := HC9000_4; have HR171_5 := HR9000_5; have HC171_5 := HC9000_5; have hx172_0 := HX9000_0.out; have hx172_1 := HX9000_1.out; have hx172_2 := HX9000_2.out; have hx172_3 := HX9000_3.out; have hx172_4 := HX9000_4.out; have hx172_5 := HX9000_5.out; have hx172_6 := HX9000_6.out; replace hx172_0 := cB HB.out hx172_0; replace hx172_1 := cB HB.out hx172_1; replace hx172_2 := cB HB.out hx172_2; replace hx172_3 := cB HB.out hx172_3; replace hx172_4 := cB HB.out hx172_4; replace hx172_5 := cB HB.out hx172_5; replace hx172_6 := cB HB.out hx172_6; have HR172_2 := HR9000_2; have HC172_2 := HC9000_2; have HR172_3 := HR9000_3; have HC172_3 := HC9000_3; have HR172_4 := HR9000_4; have HC172_4 := HC9000_4; have HR172_5 := HR9000_5; have HC172_5 := HC9000_5; have hx178_0 := HX9000_0.out; have hx178_1 := HX9000_1.out; have hx178_2 := HX9000_2.out; have hx178_3 := HX9000_3.out; have hx178_4 := HX9000_4.out; have hx178_5 := HX9000_5.out; have hx178_6 := HX9000_6.out; replace hx178_0 := cB HB.out hx178_0; replace hx178_1 := cB HB.out hx178_1; replace hx178_2 := cB HB.out hx178_2; replace hx178_3 := cB HB.out hx178_3; replace hx178_4 := cB HB.out hx178_4; replace hx178_5 := cB HB.out hx178_5; replace hx178_6 := cB HB.out hx178_6; have HR178_2 := HR9000_2; have HC178_2 := HC9000_2; have HR178_3 := HR9000_3; have HC178_3 := HC9000_3; have HR178_4 := HR9000_4; have HC178_4 := HC9000_4; have HR178_5 := HR9000_5; have HC178_5 := HC9000_5))
        go_ret
        exact ⟨eQ, bQ⟩
      ·rw [if_neg c18] at H
       have c18b0 : (((rd_T39 l0_0 a0_1).f0) == 3) = false := beq_eq_false_iff_ne.mpr c18
       have c18b1 : (((rd_T39 l0_0 a0_1).f0) != 3) = true := bne_iff_ne.mpr c18
       by_cases c24 : ((rd_T39 l0_0 a0_1).f0) = 4
       ·rw [if_pos c24] at H
        have c24b0 : (((rd_T39 l0_0 a0_1).f0) == 4) = true := beq_iff_eq.mpr c24
        have c24b1 : (((rd_T39 l0_0 a0_1).f0) != 4) = false := bne_eq_false_iff_eq.mpr c24
        clear c24
        by_cases c25 : ((rd_T39 l0_0 a0_1).f1).toList = ([] : List UInt8)
        ·rw [if_pos c25] at H
         have c25b0 : (((rd_T39 l0_0 a0_1).f1).toList == ([] : List UInt8)) = true := beq_iff_eq.mpr c25
         have c25b1 : (((rd_T39 l0_0 a0_1).f1).toList != ([] : List UInt8)) = false := bne_eq_false_iff_eq.mpr c25
         clear c25
         by_cases c26 : (((rd_T39 l0_0 a0_1).f3).length : Int) = 0
         ·rw [if_pos c26] at H
          have c26b0 : ((((rd_T39 l0_0 a0_1).f3).length : Int) == 0) = true := beq_iff_eq.mpr c26
          have c26b1 : ((((rd_T39 l0_0 a0_1).f3).length : Int) != 0) = false := bne_eq_false_iff_eq.mpr c26
          clear c26
          by_cases c27 : (((rd_T39 l0_0 a0_1).f5).length : Int) = 0
          ·rw [if_pos c27] at H
           have c27b0 : ((((rd_T39 l0_0 a0_1).f5).length : Int) == 0) = true := beq_iff_eq.mpr c27
           have c27b1 : ((((rd_T39 l0_0 a0_1).f5).length : Int) != 0) = false := bne_eq_false_iff_eq.mpr c27
           clear c27
           obtain rfl := Option.some.inj H
           have hx169_0 := HX9000_0.out
           have hx169_1 := HX9000_1.out
           have hx169_2 := HX9000_2.out
           have hx169_3 := HX9000_3.out
           have hx169_4 := HX9000_4.out
           have hx169_5 := HX9000_5.out
           have hx169_6 := HX9000_6.out
           replace hx169_0 := cB HB.out hx169_0
           replace hx169_1 := cB HB.out hx169_1
           replace hx169_2 := cB HB.out hx169_2
           replace hx169_3 := cB HB.out hx169_3
           replace hx169_4 := cB HB.out hx169_4
           replace hx169_5 := cB HB.out hx169_5
           replace hx169_6 := cB HB.out hx169_6
           have HR169_2 := HR9000_2
           have HC169_2 := HC9000_2
           have HR169_3 := HR9000_3
           have HC169_3 := HC9000_3
           have HR169_4 := HR9000_4
           have HC169_4 := HC9000_4
           have HR169_5 := HR9000_5
           have HC169_5 := HC9000_5
           go_wp2_with (first | ((with_reducible refine gate_callee (f := 53) rfl ?_); refine goesL_ (some 31) rfl rfl Try.func53 (by kernel_rfl) rfl #[.string ((rd_T39 l0_0 a0_1).f1)] rfl gQ ?_; (with_reducible refine (spec_IsName.calls kj2 ((rd_T39 l0_0 a0_1).f1) t170 _ A8.out).mono ?_); rintro e w' ⟨rfl, ⟨nd, rfl⟩⟩; refine ⟨_, rfl, ?_⟩; have hx171_0 := HX9000_0.out; have hx171_1 := HX9000_1.out; have hx171_2 := HX9000_2.out; have hx171_3 := HX9000_3.out; have hx171_4 := HX9000_4.out; have hx171_5 := HX9000_5.out; have hx171_6 := HX9000_6.out; replace hx171_0 := cB HB.out hx171_0; replace hx171_1 := cB HB.out hx171_1; replace hx171_2 := cB HB.out hx171_2; replace hx171_3 := cB HB.out hx171_3; replace hx171_4 := cB HB.out hx171_4; replace hx171_5 := cB HB.out hx171_5; replace hx171_6 := cB HB.out hx171_6; have HR171_2 := HR9000_2; have HC171_2 := HC9000_2; have HR171_3 := HR9000_3; have HC171_3 := HC9000_3; have HR171_4 := HR9000_4; have HC171_4 := HC9000_4; have HR171_5 := HR9000_5; have HC171_5 := HC9000_5; have hx172_0 := HX9000_0.out; have hx172_1 := HX9000_1.out; have hx172_2 := HX9000_2.out; have hx172_3 := HX9000_3.out; have hx172_4 := HX9000_4.out; have hx172_5 := HX9000_5.out; have hx172_6 := HX9000_6.out; replace hx172_0 := cB HB.out hx172_0; replace hx172_1 := cB HB.out hx172_1; replace hx172_2 := cB HB.out hx172_2; replace hx172_3 := cB HB.out hx172_3; replace hx172_4 := cB HB.out hx172_4; replace hx172_5 := cB HB.out hx172_5; replace hx172_6 := cB HB.out hx172_6; have HR172_2 := HR9000_2; have HC172_2 := HC9000_2; have HR172_3 := HR9000_3; have HC172_3 := HC9000_3; have HR172_4 := HR9000_4; have HC172_4 := HC9000_4; have HR172_5 := HR9000_5; have HC172_5 := HC9000_5; have hx184_0 := HX9000_0.out; have hx184_1 := HX9000_1.out; have hx184_2 := HX9000_2.out; have hx184_3 := HX9000_3.out; have hx184_4 := HX9000_4.out; have hx184_5 := HX9000_5.out; have hx184_6 := HX9000_6.out; replace hx184_0 := cB HB.out hx184_0; replace hx184_1 := cB HB.out hx184_1; replace hx184_2 := cB HB.out hx184_2; replace hx184_3 := cB HB.out hx184_3; replace hx184_4 := cB HB.out hx184_4; replace hx184_5 := cB HB.out hx184_5; replace hx184_6 := cB HB.out hx184_6; have HR184_2 := HR9000_2; have HC184_2 := HC9000_2; have HR184_3 := HR9000_3; have HC184_3 := HC9000_3; have HR184_4 := HR9000_4; have HC184_4 := HC9000_4; have HR184_5 := HR9000_5; have HC184_5 := HC9000_5; have hx185_0 := HX9000_0.out; have hx185_1 := HX9000_1.out; have hx185_2 := HX9000_2.out; have hx185_3 := HX9000_3.out; have hx185_4 := HX9000_4.out; have hx185_5 := HX9000_5.out; have hx185_6 := HX9000_6.out; replace hx185_0 := cB HB.out hx185_0; replace hx185_1 := cB HB.out hx185_1; replace hx185_2 := cB HB.out hx185_2; replace hx185_3 := cB HB.out hx185_3; replace hx185_4 := cB HB.out hx185_4; replace hx185_5 := cB HB.out hx185_5; replace hx185_6 := cB HB.out hx185_6; have HR185_2 := HR9000_2; have HC185_2 := HC9000_2; have HR185_3 := HR9000_3; have HC185_3 := HC9000_3; have HR185_4 := HR9000_4; have HC185_4 := HC9000_4; have HR185_5 := HR9000_5; have HC185_5 := HC9000_5; have hx186_0 := HX9000_0.out; have hx186_1 := HX9000_1.out; have hx186_2 := HX9000_2.out; have hx186_3 := HX9000_3.out; have hx186_4 := HX9000_4.out; have hx186_5 := HX9000_5.out; have hx186_6 := HX9000_6.out; replace hx186_0 := cB HB.out hx186_0; replace hx186_1 := cB HB.out hx186_1; replace hx186_2 := cB HB.out hx186_2; replace hx186_3 := cB HB.out hx186_3; replace hx186_4 := cB HB.out hx186_4; replace hx186_5 := cB HB.out hx186_5; replace hx186_6 := cB HB.out hx186_6; have HR186_2 := HR9000_2; have HC186_2 := HC9000_2; have HR186_3 := HR9000_3; have HC186_3 := HC9000_3; have HR186_4 := HR9000_4; have HC186_4 := HC9000_4; have HR186_5 := HR9000_5; have HC186_5 := HC9000_5))
           go_ret
           exact ⟨eQ, bQ⟩
          ·rw [if_neg c27] at H
           have c27b0 : ((((rd_T39 l0_0 a0_1).f5).length : Int) == 0) = false := beq_eq_false_iff_ne.mpr c27
           have c27b1 : ((((rd_T39 l0_0 a0_1).f5).length : Int) != 0) = true := bne_iff_ne.mpr c27
           have c27b2 : ¬ (((rd_T39 l0_0 a0_1).f5) = []) := fun h_ => c27 (by rw [h_]; rfl)
           obtain rfl := Option.some.inj H
           have hx169_0 := HX9000_0.out
           have hx169_1 := HX9000_1.out
           have hx169_2 := HX9000_2.out
           have hx169_3 := HX9000_3.out
           have hx169_4 := HX9000_4.out
           have hx169_5 := HX9000_5.out
           have hx169_6 := HX9000_6.out
           replace hx169_0 := cB HB.out hx169_0
           replace hx169_1 := cB HB.out hx169_1
           replace hx169_2 := cB HB.out hx169_2
           replace hx169_3 := cB HB.out hx169_3
           replace hx169_4 := cB HB.out hx169_4
           replace hx169_5 := cB HB.out hx169_5
           replace hx169_6 := cB HB.out hx169_6
           have HR169_2 := HR9000_2
           have HC169_2 := HC9000_2
           have HR169_3 := HR9000_3
           have HC169_3 := HC9000_3
           have HR169_4 := HR9000_4
           have HC169_4 := HC9000_4
           have HR169_5 := HR9000_5
           have HC169_5 := HC9000_5
           go_wp2_with (first | ((with_reducible refine gate_callee (f := 53) rfl ?_); refine goesL_ (some 31) rfl rfl Try.func53 (by kernel_rfl) rfl #[.string ((rd_T39 l0_0 a0_1).f1)] rfl gQ ?_; (with_reducible refine (spec_IsName.calls kj2 ((rd_T39 l0_0 a0_1).f1) t170 _ A8.out).mono ?_); rintro e w' ⟨rfl, ⟨nd, rfl⟩⟩; refine ⟨_, rfl, ?_⟩; have hx171_0 := HX9000_0.out; have hx171_1 := HX9000_1.out; have hx171_2 := HX9000_2.out; have hx171_3 := HX9000_3.out; have hx171_4 := HX9000_4.out; have hx171_5 := HX9000_5.out; have hx171_6 := HX9000_6.out; replace hx171_0 := cB HB.out hx171_0; replace hx171_1 := cB HB.out hx171_1; replace hx171_2 := cB HB.out hx171_2; replace hx171_3 := cB HB.out hx171_3; replace hx171_4 := cB HB.out hx171_4; replace hx171_5 := cB HB.out hx171_5; replace hx171_6 := cB HB.out hx171_6; have HR171_2 := HR9000_2; have HC171_2 := HC9000_2; have HR171_3 := HR9000_3; have HC171_3 := HC9000_3; have HR171_4 := HR9000_4; have HC171_4 := HC9000_4; have HR171_5 := HR9000_5; have HC171_5 := HC9000_5; have hx172_0 := HX9000_0.out; have hx172_1 := HX9000_1.out; have hx172_2 := HX9000_2.out; have hx172_3 := HX9000_3.out; have hx172_4 := HX9000_4.out; have hx172_5 := HX9000_5.out; have hx172_6 := HX9000_6.out; replace hx172_0 := cB HB.out hx172_0; replace hx172_1 := cB HB.out hx172_1; replace hx172_2 := cB HB.out hx172_2; replace hx172_3 := cB HB.out hx172_3; replace hx172_4 := cB HB.out hx172_4; replace hx172_5 := cB HB.out hx172_5; replace hx172_6 := cB HB.out hx172_6; have HR172_2 := HR9000_2; have HC172_2 := HC9000_2; have HR172_3 := HR9000_3; have HC172_3 := HC9000_3; have HR172_4 := HR9000_4; have HC172_4 := HC9000_4; have HR172_5 := HR9000_5; have HC172_5 := HC9000_5; have hx184_0 := HX9000_0.out; have hx184_1 := HX9000_1.out; have hx184_2 := HX9000_2.out; have hx184_3 := HX9000_3.out; have hx184_4 := HX9000_4.out; have hx184_5 := HX9000_5.out; have hx184_6 := HX9000_6.out; replace hx184_0 := cB HB.out hx184_0; replace hx184_1 := cB HB.out hx184_1; replace hx184_2 := cB HB.out hx184_2; replace hx184_3 := cB HB.out hx184_3; replace hx184_4 := cB HB.out hx184_4; replace hx184_5 := cB HB.out hx184_5; replace hx184_6 := cB HB.out hx184_6; have HR184_2 := HR9000_2; have HC184_2 := HC9000_2; have HR184_3 := HR9000_3; have HC184_3 := HC9000_3; have HR184_4 := HR9000_4; have HC184_4 := HC9000_4; have HR184_5 := HR9000_5; have HC184_5 := HC9000_5; have hx185_0 := HX9000_0.out; have hx185_1 := HX9000_1.out; have hx185_2 := HX9000_2.out; have hx185_3 := HX9000_3.out; have hx185_4 := HX9000_4.out; have hx185_5 := HX9000_5.out; have hx185_6 := HX9000_6.out; replace hx185_0 := cB HB.out hx185_0; replace hx185_1 := cB HB.out hx185_1; replace hx185_2 := cB HB.out hx185_2; replace hx185_3 := cB HB.out hx185_3; replace hx185_4 := cB HB.out hx185_4; replace hx185_5 := cB HB.out hx185_5; replace hx185_6 := cB HB.out hx185_6; have HR185_2 := HR9000_2; have HC185_2 := HC9000_2; have HR185_3 := HR9000_3; have HC185_3 := HC9000_3; have HR185_4 := HR9000_4; have HC185_4 := HC9000_4; have HR185_5 := HR9000_5; have HC185_5 := HC9000_5))
           go_ret
           exact ⟨eQ, bQ⟩
         ·rw [if_neg c26] at H
          have c26b0 : ((((rd_T39 l0_0 a0_1).f3).length : Int) == 0) = false := beq_eq_false_iff_ne.mpr c26
          have c26b1 : ((((rd_T39 l0_0 a0_1).f3).length : Int) != 0) = true := bne_iff_ne.mpr c26
          have c26b2 : ¬ (((rd_T39 l0_0 a0_1).f3) = []) := fun h_ => c26 (by rw [h_]; rfl)
          obtain rfl := Option.some.inj H
          have hx169_0 := HX9000_0.out
          have hx169_1 := HX9000_1.out
          have hx169_2 := HX9000_2.out
          have hx169_3 := HX9000_3.out
          have hx169_4 := HX9000_4.out
          have hx169_5 := HX9000_5.out
          have hx169_6 := HX9000_6.out
          replace hx169_0 := cB HB.out hx169_0
          replace hx169_1 := cB HB.out hx169_1
          replace hx169_2 := cB HB.out hx169_2
          replace hx169_3 := cB HB.out hx169_3
          replace hx169_4 := cB HB.out hx169_4
          replace hx169_5 := cB HB.out hx169_5
          replace hx169_6 := cB HB.out hx169_6
          have HR169_2 := HR9000_2
          have HC169_2 := HC9000_2
          have HR169_3 := HR9000_3
          have HC169_3 := HC9000_3
          have HR169_4 := HR9000_4
          have HC169_4 := HC9000_4
          have HR169_5 := HR9000_5
          have HC169_5 := HC9000_5
          go_wp2_with (first | ((with_reducible refine gate_callee (f := 53) rfl ?_); refine goesL_ (some 31) rfl rfl Try.func53 (by kernel_rfl) rfl #[.string ((rd_T39 l0_0 a0_1).f1)] rfl gQ ?_; (with_reducible refine (spec_IsName.calls kj2 ((rd_T39 l0_0 a0_1).f1) t170 _ A8.out).mono ?_); rintro e w' ⟨rfl, ⟨nd, rfl⟩⟩; refine ⟨_, rfl, ?_⟩; have hx171_0 := HX9000_0.out; have hx171_1 := HX9000_1.out; have hx171_2 := HX9000_2.out; have hx171_3 := HX9000_3.out; have hx171_4 := HX9000_4.out; have hx171_5 := HX9000_5.out; have hx171_6 := HX9000_6.out; replace hx171_0 := cB HB.out hx171_0; replace hx171_1 := cB HB.out hx171_1; replace hx171_2 := cB HB.out hx171_2; replace hx171_3 := cB HB.out hx171_3; replace hx171_4 := cB HB.out hx171_4; replace hx171_5 := cB HB.out hx171_5; replace hx171_6 := cB HB.out hx171_6; have HR171_2 := HR9000_2; have HC171_2 := HC9000_2; have HR171_3 := HR9000_3; have HC171_3 := HC9000_3; have HR171_4 := HR9000_4; have HC171_4 := HC9000_4; have HR171_5 := HR9000_5; have HC171_5 := HC9000_5; have hx172_0 := HX9000_0.out; have hx172_1 := HX9000_1.out; have hx172_2 := HX9000_2.out; have hx172_3 := HX9000_3.out; have hx172_4 := HX9000_4.out; have hx172_5 := HX9000_5.out; have hx172_6 := HX9000_6.out; replace hx172_0 := cB HB.out hx172_0; replace hx172_1 := cB HB.out hx172_1; replace hx172_2 := cB HB.out hx172_2; replace hx172_3 := cB HB.out hx172_3; replace hx172_4 := cB HB.out hx172_4; replace hx172_5 := cB HB.out hx172_5; replace hx172_6 := cB HB.out hx172_6; have HR172_2 := HR9000_2; have HC172_2 := HC9000_2; have HR172_3 := HR9000_3; have HC172_3 := HC9000_3; have HR172_4 := HR9000_4; have HC172_4 := HC9000_4; have HR172_5 := HR9000_5; have HC172_5 := HC9000_5; have hx184_0 := HX9000_0.out; have hx184_1 := HX9000_1.out; have hx184_2 := HX9000_2.out; have hx184_3 := HX9000_3.out; have hx184_4 := HX9000_4.out; have hx184_5 := HX9000_5.out; have hx184_6 := HX9000_6.out; replace hx184_0 := cB HB.out hx184_0; replace hx184_1 := cB HB.out hx184_1; replace hx184_2 := cB HB.out hx184_2; replace hx184_3 := cB HB.out hx184_3; replace hx184_4 := cB HB.out hx184_4; replace hx184_5 := cB HB.out hx184_5; replace hx184_6 := cB HB.out hx184_6; have HR184_2 := HR9000_2; have HC184_2 := HC9000_2; have HR184_3 := HR9000_3; have HC184_3 := HC9000_3; have HR184_4 := HR9000_4; have HC184_4 := HC9000_4; have HR184_5 := HR9000_5; have HC184_5 := HC9000_5; have hx185_0 := HX9000_0.out; have hx185_1 := HX9000_1.out; have hx185_2 := HX9000_2.out; have hx185_3 := HX9000_3.out; have hx185_4 := HX9000_4.out; have hx185_5 := HX9000_5.out; have hx185_6 := HX9000_6.out; replace hx185_0 := cB HB.out hx185_0; replace hx185_1 := cB HB.out hx185_1; replace hx185_2 := cB HB.out hx185_2; replace hx185_3 := cB HB.out hx185_3; replace hx185_4 := cB HB.out hx185_4; replace hx185_5 := cB HB.out hx185_5; replace hx185_6 := cB HB.out hx185_6; have HR185_2 := HR9000_2; have HC185_2 := HC9000_2; have HR185_3 := HR9000_3; have HC185_3 := HC9000_3; have HR185_4 := HR9000_4; have HC185_4 := HC9000_4; have HR185_5 := HR9000_5; have HC185_5 := HC9000_5))
          go_ret
          exact ⟨eQ, bQ⟩
        ·rw [if_neg c25] at H
         have c25b0 : (((rd_T39 l0_0 a0_1).f1).toList == ([] : List UInt8)) = false := beq_eq_false_iff_ne.mpr c25
         have c25b1 : (((rd_T39 l0_0 a0_1).f1).toList != ([] : List UInt8)) = true := bne_iff_ne.mpr c25
         obtain rfl := Option.some.inj H
         have hx169_0 := HX9000_0.out
         have hx169_1 := HX9000_1.out
         have hx169_2 := HX9000_2.out
         have hx169_3 := HX9000_3.out
         have hx169_4 := HX9000_4.out
         have hx169_5 := HX9000_5.out
         have hx169_6 := HX9000_6.out
         replace hx169_0 := cB HB.out hx169_0
         replace hx169_1 := cB HB.out hx169_1
         replace hx169_2 := cB HB.out hx169_2
         replace hx169_3 := cB HB.out hx169_3
         replace hx169_4 := cB HB.out hx169_4
         replace hx169_5 := cB HB.out hx169_5
         replace hx169_6 := cB HB.out hx169_6
         have HR169_2 := HR9000_2
         have HC169_2 := HC9000_2
         have HR169_3 := HR9000_3
         have HC169_3 := HC9000_3
         have HR169_4 := HR9000_4
         have HC169_4 := HC9000_4
         have HR169_5 := HR9000_5
         have HC169_5 := HC9000_5
         go_wp2_with (first | ((with_reducible refine gate_callee (f := 53) rfl ?_); refine goesL_ (some 31) rfl rfl Try.func53 (by kernel_rfl) rfl #[.string ((rd_T39 l0_0 a0_1).f1)] rfl gQ ?_; (with_reducible refine (spec_IsName.calls kj2 ((rd_T39 l0_0 a0_1).f1) t170 _ A8.out).mono ?_); rintro e w' ⟨rfl, ⟨nd, rfl⟩⟩; refine ⟨_, rfl, ?_⟩; have hx171_0 := HX9000_0.out; have hx171_1 := HX9000_1.out; have hx171_2 := HX9000_2.out; have hx171_3 := HX9000_3.out; have hx171_4 := HX9000_4.out; have hx171_5 := HX9000_5.out; have hx171_6 := HX9000_6.out; replace hx171_0 := cB HB.out hx171_0; replace hx171_1 := cB HB.out hx171_1; replace hx171_2 := cB HB.out hx171_2; replace hx171_3 := cB HB.out hx171_3; replace hx171_4 := cB HB.out hx171_4; replace hx171_5 := cB HB.out hx171_5; replace hx171_6 := cB HB.out hx171_6; have HR171_2 := HR9000_2; have HC171_2 := HC9000_2; have HR171_3 := HR9000_3; have HC171_3 := HC9000_3; have HR171_4 := HR9000_4; have HC171_4 := HC9000_4; have HR171_5 := HR9000_5; have HC171_5 := HC9000_5; have hx172_0 := HX9000_0.out; have hx172_1 := HX9000_1.out; have hx172_2 := HX9000_2.out; have hx172_3 := HX9000_3.out; have hx172_4 := HX9000_4.out; have hx172_5 := HX9000_5.out; have hx172_6 := HX9000_6.out; replace hx172_0 := cB HB.out hx172_0; replace hx172_1 := cB HB.out hx172_1; replace hx172_2 := cB HB.out hx172_2; replace hx172_3 := cB HB.out hx172_3; replace hx172_4 := cB HB.out hx172_4; replace hx172_5 := cB HB.out hx172_5; replace hx172_6 := cB HB.out hx172_6; have HR172_2 := HR9000_2; have HC172_2 := HC9000_2; have HR172_3 := HR9000_3; have HC172_3 := HC9000_3; have HR172_4 := HR9000_4; have HC172_4 := HC9000_4; have HR172_5 := HR9000_5; have HC172_5 := HC9000_5; have hx184_0 := HX9000_0.out; have hx184_1 := HX9000_1.out; have hx184_2 := HX9000_2.out; have hx184_3 := HX9000_3.out; have hx184_4 := HX9000_4.out; have hx184_5 := HX9000_5.out; have hx184_6 := HX9000_6.out; replace hx184_0 := cB HB.out hx184_0; replace hx184_1 := cB HB.out hx184_1; replace hx184_2 := cB HB.out hx184_2; replace hx184_3 := cB HB.out hx184_3; replace hx184_4 := cB HB.out hx184_4; replace hx184_5 := cB HB.out hx184_5; replace hx184_6 := cB HB.out hx184_6; have HR184_2 := HR9000_2; have HC184_2 := HC9000_2; have HR184_3 := HR9000_3; have HC184_3 := HC9000_3; have HR184_4 := HR9000_4; have HC184_4 := HC9000_4; have HR184_5 := HR9000_5; have HC184_5 := HC9000_5))
         go_ret
         exact ⟨eQ, bQ⟩
       ·rw [if_neg c24] at H
        have c24b0 : (((rd_T39 l0_0 a0_1).f0) == 4) = false := beq_eq_false_iff_ne.mpr c24
        have c24b1 : (((rd_T39 l0_0 a0_1).f0) != 4) = true := bne_iff_ne.mpr c24
        by_cases c28 : ((rd_T39 l0_0 a0_1).f0) = 5
        ·rw [if_pos c28] at H
         have c28b0 : (((rd_T39 l0_0 a0_1).f0) == 5) = true := beq_iff_eq.mpr c28
         have c28b1 : (((rd_T39 l0_0 a0_1).f0) != 5) = false := bne_eq_false_iff_eq.mpr c28
         clear c28
         by_cases c29 : ((rd_T39 l0_0 a0_1).f1).toList = ([] : List UInt8)
         ·rw [if_pos c29] at H
          have c29b0 : (((rd_T39 l0_0 a0_1).f1).toList == ([] : List UInt8)) = true := beq_iff_eq.mpr c29
          have c29b1 : (((rd_T39 l0_0 a0_1).f1).toList != ([] : List UInt8)) = false := bne_eq_false_iff_eq.mpr c29
          clear c29
          replace H := Option.bind_eq_some_iff.mp H
          obtain ⟨t189, A300, H⟩ := H
          replace H : (if t189 = true then (if (((rd_T39 l0_0 a0_1).f5).length : Int) = 0 then ((spec_l00In.f ((rd_T39 l0_0 a0_1).f6) (-262144) 262144).bind fun t191 => (some t191)) else (some false)) else (some false)) = some r := H
          have A30 := aM A300
          clear A300
          by_cases c31 : t189 = true
          ·subst c31
           have H1 : (if (((rd_T39 l0_0 a0_1).f5).length : Int) = 0 then ((spec_l00In.f ((rd_T39 l0_0 a0_1).f6) (-262144) 262144).bind fun t191 => (some t191)) else (some false)) = some r := by rw [if_pos rfl] at H; exact H
           clear H
           have H := H1
           clear H1
           by_cases c32 : (((rd_T39 l0_0 a0_1).f5).length : Int) = 0
           ·rw [if_pos c32] at H
            have c32b0 : ((((rd_T39 l0_0 a0_1).f5).length : Int) == 0) = true := beq_iff_eq.mpr c32
            have c32b1 : ((((rd_T39 l0_0 a0_1).f5).length : Int) != 0) = false := bne_eq_false_iff_eq.mpr c32
            clear c32
            replace H := Option.bind_eq_some_iff.mp H
            obtain ⟨t191, A330, H⟩ := H
            replace H : (some t191) = some r := H
            have A33 := aM A330
            clear A330
            obtain rfl := Option.some.inj H
            have hx169_0 := HX9000_0.out
            have hx169_1 := HX9000_1.out
            have hx169_2 := HX9000_2.out
            have hx169_3 := HX9000_3.out
            have hx169_4 := HX9000_4.out
            have hx169_5 := HX9000_5.out
            have hx169_6 := HX9000_6.out
            replace hx169_0 := cB HB.out hx169_0
            replace hx169_1 := cB HB.out hx169_1
            replace hx169_2 := cB HB.out hx169_2
            replace hx169_3 := cB HB.out hx169_3
            replace hx169_4 := cB HB.out hx169_4
            replace hx169_5 := cB HB.out hx169_5
            replace hx169_6 := cB HB.out hx169_6
            have HR169_2 := HR9000_2
            have HC169_2 := HC9000_2
            have HR169_3 := HR9000_3
            have HC169_3 := HC9000_3
            have HR169_4 := HR9000_4
            have HC169_4 := HC9000_4
            have HR169_5 := HR9000_5
            have HC169_5 := HC9000_5
            go_wp2_with (first | ((with_reducible refine gate_callee (f := 53) rfl ?_); refine goesL_ (some 31) rfl rfl Try.func53 (by kernel_rfl) rfl #[.string ((rd_T39 l0_0 a0_1).f1)] rfl gQ ?_; (with_reducible refine (spec_IsName.calls kj2 ((rd_T39 l0_0 a0_1).f1) t170 _ A8.out).mono ?_); rintro e w' ⟨rfl, ⟨nd, rfl⟩⟩; refine ⟨_, rfl, ?_⟩; have hx171_0 := HX9000_0.out; have hx171_1 := HX9000_1.out; have hx171_2 := HX9000_2.out; have hx171_3 := HX9000_3.out; have hx171_4 := HX9000_4.out; have hx171_5 := HX9000_5.out; have hx171_6 := HX9000_6.out; replace hx171_0 := cB HB.out hx171_0; replace hx171_1 := cB HB.out hx171_1; replace hx171_2 := cB HB.out hx171_2; replace hx171_3 := cB HB.out hx171_3; replace hx171_4 := cB HB.out hx171_4; replace hx171_5 := cB HB.out hx171_5; replace hx171_6 := cB HB.out hx171_6; have HR171_2 := HR9000_2; have HC171_2 := HC9000_2; have HR171_3 := HR9000_3; have HC171_3 := HC9000_3; have HR171_4 := HR9000_4; have HC171_4 := HC9000_4; have HR171_5 := HR9000_5; have HC171_5 := HC9000_5; have hx172_0 := HX9000_0.out; have hx172_1 := HX9000_1.out; have hx172_2 := HX9000_2.out; have hx172_3 := HX9000_3.out; have hx172_4 := HX9000_4.out; have hx172_5 := HX9000_5.out; have hx172_6 := HX9000_6.out; replace hx172_0 := cB HB.out hx172_0; replace hx172_1 := cB HB.out hx172_1; replace hx172_2 := cB HB.out hx172_2; replace hx172_3 := cB HB.out hx172_3; replace hx172_4 := cB HB.out hx172_4; replace hx172_5 := cB HB.out hx172_5; replace hx172_6 := cB HB.out hx172_6; have HR172_2 := HR9000_2; have HC172_2 := HC9000_2; have HR172_3 := HR9000_3; have HC172_3 := HC9000_3; have HR172_4 := HR9000_4; have HC172_4 := HC9000_4; have HR172_5 := HR9000_5; have HC172_5 := HC9000_5; have hx187_0 := HX9000_0.out; have hx187_1 := HX9000_1.out; have hx187_2 := HX9000_2.out; have hx187_3 := HX9000_3.out; have hx187_4 := HX9000_4.out; have hx187_5 := HX9000_5.out; have hx187_6 := HX9000_6.out; replace hx187_0 := cB HB.out hx187_0; replace hx187_1 := cB HB.out hx187_1; replace hx187_2 := cB HB.out hx187_2; replace hx187_3 := cB HB.out hx187_3; replace hx187_4 := cB HB.out hx187_4; replace hx187_5 := cB HB.out hx187_5; replace hx187_6 := cB HB.out hx187_6; have HR187_2 := HR9000_2; have HC187_2 := HC9000_2; have HR187_3 := HR9000_3; have HC187_3 := HC9000_3; have HR187_4 := HR9000_4; have HC187_4 := HC9000_4; have HR187_5 := HR9000_5; have HC187_5 := HC9000_5; have hx188_0 := HX9000_0.out; have hx188_1 := HX9000_1.out; have hx188_2 := HX9000_2.out; have hx188_3 := HX9000_3.out; have hx188_4 := HX9000_4.out; have hx188_5 := HX9000_5.out; have hx188_6 := HX9000_6.out; replace hx188_0 := cB HB.out hx188_0; replace hx188_1 := cB HB.out hx188_1; replace hx188_2 := cB HB.out hx188_2; replace hx188_3 := cB HB.out hx188_3; replace hx188_4 := cB HB.out hx188_4; replace hx188_5 := cB HB.out hx188_5; replace hx188_6 := cB HB.out hx188_6; have HR188_2 := HR9000_2; have HC188_2 := HC9000_2; have HR188_3 := HR9000_3; have HC188_3 := HC9000_3; have HR188_4 := HR9000_4; have HC188_4 := HC9000_4; have HR188_5 := HR9000_5; have HC188_5 := HC9000_5) | (go_at_call 52; (with_reducible refine (spec_l24Items.calls kj2 _ _ ((rd_T39 l0_0 a0_1).f3) 2 2 true _ ?side1 ?side2 A30.out).mono ?_); (case side1 => exact cQ HR188_3.out); (case side2 => exact HC188_3.out); rintro e w' ⟨rfl, ⟨nd, rfl⟩⟩; have hx190_0 := HX9000_0.out; have hx190_1 := HX9000_1.out; have hx190_2 := HX9000_2.out; have hx190_3 := HX9000_3.out; have hx190_4 := HX9000_4.out; have hx190_5 := HX9000_5.out; have hx190_6 := HX9000_6.out; replace hx190_0 := cB HB.out hx190_0; replace hx190_1 := cB HB.out hx190_1; replace hx190_2 := cB HB.out hx190_2; replace hx190_3 := cB HB.out hx190_3; replace hx190_4 := cB HB.out hx190_4; replace hx190_5 := cB HB.out hx190_5; replace hx190_6 := cB HB.out hx190_6; have HR190_2 := HR9000_2; have HC190_2 := HC9000_2; have HR190_3 := HR9000_3; have HC190_3 := HC9000_3; have HR190_4 := HR9000_4; have HC190_4 := HC9000_4; have HR190_5 := HR9000_5; have HC190_5 := HC9000_5) | (go_at_call 54; (with_reducible refine (spec_l00In.calls ((rd_T39 l0_0 a0_1).f6) (-262144) 262144 t191 _ A33.out).mono ?_); rintro e w' ⟨rfl, ⟨nd, rfl⟩⟩))
            go_ret
            exact ⟨eQ, bQ⟩
           ·rw [if_neg c32] at H
            have c32b0 : ((((rd_T39 l0_0 a0_1).f5).length : Int) == 0) = false := beq_eq_false_iff_ne.mpr c32
            have c32b1 : ((((rd_T39 l0_0 a0_1).f5).length : Int) != 0) = true := bne_iff_ne.mpr c32
            have c32b2 : ¬ (((rd_T39 l0_0 a0_1).f5) = []) := fun h_ => c32 (by rw [h_]; rfl)
            obtain rfl := Option.some.inj H
            have hx169_0 := HX9000_0.out
            have hx169_1 := HX9000_1.out
            have hx169_2 := HX9000_2.out
            have hx169_3 := HX9000_3.out
            have hx169_4 := HX9000_4.out
            have hx169_5 := HX9000_5.out
            have hx169_6 := HX9000_6.out
            replace hx169_0 := cB HB.out hx169_0
            replace hx169_1 := cB HB.out hx169_1
            replace hx169_2 := cB HB.out hx169_2
            replace hx169_3 := cB HB.out hx169_3
            replace hx169_4 := cB HB.out hx169_4
            replace hx169_5 := cB HB.out hx169_5
            replace hx169_6 := cB HB.out hx169_6
            have HR169_2 := HR9000_2
            have HC169_2 := HC9000_2
            have HR169_3 := HR9000_3
            have HC169_3 := HC9000_3
            have HR169_4 := HR9000_4
            have HC169_4 := HC9000_4
            have HR169_5 := HR9000_5
            have HC169_5 := HC9000_5
            go_wp2_with (first | ((with_reducible refine gate_callee (f := 53) rfl ?_); refine goesL_ (some 31) rfl rfl Try.func53 (by kernel_rfl) rfl #[.string ((rd_T39 l0_0 a0_1).f1)] rfl gQ ?_; (with_reducible refine (spec_IsName.calls kj2 ((rd_T39 l0_0 a0_1).f1) t170 _ A8.out).mono ?_); rintro e w' ⟨rfl, ⟨nd, rfl⟩⟩; refine ⟨_, rfl, ?_⟩; have hx171_0 := HX9000_0.out; have hx171_1 := HX9000_1.out; have hx171_2 := HX9000_2.out; have hx171_3 := HX9000_3.out; have hx171_4 := HX9000_4.out; have hx171_5 := HX9000_5.out; have hx171_6 := HX9000_6.out; replace hx171_0 := cB HB.out hx171_0; replace hx171_1 := cB HB.out hx171_1; replace hx171_2 := cB HB.out hx171_2; replace hx171_3 := cB HB.out hx171_3; replace hx171_4 := cB HB.out hx171_4; replace hx171_5 := cB HB.out hx171_5; replace hx171_6 := cB HB.out hx171_6; have HR171_2 := HR9000_2; have HC171_2 := HC9000_2; have HR171_3 := HR9000_3; have HC171_3 := HC9000_3; have HR171_4 := HR9000_4; have HC171_4 := HC9000_4; have HR171_5 := HR9000_5; have HC171_5 := HC9000_5; have hx172_0 := HX9000_0.out; have hx172_1 := HX9000_1.out; have hx172_2 := HX9000_2.out; have hx172_3 := HX9000_3.out; have hx172_4 := HX9000_4.out; have hx172_5 := HX9000_5.out; have hx172_6 := HX9000_6.out; replace hx172_0 := cB HB.out hx172_0; replace hx172_1 := cB HB.out hx172_1; replace hx172_2 := cB HB.out hx172_2; replace hx172_3 := cB HB.out hx172_3; replace hx172_4 := cB HB.out hx172_4; replace hx172_5 := cB HB.out hx172_5; replace hx172_6 := cB HB.out hx172_6; have HR172_2 := HR9000_2; have HC172_2 := HC9000_2; have HR172_3 := HR9000_3; have HC172_3 := HC9000_3; have HR172_4 := HR9000_4; have HC172_4 := HC9000_4; have HR172_5 := HR9000_5; have HC172_5 := HC9000_5; have hx187_0 := HX9000_0.out; have hx187_1 := HX9000_1.out; have hx187_2 := HX9000_2.out; have hx187_3 := HX9000_3.out; have hx187_4 := HX9000_4.out; have hx187_5 := HX9000_5.out; have hx187_6 := HX9000_6.out; replace hx187_0 := cB HB.out hx187_0; replace hx187_1 := cB HB.out hx187_1; replace hx187_2 := cB HB.out hx187_2; replace hx187_3 := cB HB.out hx187_3; replace hx187_4 := cB HB.out hx187_4; replace hx187_5 := cB HB.out hx187_5; replace hx187_6 := cB HB.out hx187_6; have HR187_2 := HR9000_2; have HC187_2 := HC9000_2; have HR187_3 := HR9000_3; have HC187_3 := HC9000_3; have HR187_4 := HR9000_4; have HC187_4 := HC9000_4; have HR187_5 := HR9000_5; have HC187_5 := HC9000_5; have hx188_0 := HX9000_0.out; have hx188_1 := HX9000_1.out; have hx188_2 := HX9000_2.out; have hx188_3 := HX9000_3.out; have hx188_4 := HX9000_4.out; have hx188_5 := HX9000_5.out; have hx188_6 := HX9000_6.out; replace hx188_0 := cB HB.out hx188_0; replace hx188_1 := cB HB.out hx188_1; replace hx188_2 := cB HB.out hx188_2; replace hx188_3 := cB HB.out hx188_3; replace hx188_4 := cB HB.out hx188_4; replace hx188_5 := cB HB.out hx188_5; replace hx188_6 := cB HB.out hx188_6; have HR188_2 := HR9000_2; have HC188_2 := HC9000_2; have HR188_3 := HR9000_3; have HC188_3 := HC9000_3; have HR188_4 := HR9000_4; have HC188_4 := HC9000_4; have HR188_5 := HR9000_5; have HC188_5 := HC9000_5) | (go_at_call 52; (with_reducible refine (spec_l24Items.calls kj2 _ _ ((rd_T39 l0_0 a0_1).f3) 2 2 true _ ?side1 ?side2 A30.out).mono ?_); (case side1 => exact cQ HR188_3.out); (case side2 => exact HC188_3.out); rintro e w' ⟨rfl, ⟨nd, rfl⟩⟩))
            go_ret
            exact ⟨eQ, bQ⟩
          ·replace c31 := Bool.eq_false_iff.mpr c31
           subst c31
           have H1 : (some false) = some r := by rw [if_neg (show ¬ (false = true) by decide)] at H; exact H
           clear H
           have H := H1
           clear H1
           obtain rfl := Option.some.inj H
           have hx169_0 := HX9000_0.out
           have hx169_1 := HX9000_1.out
           have hx169_2 := HX9000_2.out
           have hx169_3 := HX9000_3.out
           have hx169_4 := HX9000_4.out
           have hx169_5 := HX9000_5.out
           have hx169_6 := HX9000_6.out
           replace hx169_0 := cB HB.out hx169_0
           replace hx169_1 := cB HB.out hx169_1
           replace hx169_2 := cB HB.out hx169_2
           replace hx169_3 := cB HB.out hx169_3
           replace hx169_4 := cB HB.out hx169_4
           replace hx169_5 := cB HB.out hx169_5
           replace hx169_6 := cB HB.out hx169_6
           have HR169_2 := HR9000_2
           have HC169_2 := HC9000_2
           have HR169_3 := HR9000_3
           have HC169_3 := HC9000_3
           have HR169_4 := HR9000_4
           have HC169_4 := HC9000_4
           have HR169_5 := HR9000_5
           have HC169_5 := HC9000_5
           go_wp2_with (first | ((with_reducible refine gate_callee (f := 53) rfl ?_); refine goesL_ (some 31) rfl rfl Try.func53 (by kernel_rfl) rfl #[.string ((rd_T39 l0_0 a0_1).f1)] rfl gQ ?_; (with_reducible refine (spec_IsName.calls kj2 ((rd_T39 l0_0 a0_1).f1) t170 _ A8.out).mono ?_); rintro e w' ⟨rfl, ⟨nd, rfl⟩⟩; refine ⟨_, rfl, ?_⟩; have hx171_0 := HX9000_0.out; have hx171_1 := HX9000_1.out; have hx171_2 := HX9000_2.out; have hx171_3 := HX9000_3.out; have hx171_4 := HX9000_4.out; have hx171_5 := HX9000_5.out; have hx171_6 := HX9000_6.out; replace hx171_0 := cB HB.out hx171_0; replace hx171_1 := cB HB.out hx171_1; replace hx171_2 := cB HB.out hx171_2; replace hx171_3 := cB HB.out hx171_3; replace hx171_4 := cB HB.out hx171_4; replace hx171_5 := cB HB.out hx171_5; replace hx171_6 := cB HB.out hx171_6; have HR171_2 := HR9000_2; have HC171_2 := HC9000_2; have HR171_3 := HR9000_3; have HC171_3 := HC9000_3; have HR171_4 := HR9000_4; have HC171_4 := HC9000_4; have HR171_5 := HR9000_5; have HC171_5 := HC9000_5; have hx172_0 := HX9000_0.out; have hx172_1 := HX9000_1.out; have hx172_2 := HX9000_2.out; have hx172_3 := HX9000_3.out; have hx172_4 := HX9000_4.out; have hx172_5 := HX9000_5.out; have hx172_6 := HX9000_6.out; replace hx172_0 := cB HB.out hx172_0; replace hx172_1 := cB HB.out hx172_1; replace hx172_2 := cB HB.out hx172_2; replace hx172_3 := cB HB.out hx172_3; replace hx172_4 := cB HB.out hx172_4; replace hx172_5 := cB HB.out hx172_5; replace hx172_6 := cB HB.out hx172_6; have HR172_2 := HR9000_2; have HC172_2 := HC9000_2; have HR172_3 := HR9000_3; have HC172_3 := HC9000_3; have HR172_4 := HR9000_4; have HC172_4 := HC9000_4; have HR172_5 := HR9000_5; have HC172_5 := HC9000_5; have hx187_0 := HX9000_0.out; have hx187_1 := HX9000_1.out; have hx187_2 := HX9000_2.out; have hx187_3 := HX9000_3.out; have hx187_4 := HX9000_4.out; have hx187_5 := HX9000_5.out; have hx187_6 := HX9000_6.out; replace hx187_0 := cB HB.out hx187_0; replace hx187_1 := cB HB.out hx187_1; replace hx187_2 := cB HB.out hx187_2; replace hx187_3 := cB HB.out hx187_3; replace hx187_4 := cB HB.out hx187_4; replace hx187_5 := cB HB.out hx187_5; replace hx187_6 := cB HB.out hx187_6; have HR187_2 := HR9000_2; have HC187_2 := HC9000_2; have HR187_3 := HR9000_3; have HC187_3 := HC9000_3; have HR187_4 := HR9000_4; have HC187_4 := HC9000_4; have HR187_5 := HR9000_5; have HC187_5 := HC9000_5; have hx188_0 := HX9000_0.out; have hx188_1 := HX9000_1.out; have hx188_2 := HX9000_2.out; have hx188_3 := HX9000_3.out; have hx188_4 := HX9000_4.out; have hx188_5 := HX9000_5.out; have hx188_6 := HX9000_6.out; replace hx188_0 := cB HB.out hx188_0; replace hx188_1 := cB HB.out hx188_1; replace hx188_2 := cB HB.out hx188_2; replace hx188_3 := cB HB.out hx188_3; replace hx188_4 := cB HB.out hx188_4; replace hx188_5 := cB HB.out hx188_5; replace hx188_6 := cB HB.out hx188_6; have HR188_2 := HR9000_2; have HC188_2 := HC9000_2; have HR188_3 := HR9000_3; have HC188_3 := HC9000_3; have HR188_4 := HR9000_4; have HC188_4 := HC9000_4; have HR188_5 := HR9000_5; have HC188_5 := HC9000_5) | (go_at_call 52; (with_reducible refine (spec_l24Items.calls kj2 _ _ ((rd_T39 l0_0 a0_1).f3) 2 2 false _ ?side1 ?side2 A30.out).mono ?_); (case side1 => exact cQ HR188_3.out); (case side2 => exact HC188_3.out); rintro e w' ⟨rfl, ⟨nd, rfl⟩⟩))
           go_ret
           exact ⟨eQ, bQ⟩
         ·rw [if_neg c29] at H
          have c29b0 : (((rd_T39 l0_0 a0_1).f1).toList == ([] : List UInt8)) = false := beq_eq_false_iff_ne.mpr c29
          have c29b1 : (((rd_T39 l0_0 a0_1).f1).toList != ([] : List UInt8)) = true := bne_iff_ne.mpr c29
          obtain rfl := Option.some.inj H
          have hx169_0 := HX9000_0.out
          have hx169_1 := HX9000_1.out
          have hx169_2 := HX9000_2.out
          have hx169_3 := HX9000_3.out
          have hx169_4 := HX9000_4.out
          have hx169_5 := HX9000_5.out
          have hx169_6 := HX9000_6.out
          replace hx169_0 := cB HB.out hx169_0
          replace hx169_1 := cB HB.out hx169_1
          replace hx169_2 := cB HB.out hx169_2
          replace hx169_3 := cB HB.out hx169_3
          replace hx169_4 := cB HB.out hx169_4
          replace hx169_5 := cB HB.out hx169_5
          replace hx169_6 := cB HB.out hx169_6
          have HR169_2 := HR9000_2
          have HC169_2 := HC9000_2
          have HR169_3 := HR9000_3
          have HC169_3 := HC9000_3
          have HR169_4 := HR9000_4
          have HC169_4 := HC9000_4
          have HR169_5 := HR9000_5
          have HC169_5 := HC9000_5
          go_wp2_with (first | ((with_reducible refine gate_callee (f := 53) rfl ?_); refine goesL_ (some 31) rfl rfl Try.func53 (by kernel_rfl) rfl #[.string ((rd_T39 l0_0 a0_1).f1)] rfl gQ ?_; (with_reducible refine (spec_IsName.calls kj2 ((rd_T39 l0_0 a0_1).f1) t170 _ A8.out).mono ?_); rintro e w' ⟨rfl, ⟨nd, rfl⟩⟩; refine ⟨_, rfl, ?_⟩; have hx171_0 := HX9000_0.out; have hx171_1 := HX9000_1.out; have hx171_2 := HX9000_2.out; have hx171_3 := HX9000_3.out; have hx171_4 := HX9000_4.out; have hx171_5 := HX9000_5.out; have hx171_6 := HX9000_6.out; replace hx171_0 := cB HB.out hx171_0; replace hx171_1 := cB HB.out hx171_1; replace hx171_2 := cB HB.out hx171_2; replace hx171_3 := cB HB.out hx171_3; replace hx171_4 := cB HB.out hx171_4; replace hx171_5 := cB HB.out hx171_5; replace hx171_6 := cB HB.out hx171_6; have HR171_2 := HR9000_2; have HC171_2 := HC9000_2; have HR171_3 := HR9000_3; have HC171_3 := HC9000_3; have HR171_4 := HR9000_4; have HC171_4 := HC9000_4; have HR171_5 := HR9000_5; have HC171_5 := HC9000_5; have hx172_0 := HX9000_0.out; have hx172_1 := HX9000_1.out; have hx172_2 := HX9000_2.out; have hx172_3 := HX9000_3.out; have hx172_4 := HX9000_4.out; have hx172_5 := HX9000_5.out; have hx172_6 := HX9000_6.out; replace hx172_0 := cB HB.out hx172_0; replace hx172_1 := cB HB.out hx172_1; replace hx172_2 := cB HB.out hx172_2; replace hx172_3 := cB HB.out hx172_3; replace hx172_4 := cB HB.out hx172_4; replace hx172_5 := cB HB.out hx172_5; replace hx172_6 := cB HB.out hx172_6; have HR172_2 := HR9000_2; have HC172_2 := HC9000_2; have HR172_3 := HR9000_3; have HC172_3 := HC9000_3; have HR172_4 := HR9000_4; have HC172_4 := HC9000_4; have HR172_5 := HR9000_5; have HC172_5 := HC9000_5; have hx187_0 := HX9000_0.out; have hx187_1 := HX9000_1.out; have hx187_2 := HX9000_2.out; have hx187_3 := HX9000_3.out; have hx187_4 := HX9000_4.out; have hx187_5 := HX9000_5.out; have hx187_6 := HX9000_6.out; replace hx187_0 := cB HB.out hx187_0; replace hx187_1 := cB HB.out hx187_1; replace hx187_2 := cB HB.out hx187_2; replace hx187_3 := cB HB.out hx187_3; replace hx187_4 := cB HB.out hx187_4; replace hx187_5 := cB HB.out hx187_5; replace hx187_6 := cB HB.out hx187_6; have HR187_2 := HR9000_2; have HC187_2 := HC9000_2; have HR187_3 := HR9000_3; have HC187_3 := HC9000_3; have HR187_4 := HR9000_4; have HC187_4 := HC9000_4; have HR187_5 := HR9000_5; have HC187_5 := HC9000_5))
          go_ret
          exact ⟨eQ, bQ⟩
        ·rw [if_neg c28] at H
         have c28b0 : (((rd_T39 l0_0 a0_1).f0) == 5) = false := beq_eq_false_iff_ne.mpr c28
         have c28b1 : (((rd_T39 l0_0 a0_1).f0) != 5) = true := bne_iff_ne.mpr c28
         by_cases c34 : ((rd_T39 l0_0 a0_1).f0) = 6
         ·rw [if_pos c34] at H
          have c34b0 : (((rd_T39 l0_0 a0_1).f0) == 6) = true := beq_iff_eq.mpr c34
          have c34b1 : (((rd_T39 l0_0 a0_1).f0) != 6) = false := bne_eq_false_iff_eq.mpr c34
          clear c34
          by_cases c35 : t170 = true
          ·subst c35
           have H1 : ((spec_l24Items.f kj2 ((rd_T39 l0_0 a0_1).f3) 2 2).bind fun t193 => (if t193 = true then (if (((rd_T39 l0_0 a0_1).f5).length : Int) = 0 then (some (((rd_T39 l0_0 a0_1).f6) == 0)) else (some false)) else (some false))) = some r := by rw [if_pos rfl] at H; exact H
           clear H
           have H := H1
           clear H1
           replace H := Option.bind_eq_some_iff.mp H
           obtain ⟨t193, A360, H⟩ := H
           replace H : (if t193 = true then (if (((rd_T39 l0_0 a0_1).f5).length : Int) = 0 then (some (((rd_T39 l0_0 a0_1).f6) == 0)) else (some false)) else (some false)) = some r := H
           have A36 := aM A360
           clear A360
           by_cases c37 : t193 = true
           ·subst c37
            have H1 : (if (((rd_T39 l0_0 a0_1).f5).length : Int) = 0 then (some (((rd_T39 l0_0 a0_1).f6) == 0)) else (some false)) = some r := by rw [if_pos rfl] at H; exact H
            clear H
            have H := H1
            clear H1
            by_cases c38 : (((rd_T39 l0_0 a0_1).f5).length : Int) = 0
            ·rw [if_pos c38] at H
             have c38b0 : ((((rd_T39 l0_0 a0_1).f5).length : Int) == 0) = true := beq_iff_eq.mpr c38
             have c38b1 : ((((rd_T39 l0_0 a0_1).f5).length : Int) != 0) = false := bne_eq_false_iff_eq.mpr c38
             clear c38
             obtain rfl := Option.some.inj H
             have hx169_0 := HX9000_0.out
             have hx169_1 := HX9000_1.out
             have hx169_2 := HX9000_2.out
             have hx169_3 := HX9000_3.out
             have hx169_4 := HX9000_4.out
             have hx169_5 := HX9000_5.out
             have hx169_6 := HX9000_6.out
             replace hx169_0 := cB HB.out hx169_0
             replace hx169_1 := cB HB.out hx169_1
             replace hx169_2 := cB HB.out hx169_2
             replace hx169_3 := cB HB.out hx169_3
             replace hx169_4 := cB HB.out hx169_4
             replace hx169_5 := cB HB.out hx169_5
             replace hx169_6 := cB HB.out hx169_6
             have HR169_2 := HR9000_2
             have HC169_2 := HC9000_2
             have HR169_3 := HR9000_3
             have HC169_3 := HC9000_3
             have HR169_4 := HR9000_4
             have HC169_4 := HC9000_4
             have HR169_5 := HR9000_5
             have HC169_5 := HC9000_5
             go_wp2_with (first | ((with_reducible refine gate_callee (f := 53) rfl ?_); refine goesL_ (some 31) rfl rfl Try.func53 (by kernel_rfl) rfl #[.string ((rd_T39 l0_0 a0_1).f1)] rfl gQ ?_; (with_reducible refine (spec_IsName.calls kj2 ((rd_T39 l0_0 a0_1).f1) true _ A8.out).mono ?_); rintro e w' ⟨rfl, ⟨nd, rfl⟩⟩; refine ⟨_, rfl, ?_⟩; have hx171_0 := HX9000_0.out; have hx171_1 := HX9000_1.out; have hx171_2 := HX9000_2.out; have hx171_3 := HX9000_3.out; have hx171_4 := HX9000_4.out; have hx171_5 := HX9000_5.out; have hx171_6 := HX9000_6.out; replace hx171_0 := cB HB.out hx171_0; replace hx171_1 := cB HB.out hx171_1; replace hx171_2 := cB HB.out hx171_2; replace hx171_3 := cB HB.out hx171_3; replace hx171_4 := cB HB.out hx171_4; replace hx171_5 := cB HB.out hx171_5; replace hx171_6 := cB HB.out hx171_6; have HR171_2 := HR9000_2; have HC171_2 := HC9000_2; have HR171_3 := HR9000_3; have HC171_3 := HC9000_3; have HR171_4 := HR9000_4; have HC171_4 := HC9000_4; have HR171_5 := HR9000_5; have HC171_5 := HC9000_5; have hx172_0 := HX9000_0.out; have hx172_1 := HX9000_1.out; have hx172_2 := HX9000_2.out; have hx172_3 := HX9000_3.out; have hx172_4 := HX9000_4.out; have hx172_5 := HX9000_5.out; have hx172_6 := HX9000_6.out; replace hx172_0 := cB HB.out hx172_0; replace hx172_1 := cB HB.out hx172_1; replace hx172_2 := cB HB.out hx172_2; replace hx172_3 := cB HB.out hx172_3; replace hx172_4 := cB HB.out hx172_4; replace hx172_5 := cB HB.out hx172_5; replace hx172_6 := cB HB.out hx172_6; have HR172_2 := HR9000_2; have HC172_2 := HC9000_2; have HR172_3 := HR9000_3; have HC172_3 := HC9000_3; have HR172_4 := HR9000_4; have HC172_4 := HC9000_4; have HR172_5 := HR9000_5; have HC172_5 := HC9000_5; have hx192_0 := HX9000_0.out; have hx192_1 := HX9000_1.out; have hx192_2 := HX9000_2.out; have hx192_3 := HX9000_3.out; have hx192_4 := HX9000_4.out; have hx192_5 := HX9000_5.out; have hx192_6 := HX9000_6.out; replace hx192_0 := cB HB.out hx192_0; replace hx192_1 := cB HB.out hx192_1; replace hx192_2 := cB HB.out hx192_2; replace hx192_3 := cB HB.out hx192_3; replace hx192_4 := cB HB.out hx192_4; replace hx192_5 := cB HB.out hx192_5; replace hx192_6 := cB HB.out hx192_6; have HR192_2 := HR9000_2; have HC192_2 := HC9000_2; have HR192_3 := HR9000_3; have HC192_3 := HC9000_3; have HR192_4 := HR9000_4; have HC192_4 := HC9000_4; have HR192_5 := HR9000_5; have HC192_5 := HC9000_5) | (go_at_call 52; (with_reducible refine (spec_l24Items.calls kj2 _ _ ((rd_T39 l0_0 a0_1).f3) 2 2 true _ ?side1 ?side2 A36.out).mono ?_); (case side1 => exact cQ HR192_3.out); (case side2 => exact HC192_3.out); rintro e w' ⟨rfl, ⟨nd, rfl⟩⟩; have hx194_0 := HX9000_0.out; have hx194_1 := HX9000_1.out; have hx194_2 := HX9000_2.out; have hx194_3 := HX9000_3.out; have hx194_4 := HX9000_4.out; have hx194_5 := HX9000_5.out; have hx194_6 := HX9000_6.out; replace hx194_0 := cB HB.out hx194_0; replace hx194_1 := cB HB.out hx194_1; replace hx194_2 := cB HB.out hx194_2; replace hx194_3 := cB HB.out hx194_3; replace hx194_4 := cB HB.out hx194_4; replace hx194_5 := cB HB.out hx194_5; replace hx194_6 := cB HB.out hx194_6; have HR194_2 := HR9000_2; have HC194_2 := HC9000_2; have HR194_3 := HR9000_3; have HC194_3 := HC9000_3; have HR194_4 := HR9000_4; have HC194_4 := HC9000_4; have HR194_5 := HR9000_5; have HC194_5 := HC9000_5))
             go_ret
             exact ⟨eQ, bQ⟩
            ·rw [if_neg c38] at H
             have c38b0 : ((((rd_T39 l0_0 a0_1).f5).length : Int) == 0) = false := beq_eq_false_iff_ne.mpr c38
             have c38b1 : ((((rd_T39 l0_0 a0_1).f5).length : Int) != 0) = true := bne_iff_ne.mpr c38
             have c38b2 : ¬ (((rd_T39 l0_0 a0_1).f5) = []) := fun h_ => c38 (by rw [h_]; rfl)
             obtain rfl := Option.some.inj H
             have hx169_0 := HX9000_0.out
             have hx169_1 := HX9000_1.out
             have hx169_2 := HX9000_2.out
             have hx169_3 := HX9000_3.out
             have hx169_4 := HX9000_4.out
             have hx169_5 := HX9000_5.out
             have hx169_6 := HX9000_6.out
             replace hx169_0 := cB HB.out hx169_0
             replace hx169_1 := cB HB.out hx169_1
             replace hx169_2 := cB HB.out hx169_2
             replace hx169_3 := cB HB.out hx169_3
             replace hx169_4 := cB HB.out hx169_4
             replace hx169_5 := cB HB.out hx169_5
             replace hx169_6 := cB HB.out hx169_6
             have HR169_2 := HR9000_2
             have HC169_2 := HC9000_2
             have HR169_3 := HR9000_3
             have HC169_3 := HC9000_3
             have HR169_4 := HR9000_4
             have HC169_4 := HC9000_4
             have HR169_5 := HR9000_5
             have HC169_5 := HC9000_5
             go_wp2_with (first | ((with_reducible refine gate_callee (f := 53) rfl ?_); refine goesL_ (some 31) rfl rfl Try.func53 (by kernel_rfl) rfl #[.string ((rd_T39 l0_0 a0_1).f1)] rfl gQ ?_; (with_reducible refine (spec_IsName.calls kj2 ((rd_T39 l0_0 a0_1).f1) true _ A8.out).mono ?_); rintro e w' ⟨rfl, ⟨nd, rfl⟩⟩; refine ⟨_, rfl, ?_⟩; have hx171_0 := HX9000_0.out; have hx171_1 := HX9000_1.out; have hx171_2 := HX9000_2.out; have hx171_3 := HX9000_3.out; have hx171_4 := HX9000_4.out; have hx171_5 := HX9000_5.out; have hx171_6 := HX9000_6.out; replace hx171_0 := cB HB.out hx171_0; replace hx171_1 := cB HB.out hx171_1; replace hx171_2 := cB HB.out hx171_2; replace hx171_3 := cB HB.out hx171_3; replace hx171_4 := cB HB.out hx171_4; replace hx171_5 := cB HB.out hx171_5; replace hx171_6 := cB HB.out hx171_6; have HR171_2 := HR9000_2; have HC171_2 := HC9000_2; have HR171_3 := HR9000_3; have HC171_3 := HC9000_3; have HR171_4 := HR9000_4; have HC171_4 := HC9000_4; have HR171_5 := HR9000_5; have HC171_5 := HC9000_5; have hx172_0 := HX9000_0.out; have hx172_1 := HX9000_1.out; have hx172_2 := HX9000_2.out; have hx172_3 := HX9000_3.out; have hx172_4 := HX9000_4.out; have hx172_5 := HX9000_5.out; have hx172_6 := HX9000_6.out; replace hx172_0 := cB HB.out hx172_0; replace hx172_1 := cB HB.out hx172_1; replace hx172_2 := cB HB.out hx172_2; replace hx172_3 := cB HB.out hx172_3; replace hx172_4 := cB HB.out hx172_4; replace hx172_5 := cB HB.out hx172_5; replace hx172_6 := cB HB.out hx172_6; have HR172_2 := HR9000_2; have HC172_2 := HC9000_2; have HR172_3 := HR9000_3; have HC172_3 := HC9000_3; have HR172_4 := HR9000_4; have HC172_4 := HC9000_4; have HR172_5 := HR9000_5; have HC172_5 := HC9000_5; have hx192_0 := HX9000_0.out; have hx192_1 := HX9000_1.out; have hx192_2 := HX9000_2.out; have hx192_3 := HX9000_3.out; have hx192_4 := HX9000_4.out; have hx192_5 := HX9000_5.out; have hx192_6 := HX9000_6.out; replace hx192_0 := cB HB.out hx192_0; replace hx192_1 := cB HB.out hx192_1; replace hx192_2 := cB HB.out hx192_2; replace hx192_3 := cB HB.out hx192_3; replace hx192_4 := cB HB.out hx192_4; replace hx192_5 := cB HB.out hx192_5; replace hx192_6 := cB HB.out hx192_6; have HR192_2 := HR9000_2; have HC192_2 := HC9000_2; have HR192_3 := HR9000_3; have HC192_3 := HC9000_3; have HR192_4 := HR9000_4; have HC192_4 := HC9000_4; have HR192_5 := HR9000_5; have HC192_5 := HC9000_5) | (go_at_call 52; (with_reducible refine (spec_l24Items.calls kj2 _ _ ((rd_T39 l0_0 a0_1).f3) 2 2 true _ ?side1 ?side2 A36.out).mono ?_); (case side1 => exact cQ HR192_3.out); (case side2 => exact HC192_3.out); rintro e w' ⟨rfl, ⟨nd, rfl⟩⟩))
             go_ret
             exact ⟨eQ, bQ⟩
           ·replace c37 := Bool.eq_false_iff.mpr c37
            subst c37
            have H1 : (some false) = some r := by rw [if_neg (show ¬ (false = true) by decide)] at H; exact H
            clear H
            have H := H1
            clear H1
            obtain rfl := Option.some.inj H
            have hx169_0 := HX9000_0.out
            have hx169_1 := HX9000_1.out
            have hx169_2 := HX9000_2.out
            have hx169_3 := HX9000_3.out
            have hx169_4 := HX9000_4.out
            have hx169_5 := HX9000_5.out
            have hx169_6 := HX9000_6.out
            replace hx169_0 := cB HB.out hx169_0
            replace hx169_1 := cB HB.out hx169_1
            replace hx169_2 := cB HB.out hx169_2
            replace hx169_3 := cB HB.out hx169_3
            replace hx169_4 := cB HB.out hx169_4
            replace hx169_5 := cB HB.out hx169_5
            replace hx169_6 := cB HB.out hx169_6
            have HR169_2 := HR9000_2
            have HC169_2 := HC9000_2
            have HR169_3 := HR9000_3
            have HC169_3 := HC9000_3
            have HR169_4 := HR9000_4
            have HC169_4 := HC9000_4
            have HR169_5 := HR9000_5
            have HC169_5 := HC9000_5
            go_wp2_with (first | ((with_reducible refine gate_callee (f := 53) rfl ?_); refine goesL_ (some 31) rfl rfl Try.func53 (by kernel_rfl) rfl #[.string ((rd_T39 l0_0 a0_1).f1)] rfl gQ ?_; (with_reducible refine (spec_IsName.calls kj2 ((rd_T39 l0_0 a0_1).f1) true _ A8.out).mono ?_); rintro e w' ⟨rfl, ⟨nd, rfl⟩⟩; refine ⟨_, rfl, ?_⟩; have hx171_0 := HX9000_0.out; have hx171_1 := HX9000_1.out; have hx171_2 := HX9000_2.out; have hx171_3 := HX9000_3.out; have hx171_4 := HX9000_4.out; have hx171_5 := HX9000_5.out; have hx171_6 := HX9000_6.out; replace hx171_0 := cB HB.out hx171_0; replace hx171_1 := cB HB.out hx171_1; replace hx171_2 := cB HB.out hx171_2; replace hx171_3 := cB HB.out hx171_3; replace hx171_4 := cB HB.out hx171_4; replace hx171_5 := cB HB.out hx171_5; replace hx171_6 := cB HB.out hx171_6; have HR171_2 := HR9000_2; have HC171_2 := HC9000_2; have HR171_3 := HR9000_3; have HC171_3 := HC9000_3; have HR171_4 := HR9000_4; have HC171_4 := HC9000_4; have HR171_5 := HR9000_5; have HC171_5 := HC9000_5; have hx172_0 := HX9000_0.out; have hx172_1 := HX9000_1.out; have hx172_2 := HX9000_2.out; have hx172_3 := HX9000_3.out; have hx172_4 := HX9000_4.out; have hx172_5 := HX9000_5.out; have hx172_6 := HX9000_6.out; replace hx172_0 := cB HB.out hx172_0; replace hx172_1 := cB HB.out hx172_1; replace hx172_2 := cB HB.out hx172_2; replace hx172_3 := cB HB.out hx172_3; replace hx172_4 := cB HB.out hx172_4; replace hx172_5 := cB HB.out hx172_5; replace hx172_6 := cB HB.out hx172_6; have HR172_2 := HR9000_2; have HC172_2 := HC9000_2; have HR172_3 := HR9000_3; have HC172_3 := HC9000_3; have HR172_4 := HR9000_4; have HC172_4 := HC9000_4; have HR172_5 := HR9000_5; have HC172_5 := HC9000_5; have hx192_0 := HX9000_0.out; have hx192_1 := HX9000_1.out; have hx192_2 := HX9000_2.out; have hx192_3 := HX9000_3.out; have hx192_4 := HX9000_4.out; have hx192_5 := HX9000_5.out; have hx192_6 := HX9000_6.out; replace hx192_0 := cB HB.out hx192_0; replace hx192_1 := cB HB.out hx192_1; replace hx192_2 := cB HB.out hx192_2; replace hx192_3 := cB HB.out hx192_3; replace hx192_4 := cB HB.out hx192_4; replace hx192_5 := cB HB.out hx192_5; replace hx192_6 := cB HB.out hx192_6; have HR192_2 := HR9000_2; have HC192_2 := HC9000_2; have HR192_3 := HR9000_3; have HC192_3 := HC9000_3; have HR192_4 := HR9000_4; have HC192_4 := HC9000_4; have HR192_5 := HR9000_5; have HC192_5 := HC9000_5) | (go_at_call 52; (with_reducible refine (spec_l24Items.calls kj2 _ _ ((rd_T39 l0_0 a0_1).f3) 2 2 false _ ?side1 ?side2 A36.out).mono ?_); (case side1 => exact cQ HR192_3.out); (case side2 => exact HC192_3.out); rintro e w' ⟨rfl, ⟨nd, rfl⟩⟩))
            go_ret
            exact ⟨eQ, bQ⟩
          ·replace c35 := Bool.eq_false_iff.mpr c35
           subst c35
           have H1 : (some false) = some r := by rw [if_neg (show ¬ (false = true) by decide)] at H; exact H
           clear H
           have H := H1
           clear H1
           obtain rfl := Option.some.inj H
           have hx169_0 := HX9000_0.out
           have hx169_1 := HX9000_1.out
           have hx169_2 := HX9000_2.out
           have hx169_3 := HX9000_3.out
           have hx169_4 := HX9000_4.out
           have hx169_5 := HX9000_5.out
           have hx169_6 := HX9000_6.out
           replace hx169_0 := cB HB.out hx169_0
           replace hx169_1 := cB HB.out hx169_1
           replace hx169_2 := cB HB.out hx169_2
           replace hx169_3 := cB HB.out hx169_3
           replace hx169_4 := cB HB.out hx169_4
           replace hx169_5 := cB HB.out hx169_5
           replace hx169_6 := cB HB.out hx169_6
           have HR169_2 := HR9000_2
           have HC169_2 := HC9000_2
           have HR169_3 := HR9000_3
           have HC169_3 := HC9000_3
           have HR169_4 := HR9000_4
           have HC169_4 := HC9000_4
           have HR169_5 := HR9000_5
           have HC169_5 := HC9000_5
           go_wp2_with (first | ((with_reducible refine gate_callee (f := 53) rfl ?_); refine goesL_ (some 31) rfl rfl Try.func53 (by kernel_rfl) rfl #[.string ((rd_T39 l0_0 a0_1).f1)] rfl gQ ?_; (with_reducible refine (spec_IsName.calls kj2 ((rd_T39 l0_0 a0_1).f1) false _ A8.out).mono ?_); rintro e w' ⟨rfl, ⟨nd, rfl⟩⟩; refine ⟨_, rfl, ?_⟩; have hx171_0 := HX9000_0.out; have hx171_1 := HX9000_1.out; have hx171_2 := HX9000_2.out; have hx171_3 := HX9000_3.out; have hx171_4 := HX9000_4.out; have hx171_5 := HX9000_5.out; have hx171_6 := HX9000_6.out; replace hx171_0 := cB HB.out hx171_0; replace hx171_1 := cB HB.out hx171_1; replace hx171_2 := cB HB.out hx171_2; replace hx171_3 := cB HB.out hx171_3; replace hx171_4 := cB HB.out hx171_4; replace hx171_5 := cB HB.out hx171_5; replace hx171_6 := cB HB.out hx171_6; have HR171_2 := HR9000_2; have HC171_2 := HC9000_2; have HR171_3 := HR9000_3; have HC171_3 := HC9000_3; have HR171_4 := HR9000_4; have HC171_4 := HC9000_4; have HR171_5 := HR9000_5; have HC171_5 := HC9000_5; have hx172_0 := HX9000_0.out; have hx172_1 := HX9000_1.out; have hx172_2 := HX9000_2.out; have hx172_3 := HX9000_3.out; have hx172_4 := HX9000_4.out; have hx172_5 := HX9000_5.out; have hx172_6 := HX9000_6.out; replace hx172_0 := cB HB.out hx172_0; replace hx172_1 := cB HB.out hx172_1; replace hx172_2 := cB HB.out hx172_2; replace hx172_3 := cB HB.out hx172_3; replace hx172_4 := cB HB.out hx172_4; replace hx172_5 := cB HB.out hx172_5; replace hx172_6 := cB HB.out hx172_6; have HR172_2 := HR9000_2; have HC172_2 := HC9000_2; have HR172_3 := HR9000_3; have HC172_3 := HC9000_3; have HR172_4 := HR9000_4; have HC172_4 := HC9000_4; have HR172_5 := HR9000_5; have HC172_5 := HC9000_5))
           go_ret
           exact ⟨eQ, bQ⟩
         ·rw [if_neg c34] at H
          have c34b0 : (((rd_T39 l0_0 a0_1).f0) == 6) = false := beq_eq_false_iff_ne.mpr c34
          have c34b1 : (((rd_T39 l0_0 a0_1).f0) != 6) = true := bne_iff_ne.mpr c34
          by_cases c39 : ((rd_T39 l0_0 a0_1).f0) = 7
          ·rw [if_pos c39] at H
           have c39b0 : (((rd_T39 l0_0 a0_1).f0) == 7) = true := beq_iff_eq.mpr c39
           have c39b1 : (((rd_T39 l0_0 a0_1).f0) != 7) = false := bne_eq_false_iff_eq.mpr c39
           clear c39
           by_cases c40 : t170 = true
           ·subst c40
            have H1 : (if (((rd_T39 l0_0 a0_1).f3).length : Int) = 0 then ((spec_l24Forms.f kj2 ((rd_T39 l0_0 a0_1).f5)).bind fun t197 => (if t197 = true then ((spec_l00In.f ((rd_T39 l0_0 a0_1).f6) 1 3).bind fun t199 => (some t199)) else (some false))) else (some false)) = some r := by rw [if_pos rfl] at H; exact H
            clear H
            have H := H1
            clear H1
            by_cases c41 : (((rd_T39 l0_0 a0_1).f3).length : Int) = 0
            ·rw [if_pos c41] at H
             have c41b0 : ((((rd_T39 l0_0 a0_1).f3).length : Int) == 0) = true := beq_iff_eq.mpr c41
             have c41b1 : ((((rd_T39 l0_0 a0_1).f3).length : Int) != 0) = false := bne_eq_false_iff_eq.mpr c41
             clear c41
             replace H := Option.bind_eq_some_iff.mp H
             obtain ⟨t197, A420, H⟩ := H
             replace H : (if t197 = true then ((spec_l00In.f ((rd_T39 l0_0 a0_1).f6) 1 3).bind fun t199 => (some t199)) else (some false)) = some r := H
             have A42 := aM A420
             clear A420
             by_cases c43 : t197 = true
             ·subst c43
              have H1 : ((spec_l00In.f ((rd_T39 l0_0 a0_1).f6) 1 3).bind fun t199 => (some t199)) = some r := by rw [if_pos rfl] at H; exact H
              clear H
              have H := H1
              clear H1
              replace H := Option.bind_eq_some_iff.mp H
              obtain ⟨t199, A440, H⟩ := H
              replace H : (some t199) = some r := H
              have A44 := aM A440
              clear A440
              obtain rfl := Option.some.inj H
              have hx169_0 := HX9000_0.out
              have hx169_1 := HX9000_1.out
              have hx169_2 := HX9000_2.out
              have hx169_3 := HX9000_3.out
              have hx169_4 := HX9000_4.out
              have hx169_5 := HX9000_5.out
              have hx169_6 := HX9000_6.out
              replace hx169_0 := cB HB.out hx169_0
              replace hx169_1 := cB HB.out hx169_1
              replace hx169_2 := cB HB.out hx169_2
              replace hx169_3 := cB HB.out hx169_3
              replace hx169_4 := cB HB.out hx169_4
              replace hx169_5 := cB HB.out hx169_5
              replace hx169_6 := cB HB.out hx169_6
              have HR169_2 := HR9000_2
              have HC169_2 := HC9000_2
              have HR169_3 := HR9000_3
              have HC169_3 := HC9000_3
              have HR169_4 := HR9000_4
              have HC169_4 := HC9000_4
              have HR169_5 := HR9000_5
              have HC169_5 := HC9000_5
              go_wp2_with (first | ((with_reducible refine gate_callee (f := 53) rfl ?_); refine goesL_ (some 31) rfl rfl Try.func53 (by kernel_rfl) rfl #[.string ((rd_T39 l0_0 a0_1).f1)] rfl gQ ?_; (with_reducible refine (spec_IsName.calls kj2 ((rd_T39 l0_0 a0_1).f1) true _ A8.out).mono ?_); rintro e w' ⟨rfl, ⟨nd, rfl⟩⟩; refine ⟨_, rfl, ?_⟩; have hx171_0 := HX9000_0.out; have hx171_1 := HX9000_1.out; have hx171_2 := HX9000_2.out; have hx171_3 := HX9000_3.out; have hx171_4 := HX9000_4.out; have hx171_5 := HX9000_5.out; have hx171_6 := HX9000_6.out; replace hx171_0 := cB HB.out hx171_0; replace hx171_1 := cB HB.out hx171_1; replace hx171_2 := cB HB.out hx171_2; replace hx171_3 := cB HB.out hx171_3; replace hx171_4 := cB HB.out hx171_4; replace hx171_5 := cB HB.out hx171_5; replace hx171_6 := cB HB.out hx171_6; have HR171_2 := HR9000_2; have HC171_2 := HC9000_2; have HR171_3 := HR9000_3; have HC171_3 := HC9000_3; have HR171_4 := HR9000_4; have HC171_4 := HC9000_4; have HR171_5 := HR9000_5; have HC171_5 := HC9000_5; have hx172_0 := HX9000_0.out; have hx172_1 := HX9000_1.out; have hx172_2 := HX9000_2.out; have hx172_3 := HX9000_3.out; have hx172_4 := HX9000_4.out; have hx172_5 := HX9000_5.out; have hx172_6 := HX9000_6.out; replace hx172_0 := cB HB.out hx172_0; replace hx172_1 := cB HB.out hx172_1; replace hx172_2 := cB HB.out hx172_2; replace hx172_3 := cB HB.out hx172_3; replace hx172_4 := cB HB.out hx172_4; replace hx172_5 := cB HB.out hx172_5; replace hx172_6 := cB HB.out hx172_6; have HR172_2 := HR9000_2; have HC172_2 := HC9000_2; have HR172_3 := HR9000_3; have HC172_3 := HC9000_3; have HR172_4 := HR9000_4; have HC172_4 := HC9000_4; have HR172_5 := HR9000_5; have HC172_5 := HC9000_5; have hx195_0 := HX9000_0.out; have hx195_1 := HX9000_1.out; have hx195_2 := HX9000_2.out; have hx195_3 := HX9000_3.out; have hx195_4 := HX9000_4.out; have hx195_5 := HX9000_5.out; have hx195_6 := HX9000_6.out; replace hx195_0 := cB HB.out hx195_0; replace hx195_1 := cB HB.out hx195_1; replace hx195_2 := cB HB.out hx195_2; replace hx195_3 := cB HB.out hx195_3; replace hx195_4 := cB HB.out hx195_4; replace hx195_5 := cB HB.out hx195_5; replace hx195_6 := cB HB.out hx195_6; have HR195_2 := HR9000_2; have HC195_2 := HC9000_2; have HR195_3 := HR9000_3; have HC195_3 := HC9000_3; have HR195_4 := HR9000_4; have HC195_4 := HC9000_4; have HR195_5 := HR9000_5; have HC195_5 := HC9000_5; have hx196_0 := HX9000_0.out; have hx196_1 := HX9000_1.out; have hx196_2 := HX9000_2.out; have hx196_3 := HX9000_3.out; have hx196_4 := HX9000_4.out; have hx196_5 := HX9000_5.out; have hx196_6 := HX9000_6.out; replace hx196_0 := cB HB.out hx196_0; replace hx196_1 := cB HB.out hx196_1; replace hx196_2 := cB HB.out hx196_2; replace hx196_3 := cB HB.out hx196_3; replace hx196_4 := cB HB.out hx196_4; replace hx196_5 := cB HB.out hx196_5; replace hx196_6 := cB HB.out hx196_6; have HR196_2 := HR9000_2; have HC196_2 := HC9000_2; have HR196_3 := HR9000_3; have HC196_3 := HC9000_3; have HR196_4 := HR9000_4; have HC196_4 := HC9000_4; have HR196_5 := HR9000_5; have HC196_5 := HC9000_5) | (go_at_call 55; (with_reducible refine (spec_l24Forms.calls kj2 _ _ ((rd_T39 l0_0 a0_1).f5) true _ ?side1 ?side2 A42.out).mono ?_); (case side1 => exact cQ HR196_5.out); (case side2 => exact HC196_5.out); rintro e w' ⟨rfl, ⟨nd, rfl⟩⟩; have hx198_0 := HX9000_0.out; have hx198_1 := HX9000_1.out; have hx198_2 := HX9000_2.out; have hx198_3 := HX9000_3.out; have hx198_4 := HX9000_4.out; have hx198_5 := HX9000_5.out; have hx198_6 := HX9000_6.out; replace hx198_0 := cB HB.out hx198_0; replace hx198_1 := cB HB.out hx198_1; replace hx198_2 := cB HB.out hx198_2; replace hx198_3 := cB HB.out hx198_3; replace hx198_4 := cB HB.out hx198_4; replace hx198_5 := cB HB.out hx198_5; replace hx198_6 := cB HB.out hx198_6; have HR198_2 := HR9000_2; have HC198_2 := HC9000_2; have HR198_3 := HR9000_3; have HC198_3 := HC9000_3; have HR198_4 := HR9000_4; have HC198_4 := HC9000_4; have HR198_5 := HR9000_5; have HC198_5 := HC9000_5) | (go_at_call 54; (with_reducible refine (spec_l00In.calls ((rd_T39 l0_0 a0_1).f6) 1 3 t199 _ A44.out).mono ?_); rintro e w' ⟨rfl, ⟨nd, rfl⟩⟩))
              go_ret
              exact ⟨eQ, bQ⟩
             ·replace c43 := Bool.eq_false_iff.mpr c43
              subst c43
              have H1 : (some false) = some r := by rw [if_neg (show ¬ (false = true) by decide)] at H; exact H
              clear H
              have H := H1
              clear H1
              obtain rfl := Option.some.inj H
              have hx169_0 := HX9000_0.out
              have hx169_1 := HX9000_1.out
              have hx169_2 := HX9000_2.out
              have hx169_3 := HX9000_3.out
              have hx169_4 := HX9000_4.out
              have hx169_5 := HX9000_5.out
              have hx169_6 := HX9000_6.out
              replace hx169_0 := cB HB.out hx169_0
              replace hx169_1 := cB HB.out hx169_1
              replace hx169_2 := cB HB.out hx169_2
              replace hx169_3 := cB HB.out hx169_3
              replace hx169_4 := cB HB.out hx169_4
              replace hx169_5 := cB HB.out hx169_5
              replace hx169_6 := cB HB.out hx169_6
              have HR169_2 := HR9000_2
              have HC169_2 := HC9000_2
              have HR169_3 := HR9000_3
              have HC169_3 := HC9000_3
              have HR169_4 := HR9000_4
              have HC169_4 := HC9000_4
              have HR169_5 := HR9000_5
              have HC169_5 := HC9000_5
              go_wp2_with (first | ((with_reducible refine gate_callee (f := 53) rfl ?_); refine goesL_ (some 31) rfl rfl Try.func53 (by kernel_rfl) rfl #[.string ((rd_T39 l0_0 a0_1).f1)] rfl gQ ?_; (with_reducible refine (spec_IsName.calls kj2 ((rd_T39 l0_0 a0_1).f1) true _ A8.out).mono ?_); rintro e w' ⟨rfl, ⟨nd, rfl⟩⟩; refine ⟨_, rfl, ?_⟩; have hx171_0 := HX9000_0.out; have hx171_1 := HX9000_1.out; have hx171_2 := HX9000_2.out; have hx171_3 := HX9000_3.out; have hx171_4 := HX9000_4.out; have hx171_5 := HX9000_5.out; have hx171_6 := HX9000_6.out; replace hx171_0 := cB HB.out hx171_0; replace hx171_1 := cB HB.out hx171_1; replace hx171_2 := cB HB.out hx171_2; replace hx171_3 := cB HB.out hx171_3; replace hx171_4 := cB HB.out hx171_4; replace hx171_5 := cB HB.out hx171_5; replace hx171_6 := cB HB.out hx171_6; have HR171_2 := HR9000_2; have HC171_2 := HC9000_2; have HR171_3 := HR9000_3; have HC171_3 := HC9000_3; have HR171_4 := HR9000_4; have HC171_4 := HC9000_4; have HR171_5 := HR9000_5; have HC171_5 := HC9000_5; have hx172_0 := HX9000_0.out; have hx172_1 := HX9000_1.out; have hx172_2 := HX9000_2.out; have hx172_3 := HX9000_3.out; have hx172_4 := HX9000_4.out; have hx172_5 := HX9000_5.out; have hx172_6 := HX9000_6.out; replace hx172_0 := cB HB.out hx172_0; replace hx172_1 := cB HB.out hx172_1; replace hx172_2 := cB HB.out hx172_2; replace hx172_3 := cB HB.out hx172_3; replace hx172_4 := cB HB.out hx172_4; replace hx172_5 := cB HB.out hx172_5; replace hx172_6 := cB HB.out hx172_6; have HR172_2 := HR9000_2; have HC172_2 := HC9000_2; have HR172_3 := HR9000_3; have HC172_3 := HC9000_3; have HR172_4 := HR9000_4; have HC172_4 := HC9000_4; have HR172_5 := HR9000_5; have HC172_5 := HC9000_5; have hx195_0 := HX9000_0.out; have hx195_1 := HX9000_1.out; have hx195_2 := HX9000_2.out; have hx195_3 := HX9000_3.out; have hx195_4 := HX9000_4.out; have hx195_5 := HX9000_5.out; have hx195_6 := HX9000_6.out; replace hx195_0 := cB HB.out hx195_0; replace hx195_1 := cB HB.out hx195_1; replace hx195_2 := cB HB.out hx195_2; replace hx195_3 := cB HB.out hx195_3; replace hx195_4 := cB HB.out hx195_4; replace hx195_5 := cB HB.out hx195_5; replace hx195_6 := cB HB.out hx195_6; have HR195_2 := HR9000_2; have HC195_2 := HC9000_2; have HR195_3 := HR9000_3; have HC195_3 := HC9000_3; have HR195_4 := HR9000_4; have HC195_4 := HC9000_4; have HR195_5 := HR9000_5; have HC195_5 := HC9000_5; have hx196_0 := HX9000_0.out; have hx196_1 := HX9000_1.out; have hx196_2 := HX9000_2.out; have hx196_3 := HX9000_3.out; have hx196_4 := HX9000_4.out; have hx196_5 := HX9000_5.out; have hx196_6 := HX9000_6.out; replace hx196_0 := cB HB.out hx196_0; replace hx196_1 := cB HB.out hx196_1; replace hx196_2 := cB HB.out hx196_2; replace hx196_3 := cB HB.out hx196_3; replace hx196_4 := cB HB.out hx196_4; replace hx196_5 := cB HB.out hx196_5; replace hx196_6 := cB HB.out hx196_6; have HR196_2 := HR9000_2; have HC196_2 := HC9000_2; have HR196_3 := HR9000_3; have HC196_3 := HC9000_3; have HR196_4 := HR9000_4; have HC196_4 := HC9000_4; have HR196_5 := HR9000_5; have HC196_5 := HC9000_5) | (go_at_call 55; (with_reducible refine (spec_l24Forms.calls kj2 _ _ ((rd_T39 l0_0 a0_1).f5) false _ ?side1 ?side2 A42.out).mono ?_); (case side1 => exact cQ HR196_5.out); (case side2 => exact HC196_5.out); rintro e w' ⟨rfl, ⟨nd, rfl⟩⟩))
              go_ret
              exact ⟨eQ, bQ⟩
            ·rw [if_neg c41] at H
             have c41b0 : ((((rd_T39 l0_0 a0_1).f3).length : Int) == 0) = false := beq_eq_false_iff_ne.mpr c41
             have c41b1 : ((((rd_T39 l0_0 a0_1).f3).length : Int) != 0) = true := bne_iff_ne.mpr c41
             have c41b2 : ¬ (((rd_T39 l0_0 a0_1).f3) = []) := fun h_ => c41 (by rw [h_]; rfl)
             obtain rfl := Option.some.inj H
             have hx169_0 := HX9000_0.out
             have hx169_1 := HX9000_1.out
             have hx169_2 := HX9000_2.out
             have hx169_3 := HX9000_3.out
             have hx169_4 := HX9000_4.out
             have hx169_5 := HX9000_5.out
             have hx169_6 := HX9000_6.out
             replace hx169_0 := cB HB.out hx169_0
             replace hx169_1 := cB HB.out hx169_1
             replace hx169_2 := cB HB.out hx169_2
             replace hx169_3 := cB HB.out hx169_3
             replace hx169_4 := cB HB.out hx169_4
             replace hx169_5 := cB HB.out hx169_5
             replace hx169_6 := cB HB.out hx169_6
             have HR169_2 := HR9000_2
             have HC169_2 := HC9000_2
             have HR169_3 := HR9000_3
             have HC169_3 := HC9000_3
             have HR169_4 := HR9000_4
             have HC169_4 := HC9000_4
             have HR169_5 := HR9000_5
             have HC169_5 := HC9000_5
             go_wp2_with (first | ((with_reducible refine gate_callee (f := 53) rfl ?_); refine goesL_ (some 31) rfl rfl Try.func53 (by kernel_rfl) rfl #[.string ((rd_T39 l0_0 a0_1).f1)] rfl gQ ?_; (with_reducible refine (spec_IsName.calls kj2 ((rd_T39 l0_0 a0_1).f1) true _ A8.out).mono ?_); rintro e w' ⟨rfl, ⟨nd, rfl⟩⟩; refine ⟨_, rfl, ?_⟩; have hx171_0 := HX9000_0.out; have hx171_1 := HX9000_1.out; have hx171_2 := HX9000_2.out; have hx171_3 := HX9000_3.out; have hx171_4 := HX9000_4.out; have hx171_5 := HX9000_5.out; have hx171_6 := HX9000_6.out; replace hx171_0 := cB HB.out hx171_0; replace hx171_1 := cB HB.out hx171_1; replace hx171_2 := cB HB.out hx171_2; replace hx171_3 := cB HB.out hx171_3; replace hx171_4 := cB HB.out hx171_4; replace hx171_5 := cB HB.out hx171_5; replace hx171_6 := cB HB.out hx171_6; have HR171_2 := HR9000_2; have HC171_2 := HC9000_2; have HR171_3 := HR9000_3; have HC171_3 := HC9000_3; have HR171_4 := HR9000_4; have HC171_4 := HC9000_4; have HR171_5 := HR9000_5; have HC171_5 := HC9000_5; have hx172_0 := HX9000_0.out; have hx172_1 := HX9000_1.out; have hx172_2 := HX9000_2.out; have hx172_3 := HX9000_3.out; have hx172_4 := HX9000_4.out; have hx172_5 := HX9000_5.out; have hx172_6 := HX9000_6.out; replace hx172_0 := cB HB.out hx172_0; replace hx172_1 := cB HB.out hx172_1; replace hx172_2 := cB HB.out hx172_2; replace hx172_3 := cB HB.out hx172_3; replace hx172_4 := cB HB.out hx172_4; replace hx172_5 := cB HB.out hx172_5; replace hx172_6 := cB HB.out hx172_6; have HR172_2 := HR9000_2; have HC172_2 := HC9000_2; have HR172_3 := HR9000_3; have HC172_3 := HC9000_3; have HR172_4 := HR9000_4; have HC172_4 := HC9000_4; have HR172_5 := HR9000_5; have HC172_5 := HC9000_5; have hx195_0 := HX9000_0.out; have hx195_1 := HX9000_1.out; have hx195_2 := HX9000_2.out; have hx195_3 := HX9000_3.out; have hx195_4 := HX9000_4.out; have hx195_5 := HX9000_5.out; have hx195_6 := HX9000_6.out; replace hx195_0 := cB HB.out hx195_0; replace hx195_1 := cB HB.out hx195_1; replace hx195_2 := cB HB.out hx195_2; replace hx195_3 := cB HB.out hx195_3; replace hx195_4 := cB HB.out hx195_4; replace hx195_5 := cB HB.out hx195_5; replace hx195_6 := cB HB.out hx195_6; have HR195_2 := HR9000_2; have HC195_2 := HC9000_2; have HR195_3 := HR9000_3; have HC195_3 := HC9000_3; have HR195_4 := HR9000_4; have HC195_4 := HC9000_4; have HR195_5 := HR9000_5; have HC195_5 := HC9000_5))
             go_ret
             exact ⟨eQ, bQ⟩
           ·replace c40 := Bool.eq_false_iff.mpr c40
            subst c40
            have H1 : (some false) = some r := by rw [if_neg (show ¬ (false = true) by decide)] at H; exact H
            clear H
            have H := H1
            clear H1
            obtain rfl := Option.some.inj H
            have hx169_0 := HX9000_0.out
            have hx169_1 := HX9000_1.out
            have hx169_2 := HX9000_2.out
            have hx169_3 := HX9000_3.out
            have hx169_4 := HX9000_4.out
            have hx169_5 := HX9000_5.out
            have hx169_6 := HX9000_6.out
            replace hx169_0 := cB HB.out hx169_0
            replace hx169_1 := cB HB.out hx169_1
            replace hx169_2 := cB HB.out hx169_2
            replace hx169_3 := cB HB.out hx169_3
            replace hx169_4 := cB HB.out hx169_4
            replace hx169_5 := cB HB.out hx169_5
            replace hx169_6 := cB HB.out hx169_6
            have HR169_2 := HR9000_2
            have HC169_2 := HC9000_2
            have HR169_3 := HR9000_3
            have HC169_3 := HC9000_3
            have HR169_4 := HR9000_4
            have HC169_4 := HC9000_4
            have HR169_5 := HR9000_5
            have HC169_5 := HC9000_5
            go_wp2_with (first | ((with_reducible refine gate_callee (f := 53) rfl ?_); refine goesL_ (some 31) rfl rfl Try.func53 (by kernel_rfl) rfl #[.string ((rd_T39 l0_0 a0_1).f1)] rfl gQ ?_; (with_reducible refine (spec_IsName.calls kj2 ((rd_T39 l0_0 a0_1).f1) false _ A8.out).mono ?_); rintro e w' ⟨rfl, ⟨nd, rfl⟩⟩; refine ⟨_, rfl, ?_⟩; have hx171_0 := HX9000_0.out; have hx171_1 := HX9000_1.out; have hx171_2 := HX9000_2.out; have hx171_3 := HX9000_3.out; have hx171_4 := HX9000_4.out; have hx171_5 := HX9000_5.out; have hx171_6 := HX9000_6.out; replace hx171_0 := cB HB.out hx171_0; replace hx171_1 := cB HB.out hx171_1; replace hx171_2 := cB HB.out hx171_2; replace hx171_3 := cB HB.out hx171_3; replace hx171_4 := cB HB.out hx171_4; replace hx171_5 := cB HB.out hx171_5; replace hx171_6 := cB HB.out hx171_6; have HR171_2 := HR9000_2; have HC171_2 := HC9000_2; have HR171_3 := HR9000_3; have HC171_3 := HC9000_3; have HR171_4 := HR9000_4; have HC171_4 := HC9000_4; have HR171_5 := HR9000_5; have HC171_5 := HC9000_5; have hx172_0 := HX9000_0.out; have hx172_1 := HX9000_1.out; have hx172_2 := HX9000_2.out; have hx172_3 := HX9000_3.out; have hx172_4 := HX9000_4.out; have hx172_5 := HX9000_5.out; have hx172_6 := HX9000_6.out; replace hx172_0 := cB HB.out hx172_0; replace hx172_1 := cB HB.out hx172_1; replace hx172_2 := cB HB.out hx172_2; replace hx172_3 := cB HB.out hx172_3; replace hx172_4 := cB HB.out hx172_4; replace hx172_5 := cB HB.out hx172_5; replace hx172_6 := cB HB.out hx172_6; have HR172_2 := HR9000_2; have HC172_2 := HC9000_2; have HR172_3 := HR9000_3; have HC172_3 := HC9000_3; have HR172_4 := HR9000_4; have HC172_4 := HC9000_4; have HR172_5 := HR9000_5; have HC172_5 := HC9000_5))
            go_ret
            exact ⟨eQ, bQ⟩
          ·rw [if_neg c39] at H
           have c39b0 : (((rd_T39 l0_0 a0_1).f0) == 7) = false := beq_eq_false_iff_ne.mpr c39
           have c39b1 : (((rd_T39 l0_0 a0_1).f0) != 7) = true := bne_iff_ne.mpr c39
           obtain rfl := Option.some.inj H
           have hx169_0 := HX9000_0.out
           have hx169_1 := HX9000_1.out
           have hx169_2 := HX9000_2.out
           have hx169_3 := HX9000_3.out
           have hx169_4 := HX9000_4.out
           have hx169_5 := HX9000_5.out
           have hx169_6 := HX9000_6.out
           replace hx169_0 := cB HB.out hx169_0
           replace hx169_1 := cB HB.out hx169_1
           replace hx169_2 := cB HB.out hx169_2
           replace hx169_3 := cB HB.out hx169_3
           replace hx169_4 := cB HB.out hx169_4
           replace hx169_5 := cB HB.out hx169_5
           replace hx169_6 := cB HB.out hx169_6
           have HR169_2 := HR9000_2
           have HC169_2 := HC9000_2
           have HR169_3 := HR9000_3
           have HC169_3 := HC9000_3
           have HR169_4 := HR9000_4
           have HC169_4 := HC9000_4
           have HR169_5 := HR9000_5
           have HC169_5 := HC9000_5
           go_wp2_with (first | ((with_reducible refine gate_callee (f := 53) rfl ?_); refine goesL_ (some 31) rfl rfl Try.func53 (by kernel_rfl) rfl #[.string ((rd_T39 l0_0 a0_1).f1)] rfl gQ ?_; (with_reducible refine (spec_IsName.calls kj2 ((rd_T39 l0_0 a0_1).f1) t170 _ A8.out).mono ?_); rintro e w' ⟨rfl, ⟨nd, rfl⟩⟩; refine ⟨_, rfl, ?_⟩; have hx171_0 := HX9000_0.out; have hx171_1 := HX9000_1.out; have hx171_2 := HX9000_2.out; have hx171_3 := HX9000_3.out; have hx171_4 := HX9000_4.out; have hx171_5 := HX9000_5.out; have hx171_6 := HX9000_6.out; replace hx171_0 := cB HB.out hx171_0; replace hx171_1 := cB HB.out hx171_1; replace hx171_2 := cB HB.out hx171_2; replace hx171_3 := cB HB.out hx171_3; replace hx171_4 := cB HB.out hx171_4; replace hx171_5 := cB HB.out hx171_5; replace hx171_6 := cB HB.out hx171_6; have HR171_2 := HR9000_2; have HC171_2 := HC9000_2; have HR171_3 := HR9000_3; have HC171_3 := HC9000_3; have HR171_4 := HR9000_4; have HC171_4 := HC9000_4; have HR171_5 := HR9000_5; have HC171_5 := HC9000_5; have hx172_0 := HX9000_0.out; have hx172_1 := HX9000_1.out; have hx172_2 := HX9000_2.out; have hx172_3 := HX9000_3.out; have hx172_4 := HX9000_4.out; have hx172_5 := HX9000_5.out; have hx172_6 := HX9000_6.out; replace hx172_0 := cB HB.out hx172_0; replace hx172_1 := cB HB.out hx172_1; replace hx172_2 := cB HB.out hx172_2; replace hx172_3 := cB HB.out hx172_3; replace hx172_4 := cB HB.out hx172_4; replace hx172_5 := cB HB.out hx172_5; replace hx172_6 := cB HB.out hx172_6; have HR172_2 := HR9000_2; have HC172_2 := HC9000_2; have HR172_3 := HR9000_3; have HC172_3 := HC9000_3; have HR172_4 := HR9000_4; have HC172_4 := HC9000_4; have HR172_5 := HR9000_5; have HC172_5 := HC9000_5))
           go_ret
           exact ⟨eQ, bQ⟩

end Go.Proofs.Ytfabhfdjabehpaa.QFnExactLineText
