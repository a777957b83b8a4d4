/- What some Go functions answer, each as a Lean function, and that the machine answers so: written by a program of this session out of the translation. -/
import Derived.Test.YtfabhfdjabehpaaQFnExactSourceTextx0
import Derived.Test.YtfabhfdjabehpaaQFnExactSourceTextx2
import Derived.Test.YtfabhfdjabehpaaQFnExactSourceTextx3
namespace Go.Proofs.Ytfabhfdjabehpaa.QFnExactSourceText
open Go.RowKit Go.Proofs.YtfabhfdjabehpaaW.PrintWords Go.Proofs.YtfabhfdjabehpaaW.PrintLast Go.Proofs.YtfabhfdjabehpaaW.PrintMore Go.Proofs.Ytfabhfdjabehpaa.Rp
attribute [local go_sem] max2_int min2_int max_two min_two max_three min_three max_four min_four   -- for this text's walks alone
set_option linter.unusedVariables false
set_option linter.unusedSimpArgs false

/-! ### spec_l24Ok_at: function 33 -/
def spec_l24Ok_at.j0 : Nat → Int → Bool → List (S39) → Int → Option (Bool)
 | 0, _, _, _, _ => none
 | k + 1, x3, x26, x1000, x1001 => if x26 = true then (some false) else ((spec_IsName.f k ((rd_T39 x1000 x1001).f1)).bind fun t190 => (if ((rd_T39 x1000 x1001).f0) = 1 then (if t190 = true then ((spec_l24Items.f k ((rd_T39 x1000 x1001).f3) 1 20).bind fun t194 => (if t194 = true then (if (((rd_T39 x1000 x1001).f5).length : Int) = 0 then (some (((rd_T39 x1000 x1001).f6) == 0)) else (some false)) else (some false))) else (some false)) else (if ((rd_T39 x1000 x1001).f0) = 2 then (if t190 = true then (if (((rd_T39 x1000 x1001).f3).length : Int) = 0 then (if (((rd_T39 x1000 x1001).f5).length : Int) = 0 then (some (((rd_T39 x1000 x1001).f6) == 0)) else (some false)) else (some false)) else (some false)) else (if ((rd_T39 x1000 x1001).f0) = 3 then (if ((rd_T39 x1000 x1001).f1).toList = ([] : List UInt8) then ((spec_l24Items.f k ((rd_T39 x1000 x1001).f3) 1 x3).bind fun t200 => (if t200 = true then ((spec_l24Items.f k ((rd_T39 x1000 x1001).f5) 0 x3).bind fun t202 => (if t202 = true then (some (((rd_T39 x1000 x1001).f6) == 0)) else (some false))) else (some false))) else (some false)) else (if ((rd_T39 x1000 x1001).f0) = 4 then (if ((rd_T39 x1000 x1001).f1).toList = ([] : List UInt8) then (if (((rd_T39 x1000 x1001).f3).length : Int) = 0 then (if (((rd_T39 x1000 x1001).f5).length : Int) = 0 then (some (((rd_T39 x1000 x1001).f6) == 0)) else (some false)) else (some false)) else (some false)) else (if ((rd_T39 x1000 x1001).f0) = 5 then (if ((rd_T39 x1000 x1001).f1).toList = ([] : List UInt8) then ((spec_l24Items.f k ((rd_T39 x1000 x1001).f3) 2 2).bind fun t209 => (if t209 = true then (if (((rd_T39 x1000 x1001).f5).length : Int) = 0 then ((spec_l00In.f ((rd_T39 x1000 x1001).f6) (-262144) 262144).bind fun t211 => (some t211)) else (some false)) else (some false))) else (some false)) else (if ((rd_T39 x1000 x1001).f0) = 6 then (if t190 = true then ((spec_l24Items.f k ((rd_T39 x1000 x1001).f3) 2 2).bind fun t213 => (if t213 = true then (if (((rd_T39 x1000 x1001).f5).length : Int) = 0 then (some (((rd_T39 x1000 x1001).f6) == 0)) else (some false)) else (some false))) else (some false)) else (if ((rd_T39 x1000 x1001).f0) = 7 then (if t190 = true then (if (((rd_T39 x1000 x1001).f3).length : Int) = 0 then ((spec_l24Forms.f k ((rd_T39 x1000 x1001).f5)).bind fun t217 => (if t217 = true then ((spec_l00In.f ((rd_T39 x1000 x1001).f6) 1 3).bind fun t219 => (some t219)) else (some false))) else (some false)) else (some false)) else (some false)))))))))
def spec_l24Ok_at.f (k : Nat) (l0_0 : List (S39)) (a0_1 : Int) : Option (Bool) := (spec_l24Context.f ((rd_T39 l0_0 a0_1).f0)).bind fun t184 => ((spec_l24Items.f k ((rd_T39 l0_0 a0_1).f2) 0 t184).bind fun t186 => (if t186 = true then ((spec_l24Items.f k ((rd_T39 l0_0 a0_1).f4) 0 t184).bind fun t188 => (spec_l24Ok_at.j0 k t184 (!t188) l0_0 a0_1)) else (spec_l24Ok_at.j0 k t184 true l0_0 a0_1)))
theorem spec_l24Ok_at.mono_l : ∀ k, (∀ y0 y1 y2 y3, LeO (spec_l24Ok_at.j0 k y0 y1 y2 y3) (spec_l24Ok_at.j0 (k + 1) y0 y1 y2 y3))
 | 0 => fun _ _ _ _ r h => by simp [spec_l24Ok_at.j0] at h
 | k + 1 => by
  have ih0 := spec_l24Ok_at.mono_l k
  ·intro y0 y1 y2 y3
   unfold spec_l24Ok_at.j0
   repeat' first
   | (with_reducible exact ih0 _ _ _ _)
   | (with_reducible exact spec_IsName.mono _ _)
   | (with_reducible exact spec_l24Forms.mono _ _)
   | (with_reducible exact spec_l24Items.mono _ _ _ _)
   | (with_reducible exact LeO.refl _)
   | (with_reducible exact LeO.none _)
   | (with_reducible refine LeO.ite ?_ ?_)
   | (with_reducible refine LeO.bind ?_ (fun _ => ?_))
   | exact ih0 _ _ _ _
   | exact spec_IsName.mono _ _
   | exact spec_l24Forms.mono _ _
   | exact spec_l24Items.mono _ _ _ _
   | exact LeO.none _
   | refine LeO.ite ?_ ?_
   | refine LeO.bind ?_ (fun _ => ?_)
theorem spec_l24Ok_at.mono : ∀ a0 a1 k, LeO (spec_l24Ok_at.f k a0 a1) (spec_l24Ok_at.f (k + 1) a0 a1) := by
 intro a0 a1 k
 have ih0 := spec_l24Ok_at.mono_l k
 unfold spec_l24Ok_at.f
 repeat' first
   | (with_reducible exact ih0 _ _ _ _)
   | (with_reducible exact spec_IsName.mono _ _)
   | (with_reducible exact spec_l24Forms.mono _ _)
   | (with_reducible exact spec_l24Items.mono _ _ _ _)
   | (with_reducible exact LeO.refl _)
   | (with_reducible exact LeO.none _)
   | (with_reducible refine LeO.ite ?_ ?_)
   | (with_reducible refine LeO.bind ?_ (fun _ => ?_))
   | exact ih0 _ _ _ _
   | exact spec_IsName.mono _ _
   | exact spec_l24Forms.mono _ _
   | exact spec_l24Items.mono _ _ _ _
   | exact LeO.none _
   | refine LeO.ite ?_ ?_
   | refine LeO.bind ?_ (fun _ => ?_)
set_option maxHeartbeats 8000000 in
set_option maxRecDepth 100000 in
theorem spec_l24Ok_at.calls (k : Nat) (p0_ : Addr) (l0_0 : List (S39)) (a0_1 : Int) (r : Bool) (w : World) (hP0_ : RPtr k39 ((a0_1 : Int).toNat * 7) w p0_ l0_0 a0_1) (h : spec_l24Ok_at.f k l0_0 a0_1 = some r) :
  Calls Try.prog 33 #[.pointer (some p0_)] w fun e w' => e = .returned (.bool r) ∧ Below w.heap.size w w' := by
 obtain ⟨ad0_, rfl, hr0_0, hi0_, hj0_⟩ := hP0_
 have hc0_0 : l0_0.length ≤ l0_0.length := Nat.le_refl _
 replace hi0_ := decide_eq_true hi0_
 replace hj0_ := decide_eq_true hj0_
 obtain ⟨ad9000, A9000_2, c9000_2, A9000_3, c9000_3, A9000_4, c9000_4, A9000_5, c9000_5, e9000, HX9000_0, HX9000_1, HX9000_2, HX9000_3, HX9000_4, HX9000_5, HX9000_6, HC9000_2, HR9000_2, HC9000_3, HR9000_3, HC9000_4, HR9000_4, HC9000_5, HR9000_5⟩ := at_T39 hr0_0 a0_1 (of_decide_eq_true hi0_) (of_decide_eq_true hj0_)
 obtain rfl : ad0_ = ad9000 := (by injection e9000)
 replace HX9000_0 := aM HX9000_0
 replace HX9000_1 := aM HX9000_1
 replace HX9000_2 := aM HX9000_2
 replace HX9000_3 := aM HX9000_3
 replace HX9000_4 := aM HX9000_4
 replace HX9000_5 := aM HX9000_5
 replace HX9000_6 := aM HX9000_6
 replace HC9000_2 := aM HC9000_2
 replace HR9000_2 := aM HR9000_2
 replace HC9000_3 := aM HC9000_3
 replace HR9000_3 := aM HR9000_3
 replace HC9000_4 := aM HC9000_4
 replace HR9000_4 := aM HR9000_4
 replace HC9000_5 := aM HC9000_5
 replace HR9000_5 := aM HR9000_5
 have HR0_0 := aM hr0_0
 have HC0_0 := aM hc0_0
 clear hr0_0 hc0_0
 have HB := aM (Below.refl w.heap.size w)
 have H : ((spec_l24Context.f ((rd_T39 l0_0 a0_1).f0)).bind fun t184 => ((spec_l24Items.f k ((rd_T39 l0_0 a0_1).f2) 0 t184).bind fun t186 => (if t186 = true then ((spec_l24Items.f k ((rd_T39 l0_0 a0_1).f4) 0 t184).bind fun t188 => (spec_l24Ok_at.j0 k t184 (!t188) l0_0 a0_1)) else (spec_l24Ok_at.j0 k t184 true l0_0 a0_1)))) = some r := h
 clear h
 replace H := Option.bind_eq_some_iff.mp H
 obtain ⟨t184, A20, H⟩ := H
 replace H : ((spec_l24Items.f k ((rd_T39 l0_0 a0_1).f2) 0 t184).bind fun t186 => (if t186 = true then ((spec_l24Items.f k ((rd_T39 l0_0 a0_1).f4) 0 t184).bind fun t188 => (spec_l24Ok_at.j0 k t184 (!t188) l0_0 a0_1)) else (spec_l24Ok_at.j0 k t184 true l0_0 a0_1))) = some r := H
 have A2 := aM A20
 clear A20
 have HC3 := aM H
 clear H
 have hx183_0 := HX9000_0.out
 have hx183_1 := HX9000_1.out
 have hx183_2 := HX9000_2.out
 have hx183_3 := HX9000_3.out
 have hx183_4 := HX9000_4.out
 have hx183_5 := HX9000_5.out
 have hx183_6 := HX9000_6.out
 have HR183_2 := HR9000_2
 have HC183_2 := HC9000_2
 have HR183_3 := HR9000_3
 have HC183_3 := HC9000_3
 have HR183_4 := HR9000_4
 have HC183_4 := HC9000_4
 have HR183_5 := HR9000_5
 have HC183_5 := HC9000_5
 go_enter Try.func33, Try.ntmps33
 go_upto_region 2 with (first | ((with_reducible refine gate_callee (f := 51) rfl ?_); refine goesL_ (some 10) rfl rfl Try.func51 (by kernel_rfl) rfl #[.int .i64 ((rd_T39 l0_0 a0_1).f0)] rfl gQ ?_; (with_reducible refine (spec_l24Context.calls ((rd_T39 l0_0 a0_1).f0) t184 _ A2.out).mono ?_); rintro e w' ⟨rfl, ⟨nd, rfl⟩⟩; refine ⟨_, rfl, ?_⟩))
 (try simp only [Act.put, sI, sZ, sS])
 go_cut [26] (fun v26 wc => ∃ (kq : Nat) (x26_2 : Bool), v26 = .bool x26_2 ∧ Aside0 (spec_l24Ok_at.j0 kq t184 x26_2 l0_0 a0_1 = some r) ∧ Aside0 (kq ≤ k) ∧ Aside0 (Below w.heap.size w wc))
 case first =>
  have H := HC3.out
  clear HC3
  replace H := Option.bind_eq_some_iff.mp H
  obtain ⟨t186, A40, H⟩ := H
  replace H : (if t186 = true then ((spec_l24Items.f k ((rd_T39 l0_0 a0_1).f4) 0 t184).bind fun t188 => (spec_l24Ok_at.j0 k t184 (!t188) l0_0 a0_1)) else (spec_l24Ok_at.j0 k t184 true l0_0 a0_1)) = some r := H
  have A4 := aM A40
  clear A40
  by_cases c5 : t186 = true
  ·subst c5
   have H1 : ((spec_l24Items.f k ((rd_T39 l0_0 a0_1).f4) 0 t184).bind fun t188 => (spec_l24Ok_at.j0 k t184 (!t188) l0_0 a0_1)) = some r := by rw [if_pos rfl] at H; exact H
   clear H
   have H := H1
   clear H1
   replace H := Option.bind_eq_some_iff.mp H
   obtain ⟨t188, A60, H⟩ := H
   replace H : (spec_l24Ok_at.j0 k t184 (!t188) l0_0 a0_1) = some r := H
   have A6 := aM A60
   clear A60
   have H' := aM H
   clear H
   have hx185_0 := HX9000_0.out
   have hx185_1 := HX9000_1.out
   have hx185_2 := HX9000_2.out
   have hx185_3 := HX9000_3.out
   have hx185_4 := HX9000_4.out
   have hx185_5 := HX9000_5.out
   have hx185_6 := HX9000_6.out
   replace hx185_0 := cB HB.out hx185_0
   replace hx185_1 := cB HB.out hx185_1
   replace hx185_2 := cB HB.out hx185_2
   replace hx185_3 := cB HB.out hx185_3
   replace hx185_4 := cB HB.out hx185_4
   replace hx185_5 := cB HB.out hx185_5
   replace hx185_6 := cB HB.out hx185_6
   have HR185_2 := HR9000_2
   have HC185_2 := HC9000_2
   have HR185_3 := HR9000_3
   have HC185_3 := HC9000_3
   have HR185_4 := HR9000_4
   have HC185_4 := HC9000_4
   have HR185_5 := HR9000_5
   have HC185_5 := HC9000_5
   go_wp2_with (first | ((with_reducible refine gate_callee (f := 52) rfl ?_); refine goesL_ (some 16) rfl rfl Try.func52 (by kernel_rfl) rfl #[.slice A9000_2 ((rd_T39 l0_0 a0_1).f2).length c9000_2, .int .i64 0, .int .i64 t184] rfl gQ ?_; (with_reducible refine (spec_l24Items.calls k _ _ ((rd_T39 l0_0 a0_1).f2) 0 t184 true _ ?side1 ?side2 A4.out).mono ?_); (case side1 => exact cQ HR185_2.out); (case side2 => exact HC185_2.out); rintro e w' ⟨rfl, ⟨nd, rfl⟩⟩; refine ⟨_, rfl, ?_⟩; have hx187_0 := HX9000_0.out; have hx187_1 := HX9000_1.out; have hx187_2 := HX9000_2.out; have hx187_3 := HX9000_3.out; have hx187_4 := HX9000_4.out; have hx187_5 := HX9000_5.out; have hx187_6 := HX9000_6.out; replace hx187_0 := cB HB.out hx187_0; replace hx187_1 := cB HB.out hx187_1; replace hx187_2 := cB HB.out hx187_2; replace hx187_3 := cB HB.out hx187_3; replace hx187_4 := cB HB.out hx187_4; replace hx187_5 := cB HB.out hx187_5; replace hx187_6 := cB HB.out hx187_6; have HR187_2 := HR9000_2; have HC187_2 := HC9000_2; have HR187_3 := HR9000_3; have HC187_3 := HC9000_3; have HR187_4 := HR9000_4; have HC187_4 := HC9000_4; have HR187_5 := HR9000_5; have HC187_5 := HC9000_5) | (go_at_call 52; (with_reducible refine (spec_l24Items.calls k _ _ ((rd_T39 l0_0 a0_1).f4) 0 t184 t188 _ ?side1 ?side2 A6.out).mono ?_); (case side1 => exact cQ HR187_4.out); (case side2 => exact HC187_4.out); rintro e w' ⟨rfl, ⟨nd, rfl⟩⟩))
   go_meet
   case rel => exact ⟨_, (!t188), rQ, H', ⟨by first | omega | exact Nat.le_refl _⟩, ⟨bQ⟩⟩
  ·replace c5 := Bool.eq_false_iff.mpr c5
   subst c5
   have H1 : (spec_l24Ok_at.j0 k t184 true l0_0 a0_1) = some r := by rw [if_neg (show ¬ (false = true) by decide)] at H; exact H
   clear H
   have H := H1
   clear H1
   have H' := aM H
   clear H
   have hx185_0 := HX9000_0.out
   have hx185_1 := HX9000_1.out
   have hx185_2 := HX9000_2.out
   have hx185_3 := HX9000_3.out
   have hx185_4 := HX9000_4.out
   have hx185_5 := HX9000_5.out
   have hx185_6 := HX9000_6.out
   replace hx185_0 := cB HB.out hx185_0
   replace hx185_1 := cB HB.out hx185_1
   replace hx185_2 := cB HB.out hx185_2
   replace hx185_3 := cB HB.out hx185_3
   replace hx185_4 := cB HB.out hx185_4
   replace hx185_5 := cB HB.out hx185_5
   replace hx185_6 := cB HB.out hx185_6
   have HR185_2 := HR9000_2
   have HC185_2 := HC9000_2
   have HR185_3 := HR9000_3
   have HC185_3 := HC9000_3
   have HR185_4 := HR9000_4
   have HC185_4 := HC9000_4
   have HR185_5 := HR9000_5
   have HC185_5 := HC9000_5
   go_wp2_with (first | ((with_reducible refine gate_callee (f := 52) rfl ?_); refine goesL_ (some 16) rfl rfl Try.func52 (by kernel_rfl) rfl #[.slice A9000_2 ((rd_T39 l0_0 a0_1).f2).length c9000_2, .int .i64 0, .int .i64 t184] rfl gQ ?_; (with_reducible refine (spec_l24Items.calls k _ _ ((rd_T39 l0_0 a0_1).f2) 0 t184 false _ ?side1 ?side2 A4.out).mono ?_); (case side1 => exact cQ HR185_2.out); (case side2 => exact HC185_2.out); rintro e w' ⟨rfl, ⟨nd, rfl⟩⟩; refine ⟨_, rfl, ?_⟩))
   go_meet
   case rel => exact ⟨_, (true), rQ, H', ⟨by first | omega | exact Nat.le_refl _⟩, ⟨bQ⟩⟩
 case rest =>
  clear HC3
  try clear hx1
  try clear p2
  try clear c5
  try clear hx183_0
  try clear hx183_1
  try clear hx183_2
  try clear hx183_3
  try clear hx183_4
  try clear hx183_5
  try clear hx183_6
  try clear hx185_0
  try clear hx185_1
  try clear hx185_2
  try clear hx185_3
  try clear hx185_4
  try clear hx185_5
  try clear hx185_6
  try clear hx187_0
  try clear hx187_1
  try clear hx187_2
  try clear hx187_3
  try clear hx187_4
  try clear hx187_5
  try clear hx187_6
  obtain ⟨kq, x26_2, rfl, HA, HJ2, HB⟩ := hcut
  cases kq with
  | zero => exact absurd HA.out (by simp [spec_l24Ok_at.j0])
  | succ kj2 =>
   have H := HA.out
   clear HA
   simp only [spec_l24Ok_at.j0] at H
   by_cases c7 : x26_2 = true
   ·subst c7
    have H1 : (some false) = some r := by rw [if_pos rfl] at H; exact H
    clear H
    have H := H1
    clear H1
    obtain rfl := Option.some.inj H
    go_wp2
    go_ret
    exact ⟨eQ, bQ⟩
   ·replace c7 := Bool.eq_false_iff.mpr c7
    subst c7
    have H1 : ((spec_IsName.f kj2 ((rd_T39 l0_0 a0_1).f1)).bind fun t190 => (if ((rd_T39 l0_0 a0_1).f0) = 1 then (if t190 = true then ((spec_l24Items.f kj2 ((rd_T39 l0_0 a0_1).f3) 1 20).bind fun t194 => (if t194 = true then (if (((rd_T39 l0_0 a0_1).f5).length : Int) = 0 then (some (((rd_T39 l0_0 a0_1).f6) == 0)) else (some false)) else (some false))) else (some false)) else (if ((rd_T39 l0_0 a0_1).f0) = 2 then (if t190 = true then (if (((rd_T39 l0_0 a0_1).f3).length : Int) = 0 then (if (((rd_T39 l0_0 a0_1).f5).length : Int) = 0 then (some (((rd_T39 l0_0 a0_1).f6) == 0)) else (some false)) else (some false)) else (some false)) else (if ((rd_T39 l0_0 a0_1).f0) = 3 then (if ((rd_T39 l0_0 a0_1).f1).toList = ([] : List UInt8) then ((spec_l24Items.f kj2 ((rd_T39 l0_0 a0_1).f3) 1 t184).bind fun t200 => (if t200 = true then ((spec_l24Items.f kj2 ((rd_T39 l0_0 a0_1).f5) 0 t184).bind fun t202 => (if t202 = true then (some (((rd_T39 l0_0 a0_1).f6) == 0)) else (some false))) else (some false))) else (some false)) else (if ((rd_T39 l0_0 a0_1).f0) = 4 then (if ((rd_T39 l0_0 a0_1).f1).toList = ([] : List UInt8) then (if (((rd_T39 l0_0 a0_1).f3).length : Int) = 0 then (if (((rd_T39 l0_0 a0_1).f5).length : Int) = 0 then (some (((rd_T39 l0_0 a0_1).f6) == 0)) else (some false)) else (some false)) else (some false)) else (if ((rd_T39 l0_0 a0_1).f0) = 5 then (if ((rd_T39 l0_0 a0_1).f1).toList = ([] : List UInt8) then ((spec_l24Items.f kj2 ((rd_T39 l0_0 a0_1).f3) 2 2).bind fun t209 => (if t209 = true then (if (((rd_T39 l0_0 a0_1).f5).length : Int) = 0 then ((spec_l00In.f ((rd_T39 l0_0 a0_1).f6) (-262144) 262144).bind fun t211 => (some t211)) else (some false)) else (some false))) else (some false)) else (if ((rd_T39 l0_0 a0_1).f0) = 6 then (if t190 = true then ((spec_l24Items.f kj2 ((rd_T39 l0_0 a0_1).f3) 2 2).bind fun t213 => (if t213 = true then (if (((rd_T39 l0_0 a0_1).f5).length : Int) = 0 then (some (((rd_T39 l0_0 a0_1).f6) == 0)) else (some false)) else (some false))) else (some false)) else (if ((rd_T39 l0_0 a0_1).f0) = 7 then (if t190 = true then (if (((rd_T39 l0_0 a0_1).f3).length : Int) = 0 then ((spec_l24Forms.f kj2 ((rd_T39 l0_0 a0_1).f5)).bind fun t217 => (if t217 = true then ((spec_l00In.f ((rd_T39 l0_0 a0_1).f6) 1 3).bind fun t219 => (some t219)) else (some false))) else (some false)) else (some false)) else (some false))))))))) = some r := by rw [if_neg (show ¬ (false = true) by decide)] at H; exact H
    clear H
    have H := H1
    clear H1
    replace H := Option.bind_eq_some_iff.mp H
    obtain ⟨t190, A80, H⟩ := H
    replace H : (if ((rd_T39 l0_0 a0_1).f0) = 1 then (if t190 = true then ((spec_l24Items.f kj2 ((rd_T39 l0_0 a0_1).f3) 1 20).bind fun t194 => (if t194 = true then (if (((rd_T39 l0_0 a0_1).f5).length : Int) = 0 then (some (((rd_T39 l0_0 a0_1).f6) == 0)) else (some false)) else (some false))) else (some false)) else (if ((rd_T39 l0_0 a0_1).f0) = 2 then (if t190 = true then (if (((rd_T39 l0_0 a0_1).f3).length : Int) = 0 then (if (((rd_T39 l0_0 a0_1).f5).length : Int) = 0 then (some (((rd_T39 l0_0 a0_1).f6) == 0)) else (some false)) else (some false)) else (some false)) else (if ((rd_T39 l0_0 a0_1).f0) = 3 then (if ((rd_T39 l0_0 a0_1).f1).toList = ([] : List UInt8) then ((spec_l24Items.f kj2 ((rd_T39 l0_0 a0_1).f3) 1 t184).bind fun t200 => (if t200 = true then ((spec_l24Items.f kj2 ((rd_T39 l0_0 a0_1).f5) 0 t184).bind fun t202 => (if t202 = true then (some (((rd_T39 l0_0 a0_1).f6) == 0)) else (some false))) else (some false))) else (some false)) else (if ((rd_T39 l0_0 a0_1).f0) = 4 then (if ((rd_T39 l0_0 a0_1).f1).toList = ([] : List UInt8) then (if (((rd_T39 l0_0 a0_1).f3).length : Int) = 0 then (if (((rd_T39 l0_0 a0_1).f5).length : Int) = 0 then (some (((rd_T39 l0_0 a0_1).f6) == 0)) else (some false)) else (some false)) else (some false)) else (if ((rd_T39 l0_0 a0_1).f0) = 5 then (if ((rd_T39 l0_0 a0_1).f1).toList = ([] : List UInt8) then ((spec_l24Items.f kj2 ((rd_T39 l0_0 a0_1).f3) 2 2).bind fun t209 => (if t209 = true then (if (((rd_T39 l0_0 a0_1).f5).length : Int) = 0 then ((spec_l00In.f ((rd_T39 l0_0 a0_1).f6) (-262144) 262144).bind fun t211 => (some t211)) else (some false)) else (some false))) else (some false)) else (if ((rd_T39 l0_0 a0_1).f0) = 6 then (if t190 = true then ((spec_l24Items.f kj2 ((rd_T39 l0_0 a0_1).f3) 2 2).bind fun t213 => (if t213 = true then (if (((rd_T39 l0_0 a0_1).f5).length : Int) = 0 then (some (((rd_T39 l0_0 a0_1).f6) == 0)) else (some false)) else (some false))) else (some false)) else (if ((rd_T39 l0_0 a0_1).f0) = 7 then (if t190 = true then (if (((rd_T39 l0_0 a0_1).f3).length : Int) = 0 then ((spec_l24Forms.f kj2 ((rd_T39 l0_0 a0_1).f5)).bind fun t217 => (if t217 = true then ((spec_l00In.f ((rd_T39 l0_0 a0_1).f6) 1 3).bind fun t219 => (some t219)) else (some false))) else (some false)) else (some false)) else (some false)))))))) = some r := H
    have A8 := aM A80
    clear A80
    by_cases c9 : ((rd_T39 l0_0 a0_1).f0) = 1
    ·rw [if_pos c9] at H
     have c9b0 : (((rd_T39 l0_0 a0_1).f0) == 1) = true := beq_iff_eq.mpr c9
     have c9b1 : (((rd_T39 l0_0 a0_1).f0) != 1) = false := bne_eq_false_iff_eq.mpr c9
     clear c9
     by_cases c10 : t190 = true
     ·subst c10
      have H1 : ((spec_l24Items.f kj2 ((rd_T39 l0_0 a0_1).f3) 1 20).bind fun t194 => (if t194 = true then (if (((rd_T39 l0_0 a0_1).f5).length : Int) = 0 then (some (((rd_T39 l0_0 a0_1).f6) == 0)) else (some false)) else (some false))) = some r := by rw [if_pos rfl] at H; exact H
      clear H
      have H := H1
      clear H1
      replace H := Option.bind_eq_some_iff.mp H
      obtain ⟨t194, A110, H⟩ := H
      replace H : (if t194 = true then (if (((rd_T39 l0_0 a0_1).f5).length : Int) = 0 then (some (((rd_T39 l0_0 a0_1).f6) == 0)) else (some false)) else (some false)) = some r := H
      have A11 := aM A110
      clear A110
      by_cases c12 : t194 = true
      ·subst c12
       have H1 : (if (((rd_T39 l0_0 a0_1).f5).length : Int) = 0 then (some (((rd_T39 l0_0 a0_1).f6) == 0)) else (some false)) = some r := by rw [if_pos rfl] at H; exact H
       clear H
       have H := H1
       clear H1
       by_cases c13 : (((rd_T39 l0_0 a0_1).f5).length : Int) = 0
       ·rw [if_pos c13] at H
        have c13b0 : ((((rd_T39 l0_0 a0_1).f5).length : Int) == 0) = true := beq_iff_eq.mpr c13
        have c13b1 : ((((rd_T39 l0_0 a0_1).f5).length : Int) != 0) = false := bne_eq_false_iff_eq.mpr c13
        clear c13
        obtain rfl := Option.some.inj H
        have hx189_0 := HX9000_0.out
        have hx189_1 := HX9000_1.out
        have hx189_2 := HX9000_2.out
        have hx189_3 := HX9000_3.out
        have hx189_4 := HX9000_4.out
        have hx189_5 := HX9000_5.out
        have hx189_6 := HX9000_6.out
        replace hx189_0 := cB HB.out hx189_0
        replace hx189_1 := cB HB.out hx189_1
        replace hx189_2 := cB HB.out hx189_2
        replace hx189_3 := cB HB.out hx189_3
        replace hx189_4 := cB HB.out hx189_4
        replace hx189_5 := cB HB.out hx189_5
        replace hx189_6 := cB HB.out hx189_6
        have HR189_2 := HR9000_2
        have HC189_2 := HC9000_2
        have HR189_3 := HR9000_3
        have HC189_3 := HC9000_3
        have HR189_4 := HR9000_4
        have HC189_4 := HC9000_4
        have HR189_5 := HR9000_5
        have HC189_5 := HC9000_5
        go_wp2_with (first | ((with_reducible refine gate_callee (f := 53) rfl ?_); refine goesL_ (some 31) rfl rfl Try.func53 (by kernel_rfl) rfl #[.string ((rd_T39 l0_0 a0_1).f1)] rfl gQ ?_; (with_reducible refine (spec_IsName.calls kj2 ((rd_T39 l0_0 a0_1).f1) true _ A8.out).mono ?_); rintro e w' ⟨rfl, ⟨nd, rfl⟩⟩; refine ⟨_, rfl, ?_⟩; have hx191_0 := HX9000_0.out; have hx191_1 := HX9000_1.out; have hx191_2 := HX9000_2.out; have hx191_3 := HX9000_3.out; have hx191_4 := HX9000_4.out; have hx191_5 := HX9000_5.out; have hx191_6 := HX9000_6.out; replace hx191_0 := cB HB.out hx191_0; replace hx191_1 := cB HB.out hx191_1; replace hx191_2 := cB HB.out hx191_2; replace hx191_3 := cB HB.out hx191_3; replace hx191_4 := cB HB.out hx191_4; replace hx191_5 := cB HB.out hx191_5; replace hx191_6 := cB HB.out hx191_6; have HR191_2 := HR9000_2; have HC191_2 := HC9000_2; have HR191_3 := HR9000_3; have HC191_3 := HC9000_3; have HR191_4 := HR9000_4; have HC191_4 := HC9000_4; have HR191_5 := HR9000_5; have HC191_5 := HC9000_5; have hx192_0 := HX9000_0.out; have hx192_1 := HX9000_1.out; have hx192_2 := HX9000_2.out; have hx192_3 := HX9000_3.out; have hx192_4 := HX9000_4.out; have hx192_5 := HX9000_5.out; have hx192_6 := HX9000_6.out; replace hx192_0 := cB HB.out hx192_0; replace hx192_1 := cB HB.out hx192_1; replace hx192_2 := cB HB.out hx192_2; replace hx192_3 := cB HB.out hx192_3; replace hx192_4 := cB HB.out hx192_4; replace hx192_5 := cB HB.out hx192_5; replace hx192_6 := cB HB.out hx192_6; have HR192_2 := HR9000_2; have HC192_2 := HC9000_2; have HR192_3 := HR9000_3; have HC192_3 := HC9000_3; have HR192_4 := HR9000_4; have HC192_4 := HC9000_4; have HR192_5 := HR9000_5; have HC192_5 := HC9000_5; have hx193_0 := HX9000_0.out; have hx193_1 := HX9000_1.out; have hx193_2 := HX9000_2.out; have hx193_3 := HX9000_3.out; have hx193_4 := HX9000_4.out; have hx193_5 := HX9000_5.out; have hx193_6 := HX9000_6.out; replace hx193_0 := cB HB.out hx193_0; replace hx193_1 := cB HB.out hx193_1; replace hx193_2 := cB HB.out hx193_2; replace hx193_3 := cB HB.out hx193_3; replace hx193_4 := cB HB.out hx193_4; replace hx193_5 := cB HB.out hx193_5; replace hx193_6 := cB HB.out hx193_6; have HR193_2 := HR9000_2; have HC193_2 := HC9000_2; have HR193_3 := HR9000_3; have HC193_3 := HC9000_3; have HR193_4 := HR9000_4; have HC193_4 := HC9000_4; have HR193_5 := HR9000_5; have HC193_5 := HC9000_5) | (go_at_call 52; (with_reducible refine (spec_l24Items.calls kj2 _ _ ((rd_T39 l0_0 a0_1).f3) 1 20 true _ ?side1 ?side2 A11.out).mono ?_); (case side1 => exact cQ HR193_3.out); (case side2 => exact HC193_3.out); rintro e w' ⟨rfl, ⟨nd, rfl⟩⟩; have hx195_0 := HX9000_0.out; have hx195_1 := HX9000_1.out; have hx195_2 := HX9000_2.out; have hx195_3 := HX9000_3.out; have hx195_4 := HX9000_4.out; have hx195_5 := HX9000_5.out; have hx195_6 := HX9000_6.out; replace hx195_0 := cB HB.out hx195_0; replace hx195_1 := cB HB.out hx195_1; replace hx195_2 := cB HB.out hx195_2; replace hx195_3 := cB HB.out hx195_3; replace hx195_4 := cB HB.out hx195_4; replace hx195_5 := cB HB.out hx195_5; replace hx195_6 := cB HB.out hx195_6; have HR195_2 := HR9000_2; have HC195_2 := HC9000_2; have HR195_3 := HR9000_3; have HC195_3 := HC9000_3; have HR195_4 := HR9000_4; have HC195_4 := HC9000_4; have HR195_5 := HR9000_5; have HC195_5 := HC9000_5))
        go_ret
        exact ⟨eQ, bQ⟩
       ·rw [if_neg c13] at H
        have c13b0 : ((((rd_T39 l0_0 a0_1).f5).length : Int) == 0) = false := beq_eq_false_iff_ne.mpr c13
        have c13b1 : ((((rd_T39 l0_0 a0_1).f5).length : Int) != 0) = true := bne_iff_ne.mpr c13
        have c13b2 : ¬ (((rd_T39 l0_0 a0_1).f5) = []) := fun h_ => c13 (by rw [h_]; rfl)
        obtain rfl := Option.some.inj H
        have hx189_0 := HX9000_0.out
        have hx189_1 := HX9000_1.out
        have hx189_2 := HX9000_2.out
        have hx189_3 := HX9000_3.out
        have hx189_4 := HX9000_4.out
        have hx189_5 := HX9000_5.out
        have hx189_6 := HX9000_6.out
        replace hx189_0 := cB HB.out hx189_0
        replace hx189_1 := cB HB.out hx189_1
        replace hx189_2 := cB HB.out hx189_2
        replace hx189_3 := cB HB.out hx189_3
        replace hx189_4 := cB HB.out hx189_4
        replace hx189_5 := cB HB.out hx189_5
        replace hx189_6 := cB HB.out hx189_6
        have HR189_2 := HR9000_2
        have HC189_2 := HC9000_2
        have HR189_3 := HR9000_3
        have HC189_3 := HC9000_3
        have HR189_4 := HR9000_4
        have HC189_4 := HC9000_4
        have HR189_5 := HR9000_5
        have HC189_5 := HC9000_5
        go_wp2_with (first | ((with_reducible refine gate_callee (f := 53) rfl ?_); refine goesL_ (some 31) rfl rfl Try.func53 (by kernel_rfl) rfl #[.string ((rd_T39 l0_0 a0_1).f1)] rfl gQ ?_; (with_reducible refine (spec_IsName.calls kj2 ((rd_T39 l0_0 a0_1).f1) true _ A8.out).mono ?_); rintro e w' ⟨rfl, ⟨nd, rfl⟩⟩; refine ⟨_, rfl, ?_⟩; have hx191_0 := HX9000_0.out; have hx191_1 := HX9000_1.out; have hx191_2 := HX9000_2.out; have hx191_3 := HX9000_3.out; have hx191_4 := HX9000_4.out; have hx191_5 := HX9000_5.out; have hx191_6 := HX9000_6.out; replace hx191_0 := cB HB.out hx191_0; replace hx191_1 := cB HB.out hx191_1; replace hx191_2 := cB HB.out hx191_2; replace hx191_3 := cB HB.out hx191_3; replace hx191_4 := cB HB.out hx191_4; replace hx191_5 := cB HB.out hx191_5; replace hx191_6 := cB HB.out hx191_6; have HR191_2 := HR9000_2; have HC191_2 := HC9000_2; have HR191_3 := HR9000_3; have HC191_3 := HC9000_3; have HR191_4 := HR9000_4; have HC191_4 := HC9000_4; have HR191_5 := HR9000_5; have HC191_5 := HC9000_5; have hx192_0 := HX9000_0.out; have hx192_1 := HX9000_1.out; have hx192_2 := HX9000_2.out; have hx192_3 := HX9000_3.out; have hx192_4 := HX9000_4.out; have hx192_5 := HX9000_5.out; have hx192_6 := HX9000_6.out; replace hx192_0 := cB HB.out hx192_0; replace hx192_1 := cB HB.out hx192_1; replace hx192_2 := cB HB.out hx192_2; replace hx192_3 := cB HB.out hx192_3; replace hx192_4 := cB HB.out hx192_4; replace hx192_5 := cB HB.out hx192_5; replace hx192_6 := cB HB.out hx192_6; have HR192_2 := HR9000_2; have HC192_2 := HC9000_2; have HR192_3 := HR9000_3; have HC192_3 := HC9000_3; have HR192_4 := HR9000_4; have HC192_4 := HC9000_4; have HR192_5 := HR9000_5; have HC192_5 := HC9000_5; have hx193_0 := HX9000_0.out; have hx193_1 := HX9000_1.out; have hx193_2 := HX9000_2.out; have hx193_3 := HX9000_3.out; have hx193_4 := HX9000_4.out; have hx193_5 := HX9000_5.out; have hx193_6 := HX9000_6.out; replace hx193_0 := cB HB.out hx193_0; replace hx193_1 := cB HB.out hx193_1; replace hx193_2 := cB HB.out hx193_2; replace hx193_3 := cB HB.out hx193_3; replace hx193_4 := cB HB.out hx193_4; replace hx193_5 := cB HB.out hx193_5; replace hx193_6 := cB HB.out hx193_6; have HR193_2 := HR9000_2; have HC193_2 := HC9000_2; have HR193_3 := HR9000_3; have HC193_3 := HC9000_3; have HR193_4 := HR9000_4; have HC193_4 := HC9000_4; have HR193_5 := HR9000_5; have HC193_5 := HC9000_5) | (go_at_call 52; (with_reducible refine (spec_l24Items.calls kj2 _ _ ((rd_T39 l0_0 a0_1).f3) 1 20 true _ ?side1 ?side2 A11.out).mono ?_); (case side1 => exact cQ HR193_3.out); (case side2 => exact HC193_3.out); rintro e w' ⟨rfl, ⟨nd, rfl⟩⟩))
        go_ret
        exact ⟨eQ, bQ⟩
      ·replace c12 := Bool.eq_false_iff.mpr c12
       subst c12
       have H1 : (some false) = some r := by rw [if_neg (show ¬ (false = true) by decide)] at H; exact H
       clear H
       have H := H1
       clear H1
       obtain rfl := Option.some.inj H
       have hx189_0 := HX9000_0.out
       have hx189_1 := HX9000_1.out
       have hx189_2 := HX9000_2.out
       have hx189_3 := HX9000_3.out
       have hx189_4 := HX9000_4.out
       have hx189_5 := HX9000_5.out
       have hx189_6 := HX9000_6.out
       replace hx189_0 := cB HB.out hx189_0
       replace hx189_1 := cB HB.out hx189_1
       replace hx189_2 := cB HB.out hx189_2
       replace hx189_3 := cB HB.out hx189_3
       replace hx189_4 := cB HB.out hx189_4
       replace hx189_5 := cB HB.out hx189_5
       replace hx189_6 := cB HB.out hx189_6
       have HR189_2 := HR9000_2
       have HC189_2 := HC9000_2
       have HR189_3 := HR9000_3
       have HC189_3 := HC9000_3
       have HR189_4 := HR9000_4
       have HC189_4 := HC9000_4
       have HR189_5 := HR9000_5
       have HC189_5 := HC9000_5
       go_wp2_with (first | ((with_reducible refine gate_callee (f := 53) rfl ?_); refine goesL_ (some 31) rfl rfl Try.func53 (by kernel_rfl) rfl #[.string ((rd_T39 l0_0 a0_1).f1)] rfl gQ ?_; (with_reducible refine (spec_IsName.calls kj2 ((rd_T39 l0_0 a0_1).f1) true _ A8.out).mono ?_); rintro e w' ⟨rfl, ⟨nd, rfl⟩⟩; refine ⟨_, rfl, ?_⟩; have hx191_0 := HX9000_0.out; have hx191_1 := HX9000_1.out; have hx191_2 := HX9000_2.out; have hx191_3 := HX9000_3.out; have hx191_4 := HX9000_4.out; have hx191_5 := HX9000_5.out; have hx191_6 := HX9000_6.out; replace hx191_0 := cB HB.out hx191_0; replace hx191_1 := cB HB.out hx191_1; replace hx191_2 := cB HB.out hx191_2; replace hx191_3 := cB HB.out hx191_3; replace hx191_4 := cB HB.out hx191_4; replace hx191_5 := cB HB.out hx191_5; replace hx191_6 := cB HB.out hx191_6; have HR191_2 := HR9000_2; have HC191_2 := HC9000_2; have HR191_3 := HR9000_3; have HC191_3 := HC9000_3; have HR191_4 := HR9000_4; have HC191_4 := HC9000_4; have HR191_5 := HR9000_5; have HC191_5 := HC9000_5; have hx192_0 := HX9000_0.out; have hx192_1 := HX9000_1.out; have hx192_2 := HX9000_2.out; have hx192_3 := HX9000_3.out; have hx192_4 := HX9000_4.out; have hx192_5 := HX9000_5.out; have hx192_6 := HX9000_6.out; replace hx192_0 := cB HB.out hx192_0; replace hx192_1 := cB HB.out hx192_1; replace hx192_2 := cB HB.out hx192_2; replace hx192_3 := cB HB.out hx192_3; replace hx192_4 := cB HB.out hx192_4; replace hx192_5 := cB HB.out hx192_5; replace hx192_6 := cB HB.out hx192_6; have HR192_2 := HR9000_2; have HC192_2 := HC9000_2; have HR192_3 := HR9000_3; have HC192_3 := HC9000_3; have HR192_4 := HR9000_4; have HC192_4 := HC9000_4; have HR192_5 := HR9000_5; have HC192_5 := HC9000_5; have hx193_0 := HX9000_0.out; have hx193_1 := HX9000_1.out; have hx193_2 := HX9000_2.out; have hx193_3 := HX9000_3.out; have hx193_4 := HX9000_4.out; have hx193_5 := HX9000_5.out; have hx193_6 := HX9000_6.out; replace hx193_0 := cB HB.out hx193_0; replace hx193_1 := cB HB.out hx193_1; replace hx193_2 := cB HB.out hx193_2; replace hx193_3 := cB HB.out hx193_3; replace hx193_4 := cB HB.out hx193_4; replace hx193_5 := cB HB.out hx193_5; replace hx193_6 := cB HB.out hx193_6; have HR193_2 := HR9000_2; have HC193_2 := HC9000_2; have HR193_3 := HR9000_3; have HC193_3 := HC9000_3; have HR193_4 := HR9000_4; have HC193_4 := HC9000_4; have HR193_5 := HR9000_5; have HC193_5 := HC9000_5) | (go_at_call 52; (with_reducible refine (spec_l24Items.calls kj2 _ _ ((rd_T39 l0_0 a0_1).f3) 1 20 false _ ?side1 ?side2 A11.out).mono ?_); (case side1 => exact cQ HR193_3.out); (case side2 => exact HC193_3.out); rintro e w' ⟨rfl, ⟨nd, rfl⟩⟩))
       go_ret
       exact ⟨eQ, bQ⟩
     ·replace c10 := Bool.eq_false_iff.mpr c10
      subst c10
      have H1 : (some false) = some r := by rw [if_neg (show ¬ (false = true) by decide)] at H; exact H
      clear H
      have H := H1
      clear H1
      obtain rfl := Option.some.inj H
      have hx189_0 := HX9000_0.out
      have hx189_1 := HX9000_1.out
      have hx189_2 := HX9000_2.out
      have hx189_3 := HX9000_3.out
      have hx189_4 := HX9000_4.out
      have hx189_5 := HX9000_5.out
      have hx189_6 := HX9000_6.out
      replace hx189_0 := cB HB.out hx189_0
      replace hx189_1 := cB HB.out hx189_1
      replace hx189_2 := cB HB.out hx189_2
      replace hx189_3 := cB HB.out hx189_3
      replace hx189_4 := cB HB.out hx189_4
      replace hx189_5 := cB HB.out hx189_5
      replace hx189_6 := cB HB.out hx189_6
      have HR189_2 := HR9000_2
      have HC189_2 := HC9000_2
      have HR189_3 := HR9000_3
      have HC189_3 := HC9000_3
      have HR189_4 := HR9000_4
      have HC189_4 := HC9000_4
      have HR189_5 := HR9000_5
      have HC189_5 := HC9000_5
      go_wp2_with (first | ((with_reducible refine gate_callee (f := 53) rfl ?_); refine goesL_ (some 31) rfl rfl Try.func53 (by kernel_rfl) rfl #[.string ((rd_T39 l0_0 a0_1).f1)] rfl gQ ?_; (with_reducible refine (spec_IsName.calls kj2 ((rd_T39 l0_0 a0_1).f1) false _ A8.out).mono ?_); rintro e w' ⟨rfl, ⟨nd, rfl⟩⟩; refine ⟨_, rfl, ?_⟩; have hx191_0 := HX9000_0.out; have hx191_1 := HX9000_1.out; have hx191_2 := HX9000_2.out; have hx191_3 := HX9000_3.out; have hx191_4 := HX9000_4.out; have hx191_5 := HX9000_5.out; have hx191_6 := HX9000_6.out; replace hx191_0 := cB HB.out hx191_0; replace hx191_1 := cB HB.out hx191_1; replace hx191_2 := cB HB.out hx191_2; replace hx191_3 := cB HB.out hx191_3; replace hx191_4 := cB HB.out hx191_4; replace hx191_5 := cB HB.out hx191_5; replace hx191_6 := cB HB.out hx191_6; have HR191_2 := HR9000_2; have HC191_2 := HC9000_2; have HR191_3 := HR9000_3; have HC191_3 := HC9000_3; have HR191_4 := HR9000_4; have HC191_4 := HC9000_4; have HR191_5 := HR9000_5; have HC191_5 := HC9000_5; have hx192_0 := HX9000_0.out; have hx192_1 := HX9000_1.out; have hx192_2 := HX9000_2.out; have hx192_3 := HX9000_3.out; have hx192_4 := HX9000_4.out; have hx192_5 := HX9000_5.out; have hx192_6 := HX9000_6.out; replace hx192_0 := cB HB.out hx192_0; replace hx192_1 := cB HB.out hx192_1; replace hx192_2 := cB HB.out hx192_2; replace hx192_3 := cB HB.out hx192_3; replace hx192_4 := cB HB.out hx192_4; replace hx192_5 := cB HB.out hx192_5; replace hx192_6 := cB HB.out hx192_6; have HR192_2 := HR9000_2; have HC192_2 := HC9000_2; have HR192_3 := HR9000_3; have HC192_3 := HC9000_3; have HR192_4 := HR9000_4; have HC192_4 := HC9000_4; have HR192_5 := HR9000_5; have HC192_5 := HC9000_5))
      go_ret
      exact ⟨eQ, bQ⟩
    ·rw [if_neg c9] at H
     have c9b0 : (((rd_T39 l0_0 a0_1).f0) == 1) = false := beq_eq_false_iff_ne.mpr c9
     have c9b1 : (((rd_T39 l0_0 a0_1).f0) != 1) = true := bne_iff_ne.mpr c9
     by_cases c14 : ((rd_T39 l0_0 a0_1).f0) = 2
     ·rw [if_pos c14] at H
      have c14b0 : (((rd_T39 l0_0 a0_1).f0) == 2) = true := beq_iff_eq.mpr c14
      have c14b1 : (((rd_T39 l0_0 a0_1).f0) != 2) = false := bne_eq_false_iff_eq.mpr c14
      clear c14
      by_cases c15 : t190 = true
      ·subst c15
       have H1 : (if (((rd_T39 l0_0 a0_1).f3).length : Int) = 0 then (if (((rd_T39 l0_0 a0_1).f5).length : Int) = 0 then (some (((rd_T39 l0_0 a0_1).f6) == 0)) else (some false)) else (some false)) = some r := by rw [if_pos rfl] at H; exact H
       clear H
       have H := H1
       clear H1
       by_cases c16 : (((rd_T39 l0_0 a0_1).f3).length : Int) = 0
       ·rw [if_pos c16] at H
        have c16b0 : ((((rd_T39 l0_0 a0_1).f3).length : Int) == 0) = true := beq_iff_eq.mpr c16
        have c16b1 : ((((rd_T39 l0_0 a0_1).f3).length : Int) != 0) = false := bne_eq_false_iff_eq.mpr c16
        clear c16
        by_cases c17 : (((rd_T39 l0_0 a0_1).f5).length : Int) = 0
        ·rw [if_pos c17] at H
         have c17b0 : ((((rd_T39 l0_0 a0_1).f5).length : Int) == 0) = true := beq_iff_eq.mpr c17
         have c17b1 : ((((rd_T39 l0_0 a0_1).f5).length : Int) != 0) = false := bne_eq_false_iff_eq.mpr c17
         clear c17
         obtain rfl := Option.some.inj H
         have hx189_0 := HX9000_0.out
         have hx189_1 := HX9000_1.out
         have hx189_2 := HX9000_2.out
         have hx189_3 := HX9000_3.out
         have hx189_4 := HX9000_4.out
         have hx189_5 := HX9000_5.out
         have hx189_6 := HX9000_6.out
         replace hx189_0 := cB HB.out hx189_0
         replace hx189_1 := cB HB.out hx189_1
         replace hx189_2 := cB HB.out hx189_2
         replace hx189_3 := cB HB.out hx189_3
         replace hx189_4 := cB HB.out hx189_4
         replace hx189_5 := cB HB.out hx189_5
         replace hx189_6 := cB HB.out hx189_6
         have HR189_2 := HR9000_2
         have HC189_2 := HC9000_2
         have HR189_3 := HR9000_3
         have HC189_3 := HC9000_3
         have HR189_4 := HR9000_4
         have HC189_4 := HC9000_4
         have HR189_5 := HR9000_5
         have HC189_5 := HC9000_5
         go_wp2_with (first | ((with_reducible refine gate_callee (f := 53) rfl ?_); refine goesL_ (some 31) rfl rfl Try.func53 (by kernel_rfl) rfl #[.string ((rd_T39 l0_0 a0_1).f1)] rfl gQ ?_; (with_reducible refine (spec_IsName.calls kj2 ((rd_T39 l0_0 a0_1).f1) true _ A8.out).mono ?_); rintro e w' ⟨rfl, ⟨nd, rfl⟩⟩; refine ⟨_, rfl, ?_⟩; have hx191_0 := HX9000_0.out; have hx191_1 := HX9000_1.out; have hx191_2 := HX9000_2.out; have hx191_3 := HX9000_3.out; have hx191_4 := HX9000_4.out; have hx191_5 := HX9000_5.out; have hx191_6 := HX9000_6.out; replace hx191_0 := cB HB.out hx191_0; replace hx191_1 := cB HB.out hx191_1; replace hx191_2 := cB HB.out hx191_2; replace hx191_3 := cB HB.out hx191_3; replace hx191_4 := cB HB.out hx191_4; replace hx191_5 := cB HB.out hx191_5; replace hx191_6 := cB HB.out hx191_6; have HR191_2 := HR9000_2; have HC191_2 := HC9000_2; have HR191_3 := HR9000_3; have HC191_3 := HC9000_3; have HR191_4 := HR9000_4; have HC191_4 := HC9000_4; have HR191_5 := HR9000_5; have HC191_5 := HC9000_5; have hx192_0 := HX9000_0.out; have hx192_1 := HX9000_1.out; have hx192_2 := HX9000_2.out; have hx192_3 := HX9000_3.out; have hx192_4 := HX9000_4.out; have hx192_5 := HX9000_5.out; have hx192_6 := HX9000_6.out; replace hx192_0 := cB HB.out hx192_0; replace hx192_1 := cB HB.out hx192_1; replace hx192_2 := cB HB.out hx192_2; replace hx192_3 := cB HB.out hx192_3; replace hx192_4 := cB HB.out hx192_4; replace hx192_5 := cB HB.out hx192_5; replace hx192_6 := cB HB.out hx192_6; have HR192_2 := HR9000_2; have HC192_2 := HC9000_2; have HR192_3 := HR9000_3; have HC192_3 := HC9000_3; have HR192_4 := HR9000_4; have HC192_4 := HC9000_4; have HR192_5 := HR9000_5; have HC192_5 := HC9000_5; have hx196_0 := HX9000_0.out; have hx196_1 := HX9000_1.out; have hx196_2 := HX9000_2.out; have hx196_3 := HX9000_3.out; have hx196_4 := HX9000_4.out; have hx196_5 := HX9000_5.out; have hx196_6 := HX9000_6.out; replace hx196_0 := cB HB.out hx196_0; replace hx196_1 := cB HB.out hx196_1; replace hx196_2 := cB HB.out hx196_2; replace hx196_3 := cB HB.out hx196_3; replace hx196_4 := cB HB.out hx196_4; replace hx196_5 := cB HB.out hx196_5; replace hx196_6 := cB HB.out hx196_6; have HR196_2 := HR9000_2; have HC196_2 := HC9000_2; have HR196_3 := HR9000_3; have HC196_3 := HC9000_3; have HR196_4 := HR9000_4; have HC196_4 := HC9000_4; have HR196_5 := HR9000_5; have HC196_5 := HC9000_5; have hx197_0 := HX9000_0.out; have hx197_1 := HX9000_1.out; have hx197_2 := HX9000_2.out; have hx197_3 := HX9000_3.out; have hx197_4 := HX9000_4.out; have hx197_5 := HX9000_5.out; have hx197_6 := HX9000_6.out; replace hx197_0 := cB HB.out hx197_0; replace hx197_1 := cB HB.out hx197_1; replace hx197_2 := cB HB.out hx197_2; replace hx197_3 := cB HB.out hx197_3; replace hx197_4 := cB HB.out hx197_4; replace hx197_5 := cB HB.out hx197_5; replace hx197_6 := cB HB.out hx197_6; have HR197_2 := HR9000_2; have HC197_2 := HC9000_2; have HR197_3 := HR9000_3; have HC197_3 := HC9000_3; have HR197_4 := HR9000_4; have HC197_4 := HC9000_4; have HR197_5 := HR9000_5; have HC197_5 := HC9000_5))
         go_ret
         exact ⟨eQ, bQ⟩
        ·rw [if_neg c17] at H
         have c17b0 : ((((rd_T39 l0_0 a0_1).f5).length : Int) == 0) = false := beq_eq_false_iff_ne.mpr c17
         have c17b1 : ((((rd_T39 l0_0 a0_1).f5).length : Int) != 0) = true := bne_iff_ne.mpr c17
         have c17b2 : ¬ (((rd_T39 l0_0 a0_1).f5) = []) := fun h_ => c17 (by rw [h_]; rfl)
         obtain rfl := Option.some.inj H
         have hx189_0 := HX9000_0.out
         have hx189_1 := HX9000_1.out
         have hx189_2 := HX9000_2.out
         have hx189_3 := HX9000_3.out
         have hx189_4 := HX9000_4.out
         have hx189_5 := HX9000_5.out
         have hx189_6 := HX9000_6.out
         replace hx189_0 := cB HB.out hx189_0
         replace hx189_1 := cB HB.out hx189_1
         replace hx189_2 := cB HB.out hx189_2
         replace hx189_3 := cB HB.out hx189_3
         replace hx189_4 := cB HB.out hx189_4
         replace hx189_5 := cB HB.out hx189_5
         replace hx189_6 := cB HB.out hx189_6
         have HR189_2 := HR9000_2
         have HC189_2 := HC9000_2
         have HR189_3 := HR9000_3
         have HC189_3 := HC9000_3
         have HR189_4 := HR9000_4
         have HC189_4 := HC9000_4
         have HR189_5 := HR9000_5
         have HC189_5 := HC9000_5
         go_wp2_with (first | ((with_reducible refine gate_callee (f := 53) rfl ?_); refine goesL_ (some 31) rfl rfl Try.func53 (by kernel_rfl) rfl #[.string ((rd_T39 l0_0 a0_1).f1)] rfl gQ ?_; (with_reducible refine (spec_IsName.calls kj2 ((rd_T39 l0_0 a0_1).f1) true _ A8.out).mono ?_); rintro e w' ⟨rfl, ⟨nd, rfl⟩⟩; refine ⟨_, rfl, ?_⟩; have hx191_0 := HX9000_0.out; have hx191_1 := HX9000_1.out; have hx191_2 := HX9000_2.out; have hx191_3 := HX9000_3.out; have hx191_4 := HX9000_4.out; have hx191_5 := HX9000_5.out; have hx191_6 := HX9000_6.out; replace hx191_0 := cB HB.out hx191_0; replace hx191_1 := cB HB.out hx191_1; replace hx191_2 := cB HB.out hx191_2; replace hx191_3 := cB HB.out hx191_3; replace hx191_4 := cB HB.out hx191_4; replace hx191_5 := cB HB.out hx191_5; replace hx191_6 := cB HB.out hx191_6; have HR191_2 := HR9000_2; have HC191_2 := HC9000_2; have HR191_3 := HR9000_3; have HC191_3 := HC9000_3; have HR191_4 := HR9000_4; have HC191_4 := HC9000_4; have HR191_5 := HR9000_5; have HC191_5 := HC9000_5; have hx192_0 := HX9000_0.out; have hx192_1 := HX9000_1.out; have hx192_2 := HX9000_2.out; have hx192_3 := HX9000_3.out; have hx192_4 := HX9000_4.out; have hx192_5 := HX9000_5.out; have hx192_6 := HX9000_6.out; replace hx192_0 := cB HB.out hx192_0; replace hx192_1 := cB HB.out hx192_1; replace hx192_2 := cB HB.out hx192_2; replace hx192_3 := cB HB.out hx192_3; replace hx192_4 := cB HB.out hx192_4; replace hx192_5 := cB HB.out hx192_5; replace hx192_6 := cB HB.out hx192_6; have HR192_2 := HR9000_2; have HC192_2 := HC9000_2; have HR192_3 := HR9000_3; have HC192_3 := HC9000_3; have HR192_4 := HR9000_4; have HC192_4 := HC9000_4; have HR192_5 := HR9000_5; have HC192_5 := HC9000_5; have hx196_0 := HX9000_0.out; have hx196_1 := HX9000_1.out; have hx196_2 := HX9000_2.out; have hx196_3 := HX9000_3.out; have hx196_4 := HX9000_4.out; have hx196_5 := HX9000_5.out; have hx196_6 := HX9000_6.out; replace hx196_0 := cB HB.out hx196_0; replace hx196_1 := cB HB.out hx196_1; replace hx196_2 := cB HB.out hx196_2; replace hx196_3 := cB HB.out hx196_3; replace hx196_4 := cB HB.out hx196_4; replace hx196_5 := cB HB.out hx196_5; replace hx196_6 := cB HB.out hx196_6; have HR196_2 := HR9000_2; have HC196_2 := HC9000_2; have HR196_3 := HR9000_3; have HC196_3 := HC9000_3; have HR196_4 := HR9000_4; have HC196_4 := HC9000_4; have HR196_5 := HR9000_5; have HC196_5 := HC9000_5))
         go_ret
         exact ⟨eQ, bQ⟩
       ·rw [if_neg c16] at H
        have c16b0 : ((((rd_T39 l0_0 a0_1).f3).length : Int) == 0) = false := beq_eq_false_iff_ne.mpr c16
        have c16b1 : ((((rd_T39 l0_0 a0_1).f3).length : Int) != 0) = true := bne_iff_ne.mpr c16
        have c16b2 : ¬ (((rd_T39 l0_0 a0_1).f3) = []) := fun h_ => c16 (by rw [h_]; rfl)
        obtain rfl := Option.some.inj H
        have hx189_0 := HX9000_0.out
        have hx189_1 := HX9000_1.out
        have hx189_2 := HX9000_2.out
        have hx189_3 := HX9000_3.out
        have hx189_4 := HX9000_4.out
        have hx189_5 := HX9000_5.out
        have hx189_6 := HX9000_6.out
        replace hx189_0 := cB HB.out hx189_0
        replace hx189_1 := cB HB.out hx189_1
        replace hx189_2 := cB HB.out hx189_2
        replace hx189_3 := cB HB.out hx189_3
        replace hx189_4 := cB HB.out hx189_4
        replace hx189_5 := cB HB.out hx189_5
        replace hx189_6 := cB HB.out hx189_6
        have HR189_2 := HR9000_2
        have HC189_2 := HC9000_2
        have HR189_3 := HR9000_3
        have HC189_3 := HC9000_3
        have HR189_4 := HR9000_4
        have HC189_4 := HC9000_4
        have HR189_5 := HR9000_5
        have HC189_5 := HC9000_5
        go_wp2_with (first | ((with_reducible refine gate_callee (f := 53) rfl ?_); refine goesL_ (some 31) rfl rfl Try.func53 (by kernel_rfl) rfl #[.string ((rd_T39 l0_0 a0_1).f1)] rfl gQ ?_; (with_reducible refine (spec_IsName.calls kj2 ((rd_T39 l0_0 a0_1).f1) true _ A8.out).mono ?_); rintro e w' ⟨rfl, ⟨nd, rfl⟩⟩; refine ⟨_, rfl, ?_⟩; have hx191_0 := HX9000_0.out; have hx191_1 := HX9000_1.out; have hx191_2 := HX9000_2.out; have hx191_3 := HX9000_3.out; have hx191_4 := HX9000_4.out; have hx191_5 := HX9000_5.out; have hx191_6 := HX9000_6.out; replace hx191_0 := cB HB.out hx191_0; replace hx191_1 := cB HB.out hx191_1; replace hx191_2 := cB HB.out hx191_2; replace hx191_3 := cB HB.out hx191_3; replace hx191_4 := cB HB.out hx191_4; replace hx191_5 := cB HB.out hx191_5; replace hx191_6 := cB HB.out hx191_6; have HR191_2 := HR9000_2; have HC191_2 := HC9000_2; have HR191_3 := HR9000_3; have HC191_3 := HC9000_3; have HR191_4 := HR9000_4; have HC191_4 := HC9000_4; have HR191_5 := HR9000_5; have HC191_5 := HC9000_5; have hx192_0 := HX9000_0.out; have hx192_1 := HX9000_1.out; have hx192_2 := HX9000_2.out; have hx192_3 := HX9000_3.out; have hx192_4 := HX9000_4.out; have hx192_5 := HX9000_5.out; have hx192_6 := HX9000_6.out; replace hx192_0 := cB HB.out hx192_0; replace hx192_1 := cB HB.out hx192_1; replace hx192_2 := cB HB.out hx192_2; replace hx192_3 := cB HB.out hx192_3; replace hx192_4 := cB HB.out hx192_4; replace hx192_5 := cB HB.out hx192_5; replace hx192_6 := cB HB.out hx192_6; have HR192_2 := HR9000_2; have HC192_2 := HC9000_2; have HR192_3 := HR9000_3; have HC192_3 := HC9000_3; have HR192_4 := HR9000_4; have HC192_4 := HC9000_4; have HR192_5 := HR9000_5; have HC192_5 := HC9000_5; have hx196_0 := HX9000_0.out; have hx196_1 := HX9000_1.out; have hx196_2 := HX9000_2.out; have hx196_3 := HX9000_3.out; have hx196_4 := HX9000_4.out; have hx196_5 := HX9000_5.out; have hx196_6 := HX9000_6.out; replace hx196_0 := cB HB.out hx196_0; replace hx196_1 := cB HB.out hx196_1; replace hx196_2 := cB HB.out hx196_2; replace hx196_3 := cB HB.out hx196_3; replace hx196_4 := cB HB.out hx196_4; replace hx196_5 := cB HB.out hx196_5; replace hx196_6 := cB HB.out hx196_6; have HR196_2 := HR9000_2; have HC196_2 := HC9000_2; have HR196_3 := HR9000_3; have HC196_3 := HC9000_3; have HR196_4 := HR9000_4; have HC196_4 := HC9000_4; have HR196_5 := HR9000_5; have HC196_5 := HC9000_5))
        go_ret
        exact ⟨eQ, bQ⟩
      ·replace c15 := Bool.eq_false_iff.mpr c15
       subst c15
       have H1 : (some false) = some r := by rw [if_neg (show ¬ (false = true) by decide)] at H; exact H
       clear H
       have H := H1
       clear H1
       obtain rfl := Option.some.inj H
       have hx189_0 := HX9000_0.out
       have hx189_1 := HX9000_1.out
       have hx189_2 := HX9000_2.out
       have hx189_3 := HX9000_3.out
       have hx189_4 := HX9000_4.out
       have hx189_5 := HX9000_5.out
       have hx189_6 := HX9000_6.out
       replace hx189_0 := cB HB.out hx189_0
       replace hx189_1 := cB HB.out hx189_1
       replace hx189_2 := cB HB.out hx189_2
       replace hx189_3 := cB HB.out hx189_3
       replace hx189_4 := cB HB.out hx189_4
       replace hx189_5 := cB HB.out hx189_5
       replace hx189_6 := cB HB.out hx189_6
       have HR189_2 := HR9000_2
       have HC189_2 := HC9000_2
       have HR189_3 := HR9000_3
       have HC189_3 := HC9000_3
       have HR189_4 := HR9000_4
       have HC189_4 := HC9000_4
       have HR189_5 := HR9000_5
       have HC189_5 := HC9000_5
       go_wp2_with (first | ((with_reducible refine gate_callee (f := 53) rfl ?_); refine goesL_ (some 31) rfl rfl Try.func53 (by kernel_rfl) rfl #[.string ((rd_T39 l0_0 a0_1).f1)] rfl gQ ?_; (with_reducible refine (spec_IsName.calls kj2 ((rd_T39 l0_0 a0_1).f1) false _ A8.out).mono ?_); rintro e w' ⟨rfl, ⟨nd, rfl⟩⟩; refine ⟨_, rfl, ?_⟩; have hx191_0 := HX9000_0.out; have hx191_1 := HX9000_1.out; have hx191_2 := HX9000_2.out; have hx191_3 := HX9000_3.out; have hx191_4 := HX9000_4.out; have hx191_5 := HX9000_5.out; have hx191_6 := HX9000_6.out; replace hx191_0 := cB HB.out hx191_0; replace hx191_1 := cB HB.out hx191_1; replace hx191_2 := cB HB.out hx191_2; replace hx191_3 := cB HB.out hx191_3; replace hx191_4 := cB HB.out hx191_4; replace hx191_5 := cB HB.out hx191_5; replace hx191_6 := cB HB.out hx191_6; have HR191_2 := HR9000_2; have HC191_2 := HC9000_2; have HR191_3 := HR9000_3; have HC191_3 := HC9000_3; have HR191_4 := HR9000_4; have HC191_4 := HC9000_4; have HR191_5 := HR9000_5; have HC191_5 := HC9000_5; have hx192_0 := HX9000_0.out; have hx192_1 := HX9000_1.out; have hx192_2 := HX9000_2.out; have hx192_3 := HX9000_3.out; have hx192_4 := HX9000_4.out; have hx192_5 := HX9000_5.out; have hx192_6 := HX9000_6.out; replace hx192_0 := cB HB.out hx192_0; replace hx192_1 := cB HB.out hx192_1; replace hx192_2 := cB HB.out hx192_2; replace hx192_3 := cB HB.out hx192_3; replace hx192_4 := cB HB.out hx192_4; replace hx192_5 := cB HB.out hx192_5; replace hx192_6 := cB HB.out hx192_6; have HR192_2 := HR9000_2; have HC192_2 := HC9000_2; have HR192_3 := HR9000_3; have HC192_3 := HC9000_3; have HR192_4 := HR9000_4; have HC192_4 := HC9000_4; have HR192_5 := HR9000_5; have HC192_5 := HC9000_5))
       go_ret
       exact ⟨eQ, bQ⟩
     ·rw [if_neg c14] at H
      have c14b0 : (((rd_T39 l0_0 a0_1).f0) == 2) = false := beq_eq_false_iff_ne.mpr c14
      have c14b1 : (((rd_T39 l0_0 a0_1).f0) != 2) = true := bne_iff_ne.mpr c14
      by_cases c18 : ((rd_T39 l0_0 a0_1).f0) = 3
      ·rw [if_pos c18] at H
       have c18b0 : (((rd_T39 l0_0 a0_1).f0) == 3) = true := beq_iff_eq.mpr c18
       have c18b1 : (((rd_T39 l0_0 a0_1).f0) != 3) = false := bne_eq_false_iff_eq.mpr c18
       clear c18
       by_cases c19 : ((rd_T39 l0_0 a0_1).f1).toList = ([] : List UInt8)
       ·rw [if_pos c19] at H
        have c19b0 : (((rd_T39 l0_0 a0_1).f1).toList == ([] : List UInt8)) = true := beq_iff_eq.mpr c19
        have c19b1 : (((rd_T39 l0_0 a0_1).f1).toList != ([] : List UInt8)) = false := bne_eq_false_iff_eq.mpr c19
        clear c19
        replace H := Option.bind_eq_some_iff.mp H
        obtain ⟨t200, A200, H⟩ := H
        replace H : (if t200 = true then ((spec_l24Items.f kj2 ((rd_T39 l0_0 a0_1).f5) 0 t184).bind fun t202 => (if t202 = true then (some (((rd_T39 l0_0 a0_1).f6) == 0)) else (some false))) else (some false)) = some r := H
        have A20 := aM A200
        clear A200
        by_cases c21 : t200 = true
        ·subst c21
         have H1 : ((spec_l24Items.f kj2 ((rd_T39 l0_0 a0_1).f5) 0 t184).bind fun t202 => (if t202 = true then (some (((rd_T39 l0_0 a0_1).f6) == 0)) else (some false))) = some r := by rw [if_pos rfl] at H; exact H
         clear H
         have H := H1
         clear H1
         replace H := Option.bind_eq_some_iff.mp H
         obtain ⟨t202, A220, H⟩ := H
         replace H : (if t202 = true then (some (((rd_T39 l0_0 a0_1).f6) == 0)) else (some false)) = some r := H
         have A22 := aM A220
         clear A220
         by_cases c23 : t202 = true
         ·subst c23
          have H1 : (some (((rd_T39 l0_0 a0_1).f6) == 0)) = some r := by rw [if_pos rfl] at H; exact H
          clear H
          have H := H1
          clear H1
          obtain rfl := Option.some.inj H
          have hx189_0 := HX9000_0.out
          have hx189_1 := HX9000_1.out
          have hx189_2 := HX9000_2.out
          have hx189_3 := HX9000_3.out
          have hx189_4 := HX9000_4.out
          have hx189_5 := HX9000_5.out
          have hx189_6 := HX9000_6.out
          replace hx189_0 := cB HB.out hx189_0
          replace hx189_1 := cB HB.out hx189_1
          replace hx189_2 := cB HB.out hx189_2
          replace hx189_3 := cB HB.out hx189_3
          replace hx189_4 := cB HB.out hx189_4
          replace hx189_5 := cB HB.out hx189_5
          replace hx189_6 := cB HB.out hx189_6
          have HR189_2 := HR9000_2
          have HC189_2 := HC9000_2
          have HR189_3 := HR9000_3
          have HC189_3 := HC9000_3
          have HR189_4 := HR9000_4
          have HC189_4 := HC9000_4
          have HR189_5 := HR9000_5
          have HC189_5 := HC9000_5
          go_wp2_with (first | ((with_reducible refine gate_callee (f := 53) rfl ?_); refine goesL_ (some 31) rfl rfl Try.func53 (by kernel_rfl) rfl #[.string ((rd_T39 l0_0 a0_1).f1)] rfl gQ ?_; (with_reducible refine (spec_IsName.calls kj2 ((rd_T39 l0_0 a0_1).f1) t190 _ A8.out).mono ?_); rintro e w' ⟨rfl, ⟨nd, rfl⟩⟩; refine ⟨_, rfl, ?_⟩; have hx191_0 := HX9000_0.out; have hx191_1 := HX9000_1.out; have hx191_2 := HX9000_2.out; have hx191_3 := HX9000_3.out; have hx191_4 := HX9000_4.out; have hx191_5 := HX9000_5.out; have hx191_6 := HX9000_6.out; replace hx191_0 := cB HB.out hx191_0; replace hx191_1 := cB HB.out hx191_1; replace hx191_2 := cB HB.out hx191_2; replace hx191_3 := cB HB.out hx191_3; replace hx191_4 := cB HB.out hx191_4; replace hx191_5 := cB HB.out hx191_5; replace hx191_6 := cB HB.out hx191_6; have HR191_2 := HR9000_2; have HC191_2 := HC9000_2; have HR191_3 := HR9000_3; have HC191_3 := HC9000_3; have HR191_4 := HR9000_4; have HC191_4 := HC9000_4; have HR191_5 := HR9000_5; have HC191_5 := HC9000_5; have hx192_0 := HX9000_0.out; have hx192_1 := HX9000_1.out; have hx192_2 := HX9000_2.out; have hx192_3 := HX9000_3.out; have hx192_4 := HX9000_4.out; have hx192_5 := HX9000_5.out; have hx192_6 := HX9000_6.out; replace hx192_0 := cB HB.out hx192_0; replace hx192_1 := cB HB.out hx192_1; replace hx192_2 := cB HB.out hx192_2; replace hx192_3 := cB HB.out hx192_3; replace hx192_4 := cB HB.out hx192_4; replace hx192_5 := cB HB.out hx192_5; replace hx192_6 := cB HB.out hx192_6; have HR192_2 := HR9000_2; have HC192_2 := HC9000_2; have HR192_3 := HR9000_3; have HC192_3 := HC9000_3; have HR192_4 := HR9000_4; have HC192_4 := HC9000_4; have HR192_5 := HR9000_5; have HC192_5 := HC9000_5; have hx198_0 := HX9000_0.out; have hx198_1 := HX9000_1.out; have hx198_2 := HX9000_2.out; have hx198_3 := HX9000_3.out; have hx198_4 := HX9000_4.out; have hx198_5 := HX9000_5.out; have hx198_6 := HX9000_6.out; replace hx198_0 := cB HB.out hx198_0; replace hx198_1 := cB HB.out hx198_1; replace hx198_2 := cB HB.out hx198_2; replace hx198_3 := cB HB.out hx198_3; replace hx198_4 := cB HB.out hx198_4; replace hx198_5 := cB HB.out hx198_5; replace hx198_6 := cB HB.out hx198_6; have HR198_2 := HR9000_2; have HC198_2 := HC9000_2; have HR198_3 := HR9000_3; have HC198_3 := HC9000_3; have HR198_4 := HR9000_4; have HC198_4 := HC9000_4; have HR198_5 := HR9000_5; have HC198_5 := HC9000_5; have hx199_0 := HX9000_0.out; have hx199_1 := HX9000_1.out; have hx199_2 := HX9000_2.out; have hx199_3 := HX9000_3.out; have hx199_4 := HX9000_4.out; have hx199_5 := HX9000_5.out; have hx199_6 := HX9000_6.out; replace hx199_0 := cB HB.out hx199_0; replace hx199_1 := cB HB.out hx199_1; replace hx199_2 := cB HB.out hx199_2; replace hx199_3 := cB HB.out hx199_3; replace hx199_4 := cB HB.out hx199_4; replace hx199_5 := cB HB.out hx199_5; replace hx199_6 := cB HB.out hx199_6; have HR199_2 := HR9000_2; have HC199_2 := HC9000_2; have HR199_3 := HR9000_3; have HC199_3 := HC9000_3; have HR199_4 := HR9000_4; have HC199_4 := HC9000_4; have HR199_5 := HR9000_5; have HC199_5 := HC9000_5) | (go_at_call 52; (with_reducible refine (spec_l24Items.calls kj2 _ _ ((rd_T39 l0_0 a0_1).f3) 1 t184 true _ ?side1 ?side2 A20.out).mono ?_); (case side1 => exact cQ HR199_3.out); (case side2 => exact HC199_3.out); rintro e w' ⟨rfl, ⟨nd, rfl⟩⟩; have hx201_0 := HX9000_0.out; have hx201_1 := HX9000_1.out; have hx201_2 := HX9000_2.out; have hx201_3 := HX9000_3.out; have hx201_4 := HX9000_4.out; have hx201_5 := HX9000_5.out; have hx201_6 := HX9000_6.out; replace hx201_0 := cB HB.out hx201_0; replace hx201_1 := cB HB.out hx201_1; replace hx201_2 := cB HB.out hx201_2; replace hx201_3 := cB HB.out hx201_3; replace hx201_4 := cB HB.out hx201_4; replace hx201_5 := cB HB.out hx201_5; replace hx201_6 := cB HB.out hx201_6; have HR201_2 := HR9000_2; have HC201_2 := HC9000_2; have HR201_3 := HR9000_3; have HC201_3 := HC9000_3; have HR201_4 := HR9000_4; have HC201_4 := HC9000_4; have HR201_5 := HR9000_5; have HC201_5 := HC9000_5) | (go_at_call 52; (with_reducible refine (spec_l24Items.calls kj2 _ _ ((rd_T39 l0_0 a0_1).f5) 0 t184 true _ ?side1 ?side2 A22.out).mono ?_); (case side1 => exact cQ HR201_5.out); (case side2 => exact HC201_5.out); rintro e w' ⟨rfl, ⟨nd, rfl⟩⟩; have hx203_0 := HX9000_0.out; have hx203_1 := HX9000_1.out; have hx203_2 := HX9000_2.out; have hx203_3 := HX9000_3.out; have hx203_4 := HX9000_4.out; have hx203_5 := HX9000_5.out; have hx203_6 := HX9000_6.out; replace hx203_0 := cB HB.out hx203_0; replace hx203_1 := cB HB.out hx203_1; replace hx203_2 := cB HB.out hx203_2; replace hx203_3 := cB HB.out hx203_3; replace hx203_4 := cB HB.out hx203_4; replace hx203_5 := cB HB.out hx203_5; replace hx203_6 := cB HB.out hx203_6; have HR203_2 := HR9000_2; have HC203_2 := HC9000_2; have HR203_3 := HR9000_3; have HC203_3 := HC9000_3; have HR203_4 := HR9000_4; have HC203_4 := HC9000_4; have HR203_5 := HR9000_5; have HC203_5 := HC9000_5))
          go_ret
          exact ⟨eQ, bQ⟩
         ·replace c23 := Bool.eq_false_iff.mpr c23
          subst c23
          have H1 : (some false) = some r := by rw [if_neg (show ¬ (false = true) by decide)] at H; exact H
          clear H
          have H := H1
          clear H1
          obtain rfl := Option.some.inj H
          have hx189_0 := HX9000_0.out
          have hx189_1 := HX9000_1.out
          have hx189_2 := HX9000_2.out
          have hx189_3 := HX9000_3.out
          have hx189_4 := HX9000_4.out
          have hx189_5 := HX9000_5.out
          have hx189_6 := HX9000_6.out
          replace hx189_0 := cB HB.out hx189_0
          replace hx189_1 := cB HB.out hx189_1
          replace hx189_2 := cB HB.out hx189_2
          replace hx189_3 := cB HB.out hx189_3
          replace hx189_4 := cB HB.out hx189_4
          replace hx189_5 := cB HB.out hx189_5
          replace hx189_6 := cB HB.out hx189_6
          have HR189_2 := HR9000_2
          have HC189_2 := HC9000_2
          have HR189_3 := HR9000_3
          have HC189_3 := HC9000_3
          have HR189_4 := HR9000_4
          have HC189_4 := HC9000_4
          have HR189_5 := HR9000_5
          have HC189_5 := HC9000_5
          go_wp2_with (first | ((with_reducible refine gate_callee (f := 53) rfl ?_); refine goesL_ (some 31) rfl rfl Try.func53 (by kernel_rfl) rfl #[.string ((rd_T39 l0_0 a0_1).f1)] rfl gQ ?_; (with_reducible refine (spec_IsName.calls kj2 ((rd_T39 l0_0 a0_1).f1) t190 _ A8.out).mono ?_); rintro e w' ⟨rfl, ⟨nd, rfl⟩⟩; refine ⟨_, rfl, ?_⟩; have hx191_0 := HX9000_0.out; have hx191_1 := HX9000_1.out; have hx191_2 := HX9000_2.out; have hx191_3 := HX9000_3.out; have hx191_4 := HX9000_4.out; have hx191_5 := HX9000_5.out; have hx191_6 := HX9000_6.out; replace hx191_0 := cB HB.out hx191_0; replace hx191_1 := cB HB.out hx191_1; replace hx191_2 := cB HB.out hx191_2; replace hx191_3 := cB HB.out hx191_3; replace hx191_4 := cB HB.out hx191_4; replace hx191_5 := cB HB.out hx191_5; replace hx191_6 := cB HB.out hx191_6; have HR191_2 := HR9000_2; have HC191_2 := HC9000_2; have HR191_3 := HR9000_3; have HC191_3 := HC9000_3; have HR191_4 := HR9000_4; have HC191_4 := HC9000_4; have HR191_5 := HR9000_5; have HC191_5 := HC9000_5; have hx192_0 := HX9000_0.out; have hx192_1 := HX9000_1.out; have hx192_2 := HX9000_2.out; have hx192_3 := HX9000_3.out; have hx192_4 := HX9000_4.out; have hx192_5 := HX9000_5.out; have hx192_6 := HX9000_6.out; replace hx192_0 := cB HB.out hx192_0; replace hx192_1 := cB HB.out hx192_1; replace hx192_2 := cB HB.out hx192_2; replace hx192_3 := cB HB.out hx192_3; replace hx192_4 := cB HB.out hx192_4; replace hx192_5 := cB HB.out hx192_5; replace hx192_6 := cB HB.out hx192_6; have HR192_2 := HR9000_2; have HC192_2 := HC9000_2; have HR192_3 := HR9000_3; have HC192_3 := HC9000_3; have HR192_4 := HR9000_4; have HC192_4 := HC9000_4; have HR192_5 := HR9000_5; have HC192_5 := HC9000_5; have hx198_0 := HX9000_0.out; have hx198_1 := HX9000_1.out; have hx198_2 := HX9000_2.out; have hx198_3 := HX9000_3.out; have hx198_4 := HX9000_4.out; have hx198_5 := HX9000_5.out; have hx198_6 := HX9000_6.out; replace hx198_0 := cB HB.out hx198_0; replace hx198_1 := cB HB.out hx198_1; replace hx198_2 := cB HB.out hx198_2; replace hx198_3 := cB HB.out hx198_3; replace hx198_4 := cB HB.out hx198_4; replace hx198_5 := cB HB.out hx198_5; replace hx198_6 := cB HB.out hx198_6; have HR198_2 := HR9000_2; have HC198_2 := HC9000_2; have HR198_3 := HR9000_3; have HC198_3 := HC9000_3; have HR198_4 := HR9000_4; have HC198_4 := HC9000_4; have HR198_5 := HR9000_5; have HC198_5 := HC9000_5; have hx199_0 := HX9000_0.out; have hx199_1 := HX9000_1.out; have hx199_2 := HX9000_2.out; have hx199_3 := HX9000_3.out; have hx199_4 := HX9000_4.out; have hx199_5 := HX9000_5.out; have hx199_6 := HX9000_6.out; replace hx199_0 := cB HB.out hx199_0; replace hx199_1 := cB HB.out hx199_1; replace hx199_2 := cB HB.out hx199_2; replace hx199_3 := cB HB.out hx199_3; replace hx199_4 := cB HB.out hx199_4; replace hx199_5 := cB HB.out hx199_5; replace hx199_6 := cB HB.out hx199_6; have HR199_2 := HR9000_2; have HC199_2 := HC9000_2; have HR199_3 := HR9000_3; have HC199_3 := HC9000_3; have HR199_4 := HR9000_4; have HC199_4 := HC9000_4; have HR199_5 := HR9000_5; have HC199_5 := HC9000_5) | (go_at_call 52; (with_reducible refine (spec_l24Items.calls kj2 _ _ ((rd_T39 l0_0 a0_1).f3) 1 t184 true _ ?side1 ?side2 A20.out).mono ?_); (case side1 => exact cQ HR199_3.out); (case side2 => exact HC199_3.out); rintro e w' ⟨rfl, ⟨nd, rfl⟩⟩; have hx201_0 := HX9000_0.out; have hx201_1 := HX9000_1.out; have hx201_2 := HX9000_2.out; have hx201_3 := HX9000_3.out; have hx201_4 := HX9000_4.out; have hx201_5 := HX9000_5.out; have hx201_6 := HX9000_6.out; replace hx201_0 := cB HB.out hx201_0; replace hx201_1 := cB HB.out hx201_1; replace hx201_2 := cB HB.out hx201_2; replace hx201_3 := cB HB.out hx201_3; replace hx201_4 := cB HB.out hx201_4; replace hx201_5 := cB HB.out hx201_5; replace hx201_6 := cB HB.out hx201_6; have HR201_2 := HR9000_2; have HC201_2 := HC9000_2; have HR201_3 := HR9000_3; have HC201_3 := HC9000_3; have HR201_4 := HR9000_4; have HC201_4 := HC9000_4; have HR201_5 := HR9000_5; have HC201_5 := HC9000_5) | (go_at_call 52; (with_reducible refine (spec_l24Items.calls kj2 _ _ ((rd_T39 l0_0 a0_1).f5) 0 t184 false _ ?side1 ?side2 A22.out).mono ?_); (case side1 => exact cQ HR201_5.out); (case side2 => exact HC201_5.out); rintro e w' ⟨rfl, ⟨nd, rfl⟩⟩))
          go_ret
          exact ⟨eQ, bQ⟩
        ·replace c21 := Bool.eq_false_iff.mpr c21
         subst c21
         have H1 : (some false) = some r := by rw [if_neg (show ¬ (false = true) by decide)] at H; exact H
         clear H
         have H := H1
         clear H1
         obtain rfl := Option.some.inj H
         have hx189_0 := HX9000_0.out
         have hx189_1 := HX9000_1.out
         have hx189_2 := HX9000_2.out
         have hx189_3 := HX9000_3.out
         have hx189_4 := HX9000_4.out
         have hx189_5 := HX9000_5.out
         have hx189_6 := HX9000_6.out
         replace hx189_0 := cB HB.out hx189_0
         replace hx189_1 := cB HB.out hx189_1
         replace hx189_2 := cB HB.out hx189_2
         replace hx189_3 := cB HB.out hx189_3
         replace hx189_4 := cB HB.out hx189_4
         replace hx189_5 := cB HB.out hx189_5
         replace hx189_6 := cB HB.out hx189_6
         have HR189_2 := HR9000_2
         have HC189_2 := HC9000_2
         have HR189_3 := HR9000_3
         have HC189_3 := HC9000_3
         have HR189_4 := HR9000_4
         have HC189_4 := HC9000_4
         have HR189_5 := HR9000_5
         have HC189_5 := HC9000_5
         go_wp2_with (first | ((with_reducible refine gate_callee (f := 53) rfl ?_); refine goesL_ (some 31) rfl rfl Try.func53 (by kernel_rfl) rfl #[.string ((rd_T39 l0_0 a0_1).f1)] rfl gQ ?_; (with_reducible refine (spec_IsName.calls kj2 ((rd_T39 l0_0 a0_1).f1) t190 _ A8.out).mono ?_); rintro e w' ⟨rfl, ⟨nd, rfl⟩⟩; refine ⟨_, rfl, ?_⟩; have hx191_0 := HX9000_0.out; have hx191_1 := HX9000_1.out; have hx191_2 := HX9000_2.out; have hx191_3 := HX9000_3.out; have hx191_4 := HX9000_4.out; have hx191_5 := HX9000_5.out; have hx191_6 := HX9000_6.out; replace hx191_0 := cB HB.out hx191_0; replace hx191_1 := cB HB.out hx191_1; replace hx191_2 := cB HB.out hx191_2; replace hx191_3 := cB HB.out hx191_3; replace hx191_4 := cB HB.out hx191_4; replace hx191_5 := cB HB.out hx191_5; replace hx191_6 := cB HB.out hx191_6; have HR191_2 := HR9000_2; have HC191_2 := HC9000_2; have HR191_3 := HR9000_3; have HC191_3 := HC9000_3; have HR191_4 := HR9000_4; have HC191_4 := HC9000_4; have HR191_5 := HR9000_5; have HC191_5 := HC9000_5; have hx192_0 := HX9000_0.out; have hx192_1 := HX9000_1.out; have hx192_2 := HX9000_2.out; have hx192_3 := HX9000_3.out; have hx192_4 := HX9000_4.out; have hx192_5 := HX9000_5.out; have hx192_6 := HX9000_6.out; replace hx192_0 := cB HB.out hx192_0; replace hx192_1 := cB HB.out hx192_1; replace hx192_2 := cB HB.out hx192_2; replace hx192_3 := cB HB.out hx192_3; replace hx192_4 := cB HB.out hx192_4; replace hx192_5 := cB HB.out hx192_5; replace hx192_6 := cB HB.out hx192_6; have HR192_2 := HR9000_2; have HC192_2 := HC9000_2; have HR192_3 := HR9000_3; have HC192_3 := HC9000_3; have HR192_4 := HR9000_4; have HC192_4 := HC9000_4; have HR192_5 := HR9000_5; have HC192_5 := HC9000_5; have hx198_0 := HX9000_0.out; have hx198_1 := HX9000_1.out; have hx198_2 := HX9000_2.out; have hx198_3 := HX9000_3.out; have hx198_4 := HX9000_4.out; have hx198_5 := HX9000_5.out; have hx198_6 := HX9000_6.out; replace hx198_0 := cB HB.out hx198_0; replace hx198_1 := cB HB.out hx198_1; replace hx198_2 := cB HB.out hx198_2; replace hx198_3 := cB HB.out hx198_3; replace hx198_4 := cB HB.out hx198_4; replace hx198_5 := cB HB.out hx198_5; replace hx198_6 := cB HB.out hx198_6; have HR198_2 := HR9000_2; have HC198_2 := HC9000_2; have HR198_3 := HR9000_3; have HC198_3 := HC9000_3; have HR198_4 := HR9000_4; have HC198_4 := HC9000_4; have HR198_5 := HR9000_5; have HC198_5 := HC9000_5; have hx199_0 := HX9000_0.out; have hx199_1 := HX9000_1.out; have hx199_2 := HX9000_2.out; have hx199_3 := HX9000_3.out; have hx199_4 := HX9000_4.out; have hx199_5 := HX9000_5.out; have hx199_6 := HX9000_6.out; replace hx199_0 := cB HB.out hx199_0; replace hx199_1 := cB HB.out hx199_1; replace hx199_2 := cB HB.out hx199_2; replace hx199_3 := cB HB.out hx199_3; replace hx199_4 := cB HB.out hx199_4; replace hx199_5 := cB HB.out hx199_5; replace hx199_6 := cB HB.out hx199_6; have HR199_2 := HR9000_2; have HC199_2 := HC9000_2; have HR199_3 := HR9000_3; have HC199_3 := HC9000_3; have HR199_4 := HR9000_4; have HC199_4 := HC9000_4; have HR199_5 := HR9000_5; have HC199_5 := HC9000_5) | (go_at_call 52; (with_reducible refine (spec_l24Items.calls kj2 _ _ ((rd_T39 l0_0 a0_1).f3) 1 t184 false _ ?side1 ?side2 A20.out).mono ?_); (case side1 => exact cQ HR199_3.out); (case side2 => exact HC199_3.out); rintro e w' ⟨rfl, ⟨nd, rfl⟩⟩))
         go_ret
         exact ⟨eQ, bQ⟩
       ·rw [if_neg c19] at H
        have c19b0 : (((rd_T39 l0_0 a0_1).f1).toList == ([] : List UInt8)) = false := beq_eq_false_iff_ne.mpr c19
        have c19b1 : (((rd_T39 l0_0 a0_1).f1).toList != ([] : List UInt8)) = true := bne_iff_ne.mpr c19
        obtain rfl := Option.some.inj H
        have hx189_0 := HX9000_0.out
        have hx189_1 := HX9000_1.out
        have hx189_2 := HX9000_2.out
        have hx189_3 := HX9000_3.out
        have hx189_4 := HX9000_4.out
        have hx189_5 := HX9000_5.out
        have hx189_6 := HX9000_6.out
        replace hx189_0 := cB HB.out hx189_0
        replace hx189_1 := cB HB.out hx189_1
        replace hx189_2 := cB HB.out hx189_2
        replace hx189_3 := cB HB.out hx189_3
        replace hx189_4 := cB HB.out hx189_4
        replace hx189_5 := cB HB.out hx189_5
        replace hx189_6 := cB HB.out hx189_6
        have HR189_2 := HR9000_2
        have HC189_2 := HC9000_2
        have HR189_3 := HR9000_3
        have HC189_3 := HC9000_3
        have HR189_4 := HR9000_4
        have HC189_4 := HC9000_4
        have HR189_5 := HR9000_5
        have HC189_5 := HC9000_5
        go_wp2_with (first | ((with_reducible refine gate_callee (f := 53) rfl ?_); refine goesL_ (some 31) rfl rfl Try.func53 (by kernel_rfl) rfl #[.string ((rd_T39 l0_0 a0_1).f1)] rfl gQ ?_; (with_reducible refine (spec_IsName.calls kj2 ((rd_T39 l0_0 a0_1).f1) t190 _ A8.out).mono ?_); rintro e w' ⟨rfl, ⟨nd, rfl⟩⟩; refine ⟨_, rfl, ?_⟩; have hx191_0 := HX9000_0.out; have hx191_1 := HX9000_1.out; have hx191_2 := HX9000_2.out; have hx191_3 := HX9000_3.out; have hx191_4 := HX9000_4.out; have hx191_5 := HX9000_5.out; have hx191_6 := HX9000_6.out; replace hx191_0 := cB HB.out hx191_0; replace hx191_1 := cB HB.out hx191_1; replace hx191_2 := cB HB.out hx191_2; replace hx191_3 := cB HB.out hx191_3; replace hx191_4 := cB HB.out hx191_4; replace hx191_5 := cB HB.out hx191_5; replace hx191_6 := cB HB.out hx191_6; have HR191_2 := HR9000_2; have HC191_2 := HC9000_2; have HR191_3 := HR9000_3; have HC191_3 := HC9000_3; have HR191_4 := HR9000_4; have HC191_4 := HC9000_4; have HR191_5 := HR9000_5; have HC191_5 := HC9000_5; have hx192_0 := HX9000_0.out; have hx192_1 := HX9000_1.out; have hx192_2 := HX9000_2.out; have hx192_3 := HX9000_3.out; have hx192_4 := HX9000_4.out; have hx192_5 := HX9000_5.out; have hx192_6 := HX9000_6.out; replace hx192_0 := cB HB.out hx192_0; replace hx192_1 := cB HB.out hx192_1; replace hx192_2 := cB HB.out hx192_2; replace hx192_3 := cB HB.out hx192_3; replace hx192_4 := cB HB.out hx192_4; replace hx192_5 := cB HB.out hx192_5; replace hx192_6 := cB HB.out hx192_6; have HR192_2 := HR9000_2; have HC192_2 := HC9000_2; have HR192_3 := HR9000_3; have HC192_3 := HC9000_3; have HR192_4 := HR9000_4; have HC192_4 := HC9000_4; have HR192_5 := HR9000_5; have HC192_5 := HC9000_5; have hx198_0 := HX9000_0.out; have hx198_1 := HX9000_1.out; have hx198_2 := HX9000_2.out; have hx198_3 := HX9000_3.out; have hx198_4 := HX9000_4.out; have hx198_5 := HX9000_5.out; have hx198_6 := HX9000_6.out; replace hx198_0 := cB HB.out hx198_0; replace hx198_1 := cB HB.out hx198_1; replace hx198_2 := cB HB.out hx198_2; replace hx198_3 := cB HB.out hx198_3; replace hx198_4 := cB HB.out hx198_4; replace hx198_5 := cB HB.out hx198_5; replace hx198_6 := cB HB.out hx198_6; have HR198_2 := HR9000_2; have HC198_2 := HC9000_2; have HR198_3 := HR9000_3; have HC198_3 := HC9000_3; have HR198_4 := HR9000_4; have HC198_4 := HC9000_4; have HR198_5 := HR9000_5; have HC198_5 := HC9000_5))
        go_ret
        exact ⟨eQ, bQ⟩
      ·rw [if_neg c18] at H
       have c18b0 : (((rd_T39 l0_0 a0_1).f0) == 3) = false := beq_eq_false_iff_ne.mpr c18
       have c18b1 : (((rd_T39 l0_0 a0_1).f0) != 3) = true := bne_iff_ne.mpr c18
       by_cases c24 : ((rd_T39 l0_0 a0_1).f0) = 4
       ·rw [if_pos c24] at H
        have c24b0 : (((rd_T39 l0_0 a0_1).f0) == 4) = true := beq_iff_eq.mpr c24
        have c24b1 : (((rd_T39 l0_0 a0_1).f0) != 4) = false := bne_eq_false_iff_eq.mpr c24
        clear c24
        by_cases c25 : ((rd_T39 l0_0 a0_1).f1).toList = ([] : List UInt8)
        ·rw [if_pos c25] at H
         have c25b0 : (((rd_T39 l0_0 a0_1).f1).toList == ([] : List UInt8)) = true := beq_iff_eq.mpr c25
         have c25b1 : (((rd_T39 l0_0 a0_1).f1).toList != ([] : List UInt8)) = false := bne_eq_false_iff_eq.mpr c25
         clear c25
         by_cases c26 : (((rd_T39 l0_0 a0_1).f3).length : Int) = 0
         ·rw [if_pos c26] at H
          have c26b0 : ((((rd_T39 l0_0 a0_1).f3).length : Int) == 0) = true := beq_iff_eq.mpr c26
          have c26b1 : ((((rd_T39 l0_0 a0_1).f3).length : Int) != 0) = false := bne_eq_false_iff_eq.mpr c26
          clear c26
          by_cases c27 : (((rd_T39 l0_0 a0_1).f5).length : Int) = 0
          ·rw [if_pos c27] at H
           have c27b0 : ((((rd_T39 l0_0 a0_1).f5).length : Int) == 0) = true := beq_iff_eq.mpr c27
           have c27b1 : ((((rd_T39 l0_0 a0_1).f5).length : Int) != 0) = false := bne_eq_false_iff_eq.mpr c27
           clear c27
           obtain rfl := Option.some.inj H
           have hx189_0 := HX9000_0.out
           have hx189_1 := HX9000_1.out
           have hx189_2 := HX9000_2.out
           have hx189_3 := HX9000_3.out
           have hx189_4 := HX9000_4.out
           have hx189_5 := HX9000_5.out
           have hx189_6 := HX9000_6.out
           replace hx189_0 := cB HB.out hx189_0
           replace hx189_1 := cB HB.out hx189_1
           replace hx189_2 := cB HB.out hx189_2
           replace hx189_3 := cB HB.out hx189_3
           replace hx189_4 := cB HB.out hx189_4
           replace hx189_5 := cB HB.out hx189_5
           replace hx189_6 := cB HB.out hx189_6
           have HR189_2 := HR9000_2
           have HC189_2 := HC9000_2
           have HR189_3 := HR9000_3
           have HC189_3 := HC9000_3
           have HR189_4 := HR9000_4
           have HC189_4 := HC9000_4
           have HR189_5 := HR9000_5
           have HC189_5 := HC9000_5
           go_wp2_with (first | ((with_reducible refine gate_callee (f := 53) rfl ?_); refine goesL_ (some 31) rfl rfl Try.func53 (by kernel_rfl) rfl #[.string ((rd_T39 l0_0 a0_1).f1)] rfl gQ ?_; (with_reducible refine (spec_IsName.calls kj2 ((rd_T39 l0_0 a0_1).f1) t190 _ A8.out).mono ?_); rintro e w' ⟨rfl, ⟨nd, rfl⟩⟩; refine ⟨_, rfl, ?_⟩; have hx191_0 := HX9000_0.out; have hx191_1 := HX9000_1.out; have hx191_2 := HX9000_2.out; have hx191_3 := HX9000_3.out; have hx191_4 := HX9000_4.out; have hx191_5 := HX9000_5.out; have hx191_6 := HX9000_6.out; replace hx191_0 := cB HB.out hx191_0; replace hx191_1 := cB HB.out hx191_1; replace hx191_2 := cB HB.out hx191_2; replace hx191_3 := cB HB.out hx191_3; replace hx191_4 := cB HB.out hx191_4; replace hx191_5 := cB HB.out hx191_5; replace hx191_6 := cB HB.out hx191_6; have HR191_2 := HR9000_2; have HC191_2 := HC9000_2; have HR191_3 := HR9000_3; have HC191_3 := HC9000_3; have HR191_4 := HR9000_4; have HC191_4 := HC9000_4; have HR191_5 := HR9000_5; have HC191_5 := HC9000_5; have hx192_0 := HX9000_0.out; have hx192_1 := HX9000_1.out; have hx192_2 := HX9000_2.out; have hx192_3 := HX9000_3.out; have hx192_4 := HX9000_4.out; have hx192_5 := HX9000_5.out; have hx192_6 := HX9000_6.out; replace hx192_0 := cB HB.out hx192_0; replace hx192_1 := cB HB.out hx192_1; replace hx192_2 := cB HB.out hx192_2; replace hx192_3 := cB HB.out hx192_3; replace hx192_4 := cB HB.out hx192_4; replace hx192_5 := cB HB.out hx192_5; replace hx192_6 := cB HB.out hx192_6; have HR192_2 := HR9000_2; have HC192_2 := HC9000_2; have HR192_3 := HR9000_3; have HC192_3 := HC9000_3; have HR192_4 := HR9000_4; have HC192_4 := HC9000_4; have HR192_5 := HR9000_5; have HC192_5 := HC9000_5; have hx204_0 := HX9000_0.out; have hx204_1 := HX9000_1.out; have hx204_2 := HX9000_2.out; have hx204_3 := HX9000_3.out; have hx204_4 := HX9000_4.out; have hx204_5 := HX9000_5.out; have hx204_6 := HX9000_6.out; replace hx204_0 := cB HB.out hx204_0; replace hx204_1 := cB HB.out hx204_1; replace hx204_2 := cB HB.out hx204_2; replace hx204_3 := cB HB.out hx204_3; replace hx204_4 := cB HB.out hx204_4; replace hx204_5 := cB HB.out hx204_5; replace hx204_6 := cB HB.out hx204_6; have HR204_2 := HR9000_2; have HC204_2 := HC9000_2; have HR204_3 := HR9000_3; have HC204_3 := HC9000_3; have HR204_4 := HR9000_4; have HC204_4 := HC9000_4; have HR204_5 := HR9000_5; have HC204_5 := HC9000_5; have hx205_0 := HX9000_0.out; have hx205_1 := HX9000_1.out; have hx205_2 := HX9000_2.out; have hx205_3 := HX9000_3.out; have hx205_4 := HX9000_4.out; have hx205_5 := HX9000_5.out; have hx205_6 := HX9000_6.out; replace hx205_0 := cB HB.out hx205_0; replace hx205_1 := cB HB.out hx205_1; replace hx205_2 := cB HB.out hx205_2; replace hx205_3 := cB HB.out hx205_3; replace hx205_4 := cB HB.out hx205_4; replace hx205_5 := cB HB.out hx205_5; replace hx205_6 := cB HB.out hx205_6; have HR205_2 := HR9000_2; have HC205_2 := HC9000_2; have HR205_3 := HR9000_3; have HC205_3 := HC9000_3; have HR205_4 := HR9000_4; have HC205_4 := HC9000_4; have HR205_5 := HR9000_5; have HC205_5 := HC9000_5; have hx206_0 := HX9000_0.out; have hx206_1 := HX9000_1.out; have hx206_2 := HX9000_2.out; have hx206_3 := HX9000_3.out; have hx206_4 := HX9000_4.out; have hx206_5 := HX9000_5.out; have hx206_6 := HX9000_6.out; replace hx206_0 := cB HB.out hx206_0; replace hx206_1 := cB HB.out hx206_1; replace hx206_2 := cB HB.out hx206_2; replace hx206_3 := cB HB.out hx206_3; replace hx206_4 := cB HB.out hx206_4; replace hx206_5 := cB HB.out hx206_5; replace hx206_6 := cB HB.out hx206_6; have HR206_2 := HR9000_2; have HC206_2 := HC9000_2; have HR206_3 := HR9000_3; have HC206_3 := HC9000_3; have HR206_4 := HR9000_4; have HC206_4 := HC9000_4; have HR206_5 := HR9000_5; have HC206_5 := HC9000_5))
           go_ret
           exact ⟨eQ, bQ⟩
          ·rw [if_neg c27] at H
           have c27b0 : ((((rd_T39 l0_0 a0_1).f5).length : Int) == 0) = false := beq_eq_false_iff_ne.mpr c27
           have c27b1 : ((((rd_T39 l0_0 a0_1).f5).length : Int) != 0) = true := bne_iff_ne.mpr c27
           have c27b2 : ¬ (((rd_T39 l0_0 a0_1).f5) = []) := fun h_ => c27 (by rw [h_]; rfl)
           obtain rfl := Option.some.inj H
           have hx189_0 := HX9000_0.out
           have hx189_1 := HX9000_1.out
           have hx189_2 := HX9000_2.out
           have hx189_3 := HX9000_3.out
           have hx189_4 := HX9000_4.out
           have hx189_5 := HX9000_5.out
           have hx189_6 := HX9000_6.out
           replace hx189_0 := cB HB.out hx189_0
           replace hx189_1 := cB HB.out hx189_1
           replace hx189_2 := cB HB.out hx189_2
           replace hx189_3 := cB HB.out hx189_3
           replace hx189_4 := cB HB.out hx189_4
           replace hx189_5 := cB HB.out hx189_5
           replace hx189_6 := cB HB.out hx189_6
           have HR189_2 := HR9000_2
           have HC189_2 := HC9000_2
           have HR189_3 := HR9000_3
           have HC189_3 := HC9000_3
           have HR189_4 := HR9000_4
           have HC189_4 := HC9000_4
           have HR189_5 := HR9000_5
           have HC189_5 := HC9000_5
           go_wp2_with (first | ((with_reducible refine gate_callee (f := 53) rfl ?_); refine goesL_ (some 31) rfl rfl Try.func53 (by kernel_rfl) rfl #[.string ((rd_T39 l0_0 a0_1).f1)] rfl gQ ?_; (with_reducible refine (spec_IsName.calls kj2 ((rd_T39 l0_0 a0_1).f1) t190 _ A8.out).mono ?_); rintro e w' ⟨rfl, ⟨nd, rfl⟩⟩; refine ⟨_, rfl, ?_⟩; have hx191_0 := HX9000_0.out; have hx191_1 := HX9000_1.out; have hx191_2 := HX9000_2.out; have hx191_3 := HX9000_3.out; have hx191_4 := HX9000_4.out; have hx191_5 := HX9000_5.out; have hx191_6 := HX9000_6.out; replace hx191_0 := cB HB.out hx191_0; replace hx191_1 := cB HB.out hx191_1; replace hx191_2 := cB HB.out hx191_2; replace hx191_3 := cB HB.out hx191_3; replace hx191_4 := cB HB.out hx191_4; replace hx191_5 := cB HB.out hx191_5; replace hx191_6 := cB HB.out hx191_6; have HR191_2 := HR9000_2; have HC191_2 := HC9000_2; have HR191_3 := HR9000_3; have HC191_3 := HC9000_3; have HR191_4 := HR9000_4; have HC191_4 := HC9000_4; have HR191_5 := HR9000_5; have HC191_5 := HC9000_5; have hx192_0 := HX9000_0.out; have hx192_1 := HX9000_1.out; have hx192_2 := HX9000_2.out; have hx192_3 := HX9000_3.out; have hx192_4 := HX9000_4.out; have hx192_5 := HX9000_5.out; have hx192_6 := HX9000_6.out; replace hx192_0 := cB HB.out hx192_0; replace hx192_1 := cB HB.out hx192_1; replace hx192_2 := cB HB.out hx192_2; replace hx192_3 := cB HB.out hx192_3; replace hx192_4 := cB HB.out hx192_4; replace hx192_5 := cB HB.out hx192_5; replace hx192_6 := cB HB.out hx192_6; have HR192_2 := HR9000_2; have HC192_2 := HC9000_2; have HR192_3 := HR9000_3; have HC192_3 := HC9000_3; have HR192_4 := HR9000_4; have HC192_4 := HC9000_4; have HR192_5 := HR9000_5; have HC192_5 := HC9000_5; have hx204_0 := HX9000_0.out; have hx204_1 := HX9000_1.out; have hx204_2 := HX9000_2.out; have hx204_3 := HX9000_3.out; have hx204_4 := HX9000_4.out; have hx204_5 := HX9000_5.out; have hx204_6 := HX9000_6.out; replace hx204_0 := cB HB.out hx204_0; replace hx204_1 := cB HB.out hx204_1; replace hx204_2 := cB HB.out hx204_2; replace hx204_3 := cB HB.out hx204_3; replace hx204_4 := cB HB.out hx204_4; replace hx204_5 := cB HB.out hx204_5; replace hx204_6 := cB HB.out hx204_6; have HR204_2 := HR9000_2; have HC204_2 := HC9000_2; have HR204_3 := HR9000_3; have HC204_3 := HC9000_3; have HR204_4 := HR9000_4; have HC204_4 := HC9000_4; have HR204_5 := HR9000_5; have HC204_5 := HC9000_5; have hx205_0 := HX9000_0.out; have hx205_1 := HX9000_1.out; have hx205_2 := HX9000_2.out; have hx205_3 := HX9000_3.out; have hx205_4 := HX9000_4.out; have hx205_5 := HX9000_5.out; have hx205_6 := HX9000_6.out; replace hx205_0 := cB HB.out hx205_0; replace hx205_1 := cB HB.out hx205_1; replace hx205_2 := cB HB.out hx205_2; replace hx205_3 := cB HB.out hx205_3; replace hx205_4 := cB HB.out hx205_4; replace hx205_5 := cB HB.out hx205_5; replace hx205_6 := cB HB.out hx205_6; have HR205_2 := HR9000_2; have HC205_2 := HC9000_2; have HR205_3 := HR9000_3; have HC205_3 := HC9000_3; have HR205_4 := HR9000_4; have HC205_4 := HC9000_4; have HR205_5 := HR9000_5; have HC205_5 := HC9000_5))
           go_ret
           exact ⟨eQ, bQ⟩
         ·rw [if_neg c26] at H
          have c26b0 : ((((rd_T39 l0_0 a0_1).f3).length : Int) == 0) = false := beq_eq_false_iff_ne.mpr c26
          have c26b1 : ((((rd_T39 l0_0 a0_1).f3).length : Int) != 0) = true := bne_iff_ne.mpr c26
          have c26b2 : ¬ (((rd_T39 l0_0 a0_1).f3) = []) := fun h_ => c26 (by rw [h_]; rfl)
          obtain rfl := Option.some.inj H
          have hx189_0 := HX9000_0.out
          have hx189_1 := HX9000_1.out
          have hx189_2 := HX9000_2.out
          have hx189_3 := HX9000_3.out
          have hx189_4 := HX9000_4.out
          have hx189_5 := HX9000_5.out
          have hx189_6 := HX9000_6.out
          replace hx189_0 := cB HB.out hx189_0
          replace hx189_1 := cB HB.out hx189_1
          replace hx189_2 := cB HB.out hx189_2
          replace hx189_3 := cB HB.out hx189_3
          replace hx189_4 := cB HB.out hx189_4
          replace hx189_5 := cB HB.out hx189_5
          replace hx189_6 := cB HB.out hx189_6
          have HR189_2 := HR9000_2
          have HC189_2 := HC9000_2
          have HR189_3 := HR9000_3
          have HC189_3 := HC9000_3
          have HR189_4 := HR9000_4
          have HC189_4 := HC9000_4
          have HR189_5 := HR9000_5
          have HC189_5 := HC9000_5
          go_wp2_with (first | ((with_reducible refine gate_callee (f := 53) rfl ?_); refine goesL_ (some 31) rfl rfl Try.func53 (by kernel_rfl) rfl #[.string ((rd_T39 l0_0 a0_1).f1)] rfl gQ ?_; (with_reducible refine (spec_IsName.calls kj2 ((rd_T39 l0_0 a0_1).f1) t190 _ A8.out).mono ?_); rintro e w' ⟨rfl, ⟨nd, rfl⟩⟩; refine ⟨_, rfl, ?_⟩; have hx191_0 := HX9000_0.out; have hx191_1 := HX9000_1.out; have hx191_2 := HX9000_2.out; have hx191_3 := HX9000_3.out; have hx191_4 := HX9000_4.out; have hx191_5 := HX9000_5.out; have hx191_6 := HX9000_6.out; replace hx191_0 := cB HB.out hx191_0; replace hx191_1 := cB HB.out hx191_1; replace hx191_2 := cB HB.out hx191_2; replace hx191_3 := cB HB.out hx191_3; replace hx191_4 := cB HB.out hx191_4; replace hx191_5 := cB HB.out hx191_5; replace hx191_6 := cB HB.out hx191_6; have HR191_2 := HR9000_2; have HC191_2 := HC9000_2; have HR191_3 := HR9000_3; have HC191_3 := HC9000_3; have HR191_4 := HR9000_4; have HC191_4 := HC9000_4; have HR191_5 := HR9000_5; have HC191_5 := HC9000_5; have hx192_0 := HX9000_0.out; have hx192_1 := HX9000_1.out; have hx192_2 := HX9000_2.out; have hx192_3 := HX9000_3.out; have hx192_4 := HX9000_4.out; have hx192_5 := HX9000_5.out; have hx192_6 := HX9000_6.out; replace hx192_0 := cB HB.out hx192_0; replace hx192_1 := cB HB.out hx192_1; replace hx192_2 := cB HB.out hx192_2; replace hx192_3 := cB HB.out hx192_3; replace hx192_4 := cB HB.out hx192_4; replace hx192_5 := cB HB.out hx192_5; replace hx192_6 := cB HB.out hx192_6; have HR192_2 := HR9000_2; have HC192_2 := HC9000_2; have HR192_3 := HR9000_3; have HC192_3 := HC9000_3; have HR192_4 := HR9000_4; have HC192_4 := HC9000_4; have HR192_5 := HR9000_5; have HC192_5 := HC9000_5; have hx204_0 := HX9000_0.out; have hx204_1 := HX9000_1.out; have hx204_2 := HX9000_2.out; have hx204_3 := HX9000_3.out; have hx204_4 := HX9000_4.out; have hx204_5 := HX9000_5.out; have hx204_6 := HX9000_6.out; replace hx204_0 := cB HB.out hx204_0; replace hx204_1 := cB HB.out hx204_1; replace hx204_2 := cB HB.out hx204_2; replace hx204_3 := cB HB.out hx204_3; replace hx204_4 := cB HB.out hx204_4; replace hx204_5 := cB HB.out hx204_5; replace hx204_6 := cB HB.out hx204_6; have HR204_2 := HR9000_2; have HC204_2 := HC9000_2; have HR204_3 := HR9000_3; have HC204_3 := HC9000_3; have HR204_4 := HR9000_4; have HC204_4 := HC9000_4; have HR204_5 := HR9000_5; have HC204_5 := HC9000_5; have hx205_0 := HX9000_0.out; have hx205_1 := HX9000_1.out; have hx205_2 := HX9000_2.out; have hx205_3 := HX9000_3.out; have hx205_4 := HX9000_4.out; have hx205_5 := HX9000_5.out; have hx205_6 := HX9000_6.out; replace hx205_0 := cB HB.out hx205_0; replace hx205_1 := cB HB.out hx205_1; replace hx205_2 := cB HB.out hx205_2; replace hx205_3 := cB HB.out hx205_3; replace hx205_4 := cB HB.out hx205_4; replace hx205_5 := cB HB.out hx205_5; replace hx205_6 := cB HB.out hx205_6; have HR205_2 := HR9000_2; have HC205_2 := HC9000_2; have HR205_3 := HR9000_3; have HC205_3 := HC9000_3; have HR205_4 := HR9000_4; have HC205_4 := HC9000_4; have HR205_5 := HR9000_5; have HC205_5 := HC9000_5))
          go_ret
          exact ⟨eQ, bQ⟩
        ·rw [if_neg c25] at H
         have c25b0 : (((rd_T39 l0_0 a0_1).f1).toList == ([] : List UInt8)) = false := beq_eq_false_iff_ne.mpr c25
         have c25b1 : (((rd_T39 l0_0 a0_1).f1).toList != ([] : List UInt8)) = true := bne_iff_ne.mpr c25
         obtain rfl := Option.some.inj H
         have hx189_0 := HX9000_0.out
         have hx189_1 := HX9000_1.out
         have hx189_2 := HX9000_2.out
         have hx189_3 := HX9000_3.out
         have hx189_4 := HX9000_4.out
         have hx189_5 := HX9000_5.out
         have hx189_6 := HX9000_6.out
         replace hx189_0 := cB HB.out hx189_0
         replace hx189_1 := cB HB.out hx189_1
         replace hx189_2 := cB HB.out hx189_2
         replace hx189_3 := cB HB.out hx189_3
         replace hx189_4 := cB HB.out hx189_4
         replace hx189_5 := cB HB.out hx189_5
         replace hx189_6 := cB HB.out hx189_6
         have HR189_2 := HR9000_2
         have HC189_2 := HC9000_2
         have HR189_3 := HR9000_3
         have HC189_3 := HC9000_3
         have HR189_4 := HR9000_4
         have HC189_4 := HC9000_4
         have HR189_5 := HR9000_5
         have HC189_5 := HC9000_5
         go_wp2_with (first | ((with_reducible refine gate_callee (f := 53) rfl ?_); refine goesL_ (some 31) rfl rfl Try.func53 (by kernel_rfl) rfl #[.string ((rd_T39 l0_0 a0_1).f1)] rfl gQ ?_; (with_reducible refine (spec_IsName.calls kj2 ((rd_T39 l0_0 a0_1).f1) t190 _ A8.out).mono ?_); rintro e w' ⟨rfl, ⟨nd, rfl⟩⟩; refine ⟨_, rfl, ?_⟩; have hx191_0 := HX9000_0.out; have hx191_1 := HX9000_1.out; have hx191_2 := HX9000_2.out; have hx191_3 := HX9000_3.out; have hx191_4 := HX9000_4.out; have hx191_5 := HX9000_5.out; have hx191_6 := HX9000_6.out; replace hx191_0 := cB HB.out hx191_0; replace hx191_1 := cB HB.out hx191_1; replace hx191_2 := cB HB.out hx191_2; replace hx191_3 := cB HB.out hx191_3; replace hx191_4 := cB HB.out hx191_4; replace hx191_5 := cB HB.out hx191_5; replace hx191_6 := cB HB.out hx191_6; have HR191_2 := HR9000_2; have HC191_2 := HC9000_2; have HR191_3 := HR9000_3; have HC191_3 := HC9000_3; have HR191_4 := HR9000_4; have HC191_4 := HC9000_4; have HR191_5 := HR9000_5; have HC191_5 := HC9000_5; have hx192_0 := HX9000_0.out; have hx192_1 := HX9000_1.out; have hx192_2 := HX9000_2.out; have hx192_3 := HX9000_3.out; have hx192_4 := HX9000_4.out; have hx192_5 := HX9000_5.out; have hx192_6 := HX9000_6.out; replace hx192_0 := cB HB.out hx192_0; replace hx192_1 := cB HB.out hx192_1; replace hx192_2 := cB HB.out hx192_2; replace hx192_3 := cB HB.out hx192_3; replace hx192_4 := cB HB.out hx192_4; replace hx192_5 := cB HB.out hx192_5; replace hx192_6 := cB HB.out hx192_6; have HR192_2 := HR9000_2; have HC192_2 := HC9000_2; have HR192_3 := HR9000_3; have HC192_3 := HC9000_3; have HR192_4 := HR9000_4; have HC192_4 := HC9000_4; have HR192_5 := HR9000_5; have HC192_5 := HC9000_5; have hx204_0 := HX9000_0.out; have hx204_1 := HX9000_1.out; have hx204_2 := HX9000_2.out; have hx204_3 := HX9000_3.out; have hx204_4 := HX9000_4.out; have hx204_5 := HX9000_5.out; have hx204_6 := HX9000_6.out; replace hx204_0 := cB HB.out hx204_0; replace hx204_1 := cB HB.out hx204_1; replace hx204_2 := cB HB.out hx204_2; replace hx204_3 := cB HB.out hx204_3; replace hx204_4 := cB HB.out hx204_4; replace hx204_5 := cB HB.out hx204_5; replace hx204_6 := cB HB.out hx204_6; have HR204_2 := HR9000_2; have HC204_2 := HC9000_2; have HR204_3 := HR9000_3; have HC204_3 := HC9000_3; have HR204_4 := HR9000_4; have HC204_4 := HC9000_4; have HR204_5 := HR9000_5; have HC204_5 := HC9000_5))
         go_ret
         exact ⟨eQ, bQ⟩
       ·rw [if_neg c24] at H
        have c24b0 : (((rd_T39 l0_0 a0_1).f0) == 4) = false := beq_eq_false_iff_ne.mpr c24
        have c24b1 : (((rd_T39 l0_0 a0_1).f0) != 4) = true := bne_iff_ne.mpr c24
        by_cases c28 : ((rd_T39 l0_0 a0_1).f0) = 5
        ·rw [if_pos c28] at H
         have c28b0 : (((rd_T39 l0_0 a0_1).f0) == 5) = true := beq_iff_eq.mpr c28
         have c28b1 : (((rd_T39 l0_0 a0_1).f0) != 5) = false := bne_eq_false_iff_eq.mpr c28
         clear c28
         by_cases c29 : ((rd_T39 l0_0 a0_1).f1).toList = ([] : List UInt8)
         ·rw [if_pos c29] at H
          have c29b0 : (((rd_T39 l0_0 a0_1).f1).toList == ([] : List UInt8)) = true := beq_iff_eq.mpr c29
          have c29b1 : (((rd_T39 l0_0 a0_1).f1).toList != ([] : List UInt8)) = false := bne_eq_false_iff_eq.mpr c29
          clear c29
          replace H := Option.bind_eq_some_iff.mp H
          obtain ⟨t209, A300, H⟩ := H
          replace H : (if t209 = true then (if (((rd_T39 l0_0 a0_1).f5).length : Int) = 0 then ((spec_l00In.f ((rd_T39 l0_0 a0_1).f6) (-262144) 262144).bind fun t211 => (some t211)) else (some false)) else (some false)) = some r := H
          have A30 := aM A300
          clear A300
          by_cases c31 : t209 = true
          ·subst c31
           have H1 : (if (((rd_T39 l0_0 a0_1).f5).length : Int) = 0 then ((spec_l00In.f ((rd_T39 l0_0 a0_1).f6) (-262144) 262144).bind fun t211 => (some t211)) else (some false)) = some r := by rw [if_pos rfl] at H; exact H
           clear H
           have H := H1
           clear H1
           by_cases c32 : (((rd_T39 l0_0 a0_1).f5).length : Int) = 0
           ·rw [if_pos c32] at H
            have c32b0 : ((((rd_T39 l0_0 a0_1).f5).length : Int) == 0) = true := beq_iff_eq.mpr c32
            have c32b1 : ((((rd_T39 l0_0 a0_1).f5).length : Int) != 0) = false := bne_eq_false_iff_eq.mpr c32
            clear c32
            replace H := Option.bind_eq_some_iff.mp H
            obtain ⟨t211, A330, H⟩ := H
            replace H : (some t211) = some r := H
            have A33 := aM A330
            clear A330
            obtain rfl := Option.some.inj H
            have hx189_0 := HX9000_0.out
            have hx189_1 := HX9000_1.out
            have hx189_2 := HX9000_2.out
            have hx189_3 := HX9000_3.out
            have hx189_4 := HX9000_4.out
            have hx189_5 := HX9000_5.out
            have hx189_6 := HX9000_6.out
            replace hx189_0 := cB HB.out hx189_0
            replace hx189_1 := cB HB.out hx189_1
            replace hx189_2 := cB HB.out hx189_2
            replace hx189_3 := cB HB.out hx189_3
            replace hx189_4 := cB HB.out hx189_4
            replace hx189_5 := cB HB.out hx189_5
            replace hx189_6 := cB HB.out hx189_6
            have HR189_2 := HR9000_2
            have HC189_2 := HC9000_2
            have HR189_3 := HR9000_3
            have HC189_3 := HC9000_3
            have HR189_4 := HR9000_4
            have HC189_4 := HC9000_4
            have HR189_5 := HR9000_5
            have HC189_5 := HC9000_5
            go_wp2_with (first | ((with_reducible refine gate_callee (f := 53) rfl ?_); refine goesL_ (some 31) rfl rfl Try.func53 (by kernel_rfl) rfl #[.string ((rd_T39 l0_0 a0_1).f1)] rfl gQ ?_; (with_reducible refine (spec_IsName.calls kj2 ((rd_T39 l0_0 a0_1).f1) t190 _ A8.out).mono ?_); rintro e w' ⟨rfl, ⟨nd, rfl⟩⟩; refine ⟨_, rfl, ?_⟩; have hx191_0 := HX9000_0.out; have hx191_1 := HX9000_1.out; have hx191_2 := HX9000_2.out; have hx191_3 := HX9000_3.out; have hx191_4 := HX9000_4.out; have hx191_5 := HX9000_5.out; have hx191_6 := HX9000_6.out; replace hx191_0 := cB HB.out hx191_0; replace hx191_1 := cB HB.out hx191_1; replace hx191_2 := cB HB.out hx191_2; replace hx191_3 := cB HB.out hx191_3; replace hx191_4 := cB HB.out hx191_4; replace hx191_5 := cB HB.out hx191_5; replace hx191_6 := cB HB.out hx191_6; have HR191_2 := HR9000_2; have HC191_2 := HC9000_2; have HR191_3 := HR9000_3; have HC191_3 := HC9000_3; have HR191_4 := HR9000_4; have HC191_4 := HC9000_4; have HR191_5 := HR9000_5; have HC191_5 := HC9000_5; have hx192_0 := HX9000_0.out; have hx192_1 := HX9000_1.out; have hx192_2 := HX9000_2.out; have hx192_3 := HX9000_3.out; have hx192_4 := HX9000_4.out; have hx192_5 := HX9000_5.out; have hx192_6 := HX9000_6.out; replace hx192_0 := cB HB.out hx192_0; replace hx192_1 := cB HB.out hx192_1; replace hx192_2 := cB HB.out hx192_2; replace hx192_3 := cB HB.out hx192_3; replace hx192_4 := cB HB.out hx192_4; replace hx192_5 := cB HB.out hx192_5; replace hx192_6 := cB HB.out hx192_6; have HR192_2 := HR9000_2; have HC192_2 := HC9000_2; have HR192_3 := HR9000_3; have HC192_3 := HC9000_3; have HR192_4 := HR9000_4; have HC192_4 := HC9000_4; have HR192_5 := HR9000_5; have HC192_5 := HC9000_5; have hx207_0 := HX9000_0.out; have hx207_1 := HX9000_1.out; have hx207_2 := HX9000_2.out; have hx207_3 := HX9000_3.out; have hx207_4 := HX9000_4.out; have hx207_5 := HX9000_5.out; have hx207_6 := HX9000_6.out; replace hx207_0 := cB HB.out hx207_0; replace hx207_1 := cB HB.out hx207_1; replace hx207_2 := cB HB.out hx207_2; replace hx207_3 := cB HB.out hx207_3; replace hx207_4 := cB HB.out hx207_4; replace hx207_5 := cB HB.out hx207_5; replace hx207_6 := cB HB.out hx207_6; have HR207_2 := HR9000_2; have HC207_2 := HC9000_2; have HR207_3 := HR9000_3; have HC207_3 := HC9000_3; have HR207_4 := HR9000_4; have HC207_4 := HC9000_4; have HR207_5 := HR9000_5; have HC207_5 := HC9000_5; have hx208_0 := HX9000_0.out; have hx208_1 := HX9000_1.out; have hx208_2 := HX9000_2.out; have hx208_3 := HX9000_3.out; have hx208_4 := HX9000_4.out; have hx208_5 := HX9000_5.out; have hx208_6 := HX9000_6.out; replace hx208_0 := cB HB.out hx208_0; replace hx208_1 := cB HB.out hx208_1; replace hx208_2 := cB HB.out hx208_2; replace hx208_3 := cB HB.out hx208_3; replace hx208_4 := cB HB.out hx208_4; replace hx208_5 := cB HB.out hx208_5; replace hx208_6 := cB HB.out hx208_6; have HR208_2 := HR9000_2; have HC208_2 := HC9000_2; have HR208_3 := HR9000_3; have HC208_3 := HC9000_3; have HR208_4 := HR9000_4; have HC208_4 := HC9000_4; have HR208_5 := HR9000_5; have HC208_5 := HC9000_5) | (go_at_call 52; (with_reducible refine (spec_l24Items.calls kj2 _ _ ((rd_T39 l0_0 a0_1).f3) 2 2 true _ ?side1 ?side2 A30.out).mono ?_); (case side1 => exact cQ HR208_3.out); (case side2 => exact HC208_3.out); rintro e w' ⟨rfl, ⟨nd, rfl⟩⟩; have hx210_0 := HX9000_0.out; have hx210_1 := HX9000_1.out; have hx210_2 := HX9000_2.out; have hx210_3 := HX9000_3.out; have hx210_4 := HX9000_4.out; have hx210_5 := HX9000_5.out; have hx210_6 := HX9000_6.out; replace hx210_0 := cB HB.out hx210_0; replace hx210_1 := cB HB.out hx210_1; replace hx210_2 := cB HB.out hx210_2; replace hx210_3 := cB HB.out hx210_3; replace hx210_4 := cB HB.out hx210_4; replace hx210_5 := cB HB.out hx210_5; replace hx210_6 := cB HB.out hx210_6; have HR210_2 := HR9000_2; have HC210_2 := HC9000_2; have HR210_3 := HR9000_3; have HC210_3 := HC9000_3; have HR210_4 := HR9000_4; have HC210_4 := HC9000_4; have HR210_5 := HR9000_5; have HC210_5 := HC9000_5) | (go_at_call 54; (with_reducible refine (spec_l00In.calls ((rd_T39 l0_0 a0_1).f6) (-262144) 262144 t211 _ A33.out).mono ?_); rintro e w' ⟨rfl, ⟨nd, rfl⟩⟩))
            go_ret
            exact ⟨eQ, bQ⟩
           ·rw [if_neg c32] at H
            have c32b0 : ((((rd_T39 l0_0 a0_1).f5).length : Int) == 0) = false := beq_eq_false_iff_ne.mpr c32
            have c32b1 : ((((rd_T39 l0_0 a0_1).f5).length : Int) != 0) = true := bne_iff_ne.mpr c32
            have c32b2 : ¬ (((rd_T39 l0_0 a0_1).f5) = []) := fun h_ => c32 (by rw [h_]; rfl)
            obtain rfl := Option.some.inj H
            have hx189_0 := HX9000_0.out
            have hx189_1 := HX9000_1.out
            have hx189_2 := HX9000_2.out
            have hx189_3 := HX9000_3.out
            have hx189_4 := HX9000_4.out
            have hx189_5 := HX9000_5.out
            have hx189_6 := HX9000_6.out
            replace hx189_0 := cB HB.out hx189_0
            replace hx189_1 := cB HB.out hx189_1
            replace hx189_2 := cB HB.out hx189_2
            replace hx189_3 := cB HB.out hx189_3
            replace hx189_4 := cB HB.out hx189_4
            replace hx189_5 := cB HB.out hx189_5
            replace hx189_6 := cB HB.out hx189_6
            have HR189_2 := HR9000_2
            have HC189_2 := HC9000_2
            have HR189_3 := HR9000_3
            have HC189_3 := HC9000_3
            have HR189_4 := HR9000_4
            have HC189_4 := HC9000_4
            have HR189_5 := HR9000_5
            have HC189_5 := HC9000_5
            go_wp2_with (first | ((with_reducible refine gate_callee (f := 53) rfl ?_); refine goesL_ (some 31) rfl rfl Try.func53 (by kernel_rfl) rfl #[.string ((rd_T39 l0_0 a0_1).f1)] rfl gQ ?_; (with_reducible refine (spec_IsName.calls kj2 ((rd_T39 l0_0 a0_1).f1) t190 _ A8.out).mono ?_); rintro e w' ⟨rfl, ⟨nd, rfl⟩⟩; refine ⟨_, rfl, ?_⟩; have hx191_0 := HX9000_0.out; have hx191_1 := HX9000_1.out; have hx191_2 := HX9000_2.out; have hx191_3 := HX9000_3.out; have hx191_4 := HX9000_4.out; have hx191_5 := HX9000_5.out; have hx191_6 := HX9000_6.out; replace hx191_0 := cB HB.out hx191_0; replace hx191_1 := cB HB.out hx191_1; replace hx191_2 := cB HB.out hx191_2; replace hx191_3 := cB HB.out hx191_3; replace hx191_4 := cB HB.out hx191_4; replace hx191_5 := cB HB.out hx191_5; replace hx191_6 := cB HB.out hx191_6; have HR191_2 := HR9000_2; have HC191_2 := HC9000_2; have HR191_3 := HR9000_3; have HC191_3 := HC9000_3; have HR191_4 := HR9000_4; have HC191_4 := HC9000_4; have HR191_5 := HR9000_5; have HC191_5 := HC9000_5; have hx192_0 := HX9000_0.out; have hx192_1 := HX9000_1.out; have hx192_2 := HX9000_2.out; have hx192_3 := HX9000_3.out; have hx192_4 := HX9000_4.out; have hx192_5 := HX9000_5.out; have hx192_6 := HX9000_6.out; replace hx192_0 := cB HB.out hx192_0; replace hx192_1 := cB HB.out hx192_1; replace hx192_2 := cB HB.out hx192_2; replace hx192_3 := cB HB.out hx192_3; replace hx192_4 := cB HB.out hx192_4; replace hx192_5 := cB HB.out hx192_5; replace hx192_6 := cB HB.out hx192_6; have HR192_2 := HR9000_2; have HC192_2 := HC9000_2; have HR192_3 := HR9000_3; have HC192_3 := HC9000_3; have HR192_4 := HR9000_4; have HC192_4 := HC9000_4; have HR192_5 := HR9000_5; have HC192_5 := HC9000_5; have hx207_0 := HX9000_0.out; have hx207_1 := HX9000_1.out; have hx207_2 := HX9000_2.out; have hx207_3 := HX9000_3.out; have hx207_4 := HX9000_4.out; have hx207_5 := HX9000_5.out; have hx207_6 := HX9000_6.out; replace hx207_0 := cB HB.out hx207_0; replace hx207_1 := cB HB.out hx207_1; replace hx207_2 := cB HB.out hx207_2; replace hx207_3 := cB HB.out hx207_3; replace hx207_4 := cB HB.out hx207_4; replace hx207_5 := cB HB.out hx207_5; replace hx207_6 := cB HB.out hx207_6; have HR207_2 := HR9000_2; have HC207_2 := HC9000_2; have HR207_3 := HR9000_3; have HC207_3 := HC9000_3; have HR207_4 := HR9000_4; have HC207_4 := HC9000_4; have HR207_5 := HR9000_5; have HC207_5 := HC9000_5; have hx208_0 := HX9000_0.out; have hx208_1 := HX9000_1.out; have hx208_2 := HX9000_2.out; have hx208_3 := HX9000_3.out; have hx208_4 := HX9000_4.out; have hx208_5 := HX9000_5.out; have hx208_6 := HX9000_6.out; replace hx208_0 := cB HB.out hx208_0; replace hx208_1 := cB HB.out hx208_1; replace hx208_2 := cB HB.out hx208_2; replace hx208_3 := cB HB.out hx208_3; replace hx208_4 := cB HB.out hx208_4; replace hx208_5 := cB HB.out hx208_5; replace hx208_6 := cB HB.out hx208_6; have HR208_2 := HR9000_2; have HC208_2 := HC9000_2; have HR208_3 := HR9000_3; have HC208_3 := HC9000_3; have HR208_4 := HR9000_4; have HC208_4 := HC9000_4; have HR208_5 := HR9000_5; have HC208_5 := HC9000_5) | (go_at_call 52; (with_reducible refine (spec_l24Items.calls kj2 _ _ ((rd_T39 l0_0 a0_1).f3) 2 2 true _ ?side1 ?side2 A30.out).mono ?_); (case side1 => exact cQ HR208_3.out); (case side2 => exact HC208_3.out); rintro e w' ⟨rfl, ⟨nd, rfl⟩⟩))
            go_ret
            exact ⟨eQ, bQ⟩
          ·replace c31 := Bool.eq_false_iff.mpr c31
           subst c31
           have H1 : (some false) = some r := by rw [if_neg (show ¬ (false = true) by decide)] at H; exact H
           clear H
           have H := H1
           clear H1
           obtain rfl := Option.some.inj H
           have hx189_0 := HX9000_0.out
           have hx189_1 := HX9000_1.out
           have hx189_2 := HX9000_2.out
           have hx189_3 := HX9000_3.out
           have hx189_4 := HX9000_4.out
           have hx189_5 := HX9000_5.out
           have hx189_6 := HX9000_6.out
           replace hx189_0 := cB HB.out hx189_0
           replace hx189_1 := cB HB.out hx189_1
           replace hx189_2 := cB HB.out hx189_2
           replace hx189_3 := cB HB.out hx189_3
           replace hx189_4 := cB HB.out hx189_4
           replace hx189_5 := cB HB.out hx189_5
           replace hx189_6 := cB HB.out hx189_6
           have HR189_2 := HR9000_2
           have HC189_2 := HC9000_2
           have HR189_3 := HR9000_3
           have HC189_3 := HC9000_3
           have HR189_4 := HR9000_4
           have HC189_4 := HC9000_4
           have HR189_5 := HR9000_5
           have HC189_5 := HC9000_5
           go_wp2_with (first | ((with_reducible refine gate_callee (f := 53) rfl ?_); refine goesL_ (some 31) rfl rfl Try.func53 (by kernel_rfl) rfl #[.string ((rd_T39 l0_0 a0_1).f1)] rfl gQ ?_; (with_reducible refine (spec_IsName.calls kj2 ((rd_T39 l0_0 a0_1).f1) t190 _ A8.out).mono ?_); rintro e w' ⟨rfl, ⟨nd, rfl⟩⟩; refine ⟨_, rfl, ?_⟩; have hx191_0 := HX9000_0.out; have hx191_1 := HX9000_1.out; have hx191_2 := HX9000_2.out; have hx191_3 := HX9000_3.out; have hx191_4 := HX9000_4.out; have hx191_5 := HX9000_5.out; have hx191_6 := HX9000_6.out; replace hx191_0 := cB HB.out hx191_0; replace hx191_1 := cB HB.out hx191_1; replace hx191_2 := cB HB.out hx191_2; replace hx191_3 := cB HB.out hx191_3; replace hx191_4 := cB HB.out hx191_4; replace hx191_5 := cB HB.out hx191_5; replace hx191_6 := cB HB.out hx191_6; have HR191_2 := HR9000_2; have HC191_2 := HC9000_2; have HR191_3 := HR9000_3; have HC191_3 := HC9000_3; have HR191_4 := HR9000_4; have HC191_4 := HC9000_4; have HR191_5 := HR9000_5; have HC191_5 := HC9000_5; have hx192_0 := HX9000_0.out; have hx192_1 := HX9000_1.out; have hx192_2 := HX9000_2.out; have hx192_3 := HX9000_3.out; have hx192_4 := HX9000_4.out; have hx192_5 := HX9000_5.out; have hx192_6 := HX9000_6.out; replace hx192_0 := cB HB.out hx192_0; replace hx192_1 := cB HB.out hx192_1; replace hx192_2 := cB HB.out hx192_2; replace hx192_3 := cB HB.out hx192_3; replace hx192_4 := cB HB.out hx192_4; replace hx192_5 := cB HB.out hx192_5; replace hx192_6 := cB HB.out hx192_6; have HR192_2 := HR9000_2; have HC192_2 := HC9000_2; have HR192_3 := HR9000_3; have HC192_3 := HC9000_3; have HR192_4 := HR9000_4; have HC192_4 := HC9000_4; have HR192_5 := HR9000_5; have HC192_5 := HC9000_5; have hx207_0 := HX9000_0.out; have hx207_1 := HX9000_1.out; have hx207_2 := HX9000_2.out; have hx207_3 := HX9000_3.out; have hx207_4 := HX9000_4.out; have hx207_5 := HX9000_5.out; have hx207_6 := HX9000_6.out; replace hx207_0 := cB HB.out hx207_0; replace hx207_1 := cB HB.out hx207_1; replace hx207_2 := cB HB.out hx207_2; replace hx207_3 := cB HB.out hx207_3; replace hx207_4 := cB HB.out hx207_4; replace hx207_5 := cB HB.out hx207_5; replace hx207_6 := cB HB.out hx207_6; have HR207_2 := HR9000_2; have HC207_2 := HC9000_2; have HR207_3 := HR9000_3; have HC207_3 := HC9000_3; have HR207_4 := HR9000_4; have HC207_4 := HC9000_4; have HR207_5 := HR9000_5; have HC207_5 := HC9000_5; have hx208_0 := HX9000_0.out; have hx208_1 := HX9000_1.out; have hx208_2 := HX9000_2.out; have hx208_3 := HX9000_3.out; have hx208_4 := HX9000_4.out; have hx208_5 := HX9000_5.out; have hx208_6 := HX9000_6.out; replace hx208_0 := cB HB.out hx208_0; replace hx208_1 := cB HB.out hx208_1; replace hx208_2 := cB HB.out hx208_2; replace hx208_3 := cB HB.out hx208_3; replace hx208_4 := cB HB.out hx208_4; replace hx208_5 := cB HB.out hx208_5; replace hx208_6 := cB HB.out hx208_6; have HR208_2 := HR9000_2; have HC208_2 := HC9000_2; have HR208_3 := HR9000_3; have HC208_3 := HC9000_3; have HR208_4 := HR9000_4; have HC208_4 := HC9000_4; have HR208_5 := HR9000_5; have HC208_5 := HC9000_5) | (go_at_call 52; (with_reducible refine (spec_l24Items.calls kj2 _ _ ((rd_T39 l0_0 a0_1).f3) 2 2 false _ ?side1 ?side2 A30.out).mono ?_); (case side1 => exact cQ HR208_3.out); (case side2 => exact HC208_3.out); rintro e w' ⟨rfl, ⟨nd, rfl⟩⟩))
           go_ret
           exact ⟨eQ, bQ⟩
         ·rw [if_neg c29] at H
          have c29b0 : (((rd_T39 l0_0 a0_1).f1).toList == ([] : List UInt8)) = false := beq_eq_false_iff_ne.mpr c29
          have c29b1 : (((rd_T39 l0_0 a0_1).f1).toList != ([] : List UInt8)) = true := bne_iff_ne.mpr c29
          obtain rfl := Option.some.inj H
          have hx189_0 := HX9000_0.out
          have hx189_1 := HX9000_1.out
          have hx189_2 := HX9000_2.out
          have hx189_3 := HX9000_3.out
          have hx189_4 := HX9000_4.out
          have hx189_5 := HX9000_5.out
          have hx189_6 := HX9000_6.out
          replace hx189_0 := cB HB.out hx189_0
          replace hx189_1 := cB HB.out hx189_1
          replace hx189_2 := cB HB.out hx189_2
          replace hx189_3 := cB HB.out hx189_3
          replace hx189_4 := cB HB.out hx189_4
          replace hx189_5 := cB HB.out hx189_5
          replace hx189_6 := cB HB.out hx189_6
          have HR189_2 := HR9000_2
          have HC189_2 := HC9000_2
          have HR189_3 := HR9000_3
          have HC189_3 := HC9000_3
          have HR189_4 := HR9000_4
          have HC189_4 := HC9000_4
          have HR189_5 := HR9000_5
          have HC189_5 := HC9000_5
          go_wp2_with (first | ((with_reducible refine gate_callee (f := 53) rfl ?_); refine goesL_ (some 31) rfl rfl Try.func53 (by kernel_rfl) rfl #[.string ((rd_T39 l0_0 a0_1).f1)] rfl gQ ?_; (with_reducible refine (spec_IsName.calls kj2 ((rd_T39 l0_0 a0_1).f1) t190 _ A8.out).mono ?_); rintro e w' ⟨rfl, ⟨nd, rfl⟩⟩; refine ⟨_, rfl, ?_⟩; have hx191_0 := HX9000_0.out; have hx191_1 := HX9000_1.out; have hx191_2 := HX9000_2.out; have hx191_3 := HX9000_3.out; have hx191_4 := HX9000_4.out; have hx191_5 := HX9000_5.out; have hx191_6 := HX9000_6.out; replace hx191_0 := cB HB.out hx191_0; replace hx191_1 := cB HB.out hx191_1; replace hx191_2 := cB HB.out hx191_2; replace hx191_3 := cB HB.out hx191_3; replace hx191_4 := cB HB.out hx191_4; replace hx191_5 := cB HB.out hx191_5; replace hx191_6 := cB HB.out hx191_6; have HR191_2 := HR9000_2; have HC191_2 := HC9000_2; have HR191_3 := HR9000_3; have HC191_3 := HC9000_3; have HR191_4 := HR9000_4; have HC191_4 := HC9000_4; have HR191_5 := HR9000_5; have HC191_5 := HC9000_5; have hx192_0 := HX9000_0.out; have hx192_1 := HX9000_1.out; have hx192_2 := HX9000_2.out; have hx192_3 := HX9000_3.out; have hx192_4 := HX9000_4.out; have hx192_5 := HX9000_5.out; have hx192_6 := HX9000_6.out; replace hx192_0 := cB HB.out hx192_0; replace hx192_1 := cB HB.out hx192_1; replace hx192_2 := cB HB.out hx192_2; replace hx192_3 := cB HB.out hx192_3; replace hx192_4 := cB HB.out hx192_4; replace hx192_5 := cB HB.out hx192_5; replace hx192_6 := cB HB.out hx192_6; have HR192_2 := HR9000_2; have HC192_2 := HC9000_2; have HR192_3 := HR9000_3; have HC192_3 := HC9000_3; have HR192_4 := HR9000_4; have HC192_4 := HC9000_4; have HR192_5 := HR9000_5; have HC192_5 := HC9000_5; have hx207_0 := HX9000_0.out; have hx207_1 := HX9000_1.out; have hx207_2 := HX9000_2.out; have hx207_3 := HX9000_3.out; have hx207_4 := HX9000_4.out; have hx207_5 := HX9000_5.out; have hx207_6 := HX9000_6.out; replace hx207_0 := cB HB.out hx207_0; replace hx207_1 := cB HB.out hx207_1; replace hx207_2 := cB HB.out hx207_2; replace hx207_3 := cB HB.out hx207_3; replace hx207_4 := cB HB.out hx207_4; replace hx207_5 := cB HB.out hx207_5; replace hx207_6 := cB HB.out hx207_6; have HR207_2 := HR9000_2; have HC207_2 := HC9000_2; have HR207_3 := HR9000_3; have HC207_3 := HC9000_3; have HR207_4 := HR9000_4; have HC207_4 := HC9000_4; have HR207_5 := HR9000_5; have HC207_5 := HC9000_5))
          go_ret
          exact ⟨eQ, bQ⟩
        ·rw [if_neg c28] at H
         have c28b0 : (((rd_T39 l0_0 a0_1).f0) == 5) = false := beq_eq_false_iff_ne.mpr c28
         have c28b1 : (((rd_T39 l0_0 a0_1).f0) != 5) = true := bne_iff_ne.mpr c28
         by_cases c34 : ((rd_T39 l0_0 a0_1).f0) = 6
         ·rw [if_pos c34] at H
          have c34b0 : (((rd_T39 l0_0 a0_1).f0) == 6) = true := beq_iff_eq.mpr c34
          have c34b1 : (((rd_T39 l0_0 a0_1).f0) != 6) = false := bne_eq_false_iff_eq.mpr c34
          clear c34
          by_cases c35 : t190 = true
          ·subst c35
           have H1 : ((spec_l24Items.f kj2 ((rd_T39 l0_0 a0_1).f3) 2 2).bind fun t213 => (if t213 = true then (if (((rd_T39 l0_0 a0_1).f5).length : Int) = 0 then (some (((rd_T39 l0_0 a0_1).f6) == 0)) else (some false)) else (some false))) = some r := by rw [if_pos rfl] at H; exact H
           clear H
           have H := H1
           clear H1
           replace H := Option.bind_eq_some_iff.mp H
           obtain ⟨t213, A360, H⟩ := H
           replace H : (if t213 = true then (if (((rd_T39 l0_0 a0_1).f5).length : Int) = 0 then (some (((rd_T39 l0_0 a0_1).f6) == 0)) else (some false)) else (some false)) = some r := H
           have A36 := aM A360
           clear A360
           by_cases c37 : t213 = true
           ·subst c37
            have H1 : (if (((rd_T39 l0_0 a0_1).f5).length : Int) = 0 then (some (((rd_T39 l0_0 a0_1).f6) == 0)) else (some false)) = some r := by rw [if_pos rfl] at H; exact H
            clear H
            have H := H1
            clear H1
            by_cases c38 : (((rd_T39 l0_0 a0_1).f5).length : Int) = 0
            ·rw [if_pos c38] at H
             have c38b0 : ((((rd_T39 l0_0 a0_1).f5).length : Int) == 0) = true := beq_iff_eq.mpr c38
             have c38b1 : ((((rd_T39 l0_0 a0_1).f5).length : Int) != 0) = false := bne_eq_false_iff_eq.mpr c38
             clear c38
             obtain rfl := Option.some.inj H
             have hx189_0 := HX9000_0.out
             have hx189_1 := HX9000_1.out
             have hx189_2 := HX9000_2.out
             have hx189_3 := HX9000_3.out
             have hx189_4 := HX9000_4.out
             have hx189_5 := HX9000_5.out
             have hx189_6 := HX9000_6.out
             replace hx189_0 := cB HB.out hx189_0
             replace hx189_1 := cB HB.out hx189_1
             replace hx189_2 := cB HB.out hx189_2
             replace hx189_3 := cB HB.out hx189_3
             replace hx189_4 := cB HB.out hx189_4
             replace hx189_5 := cB HB.out hx189_5
             replace hx189_6 := cB HB.out hx189_6
             have HR189_2 := HR9000_2
             have HC189_2 := HC9000_2
             have HR189_3 := HR9000_3
             have HC189_3 := HC9000_3
             have HR189_4 := HR9000_4
             have HC189_4 := HC9000_4
             have HR189_5 := HR9000_5
             have HC189_5 := HC9000_5
             go_wp2_with (first | ((with_reducible refine gate_callee (f := 53) rfl ?_); refine goesL_ (some 31) rfl rfl Try.func53 (by kernel_rfl) rfl #[.string ((rd_T39 l0_0 a0_1).f1)] rfl gQ ?_; (with_reducible refine (spec_IsName.calls kj2 ((rd_T39 l0_0 a0_1).f1) true _ A8.out).mono ?_); rintro e w' ⟨rfl, ⟨nd, rfl⟩⟩; refine ⟨_, rfl, ?_⟩; have hx191_0 := HX9000_0.out; have hx191_1 := HX9000_1.out; have hx191_2 := HX9000_2.out; have hx191_3 := HX9000_3.out; have hx191_4 := HX9000_4.out; have hx191_5 := HX9000_5.out; have hx191_6 := HX9000_6.out; replace hx191_0 := cB HB.out hx191_0; replace hx191_1 := cB HB.out hx191_1; replace hx191_2 := cB HB.out hx191_2; replace hx191_3 := cB HB.out hx191_3; replace hx191_4 := cB HB.out hx191_4; replace hx191_5 := cB HB.out hx191_5; replace hx191_6 := cB HB.out hx191_6; have HR191_2 := HR9000_2; have HC191_2 := HC9000_2; have HR191_3 := HR9000_3; have HC191_3 := HC9000_3; have HR191_4 := HR9000_4; have HC191_4 := HC9000_4; have HR191_5 := HR9000_5; have HC191_5 := HC9000_5; have hx192_0 := HX9000_0.out; have hx192_1 := HX9000_1.out; have hx192_2 := HX9000_2.out; have hx192_3 := HX9000_3.out; have hx192_4 := HX9000_4.out; have hx192_5 := HX9000_5.out; have hx192_6 := HX9000_6.out; replace hx192_0 := cB HB.out hx192_0; replace hx192_1 := cB HB.out hx192_1; replace hx192_2 := cB HB.out hx192_2; replace hx192_3 := cB HB.out hx192_3; replace hx192_4 := cB HB.out hx192_4; replace hx192_5 := cB HB.out hx192_5; replace hx192_6 := cB HB.out hx192_6; have HR192_2 := HR9000_2; have HC192_2 := HC9000_2; have HR192_3 := HR9000_3; have HC192_3 := HC9000_3; have HR192_4 := HR9000_4; have HC192_4 := HC9000_4; have HR192_5 := HR9000_5; have HC192_5 := HC9000_5; have hx212_0 := HX9000_0.out; have hx212_1 := HX9000_1.out; have hx212_2 := HX9000_2.out; have hx212_3 := HX9000_3.out; have hx212_4 := HX9000_4.out; have hx212_5 := HX9000_5.out; have hx212_6 := HX9000_6.out; replace hx212_0 := cB HB.out hx212_0; replace hx212_1 := cB HB.out hx212_1; replace hx212_2 := cB HB.out hx212_2; replace hx212_3 := cB HB.out hx212_3; replace hx212_4 := cB HB.out hx212_4; replace hx212_5 := cB HB.out hx212_5; replace hx212_6 := cB HB.out hx212_6; have HR212_2 := HR9000_2; have HC212_2 := HC9000_2; have HR212_3 := HR9000_3; have HC212_3 := HC9000_3; have HR212_4 := HR9000_4; have HC212_4 := HC9000_4; have HR212_5 := HR9000_5; have HC212_5 := HC9000_5) | (go_at_call 52; (with_reducible refine (spec_l24Items.calls kj2 _ _ ((rd_T39 l0_0 a0_1).f3) 2 2 true _ ?side1 ?side2 A36.out).mono ?_); (case side1 => exact cQ HR212_3.out); (case side2 => exact HC212_3.out); rintro e w' ⟨rfl, ⟨nd, rfl⟩⟩; have hx214_0 := HX9000_0.out; have hx214_1 := HX9000_1.out; have hx214_2 := HX9000_2.out; have hx214_3 := HX9000_3.out; have hx214_4 := HX9000_4.out; have hx214_5 := HX9000_5.out; have hx214_6 := HX9000_6.out; replace hx214_0 := cB HB.out hx214_0; replace hx214_1 := cB HB.out hx214_1; replace hx214_2 := cB HB.out hx214_2; replace hx214_3 := cB HB.out hx214_3; replace hx214_4 := cB HB.out hx214_4; replace hx214_5 := cB HB.out hx214_5; replace hx214_6 := cB HB.out hx214_6; have HR214_2 := HR9000_2; have HC214_2 := HC9000_2; have HR214_3 := HR9000_3; have HC214_3 := HC9000_3; have HR214_4 := HR9000_4; have HC214_4 := HC9000_4; have HR214_5 := HR9000_5; have HC214_5 := HC9000_5))
             go_ret
             exact ⟨eQ, bQ⟩
            ·rw [if_neg c38] at H
             have c38b0 : ((((rd_T39 l0_0 a0_1).f5).length : Int) == 0) = false := beq_eq_false_iff_ne.mpr c38
             have c38b1 : ((((rd_T39 l0_0 a0_1).f5).length : Int) != 0) = true := bne_iff_ne.mpr c38
             have c38b2 : ¬ (((rd_T39 l0_0 a0_1).f5) = []) := fun h_ => c38 (by rw [h_]; rfl)
             obtain rfl := Option.some.inj H
             have hx189_0 := HX9000_0.out
             have hx189_1 := HX9000_1.out
             have hx189_2 := HX9000_2.out
             have hx189_3 := HX9000_3.out
             have hx189_4 := HX9000_4.out
             have hx189_5 := HX9000_5.out
             have hx189_6 := HX9000_6.out
             replace hx189_0 := cB HB.out hx189_0
             replace hx189_1 := cB HB.out hx189_1
             replace hx189_2 := cB HB.out hx189_2
             replace hx189_3 := cB HB.out hx189_3
             replace hx189_4 := cB HB.out hx189_4
             replace hx189_5 := cB HB.out hx189_5
             replace hx189_6 := cB HB.out hx189_6
             have HR189_2 := HR9000_2
             have HC189_2 := HC9000_2
             have HR189_3 := HR9000_3
             have HC189_3 := HC9000_3
             have HR189_4 := HR9000_4
             have HC189_4 := HC9000_4
             have HR189_5 := HR9000_5
             have HC189_5 := HC9000_5
             go_wp2_with (first | ((with_reducible refine gate_callee (f := 53) rfl ?_); refine goesL_ (some 31) rfl rfl Try.func53 (by kernel_rfl) rfl #[.string ((rd_T39 l0_0 a0_1).f1)] rfl gQ ?_; (with_reducible refine (spec_IsName.calls kj2 ((rd_T39 l0_0 a0_1).f1) true _ A8.out).mono ?_); rintro e w' ⟨rfl, ⟨nd, rfl⟩⟩; refine ⟨_, rfl, ?_⟩; have hx191_0 := HX9000_0.out; have hx191_1 := HX9000_1.out; have hx191_2 := HX9000_2.out; have hx191_3 := HX9000_3.out; have hx191_4 := HX9000_4.out; have hx191_5 := HX9000_5.out; have hx191_6 := HX9000_6.out; replace hx191_0 := cB HB.out hx191_0; replace hx191_1 := cB HB.out hx191_1; replace hx191_2 := cB HB.out hx191_2; replace hx191_3 := cB HB.out hx191_3; replace hx191_4 := cB HB.out hx191_4; replace hx191_5 := cB HB.out hx191_5; replace hx191_6 := cB HB.out hx191_6; have HR191_2 := HR9000_2; have HC191_2 := HC9000_2; have HR191_3 := HR9000_3; have HC191_3 := HC9000_3; have HR191_4 := HR9000_4; have HC191_4 := HC9000_4; have HR191_5 := HR9000_5; have HC191_5 := HC9000_5; have hx192_0 := HX9000_0.out; have hx192_1 := HX9000_1.out; have hx192_2 := HX9000_2.out; have hx192_3 := HX9000_3.out; have hx192_4 := HX9000_4.out; have hx192_5 := HX9000_5.out; have hx192_6 := HX9000_6.out; replace hx192_0 := cB HB.out hx192_0; replace hx192_1 := cB HB.out hx192_1; replace hx192_2 := cB HB.out hx192_2; replace hx192_3 := cB HB.out hx192_3; replace hx192_4 := cB HB.out hx192_4; replace hx192_5 := cB HB.out hx192_5; replace hx192_6 := cB HB.out hx192_6; have HR192_2 := HR9000_2; have HC192_2 := HC9000_2; have HR192_3 := HR9000_3; have HC192_3 := HC9000_3; have HR192_4 := HR9000_4; have HC192_4 := HC9000_4; have HR192_5 := HR9000_5; have HC192_5 := HC9000_5; have hx212_0 := HX9000_0.out; have hx212_1 := HX9000_1.out; have hx212_2 := HX9000_2.out; have hx212_3 := HX9000_3.out; have hx212_4 := HX9000_4.out; have hx212_5 := HX9000_5.out; have hx212_6 := HX9000_6.out; replace hx212_0 := cB HB.out hx212_0; replace hx212_1 := cB HB.out hx212_1; replace hx212_2 := cB HB.out hx212_2; replace hx212_3 := cB HB.out hx212_3; replace hx212_4 := cB HB.out hx212_4; replace hx212_5 := cB HB.out hx212_5; replace hx212_6 := cB HB.out hx212_6; have HR212_2 := HR9000_2; have HC212_2 := HC9000_2; have HR212_3 := HR9000_3; have HC212_3 := HC9000_3; have HR212_4 := HR9000_4; have HC212_4 := HC9000_4; have HR212_5 := HR9000_5; have HC212_5 := HC9000_5) | (go_at_call 52; (with_reducible refine (spec_l24Items.calls kj2 _ _ ((rd_T39 l0_0 a0_1).f3) 2 2 true _ ?side1 ?side2 A36.out).mono ?_); (case side1 => exact cQ HR212_3.out); (case side2 => exact HC212_3.out); rintro e w' ⟨rfl, ⟨nd, rfl⟩⟩))
             go_ret
             exact ⟨eQ, bQ⟩
           ·replace c37 := Bool.eq_false_iff.mpr c37
            subst c37
            have H1 : (some false) = some r := by rw [if_neg (show ¬ (false = true) by decide)] at H; exact H
            clear H
            have H := H1
            clear H1
            obtain rfl := Option.some.inj H
            have hx189_0 := HX9000_0.out
            have hx189_1 := HX9000_1.out
            have hx189_2 := HX9000_2.out
            have hx189_3 := HX9000_3.out
            have hx189_4 := HX9000_4.out
            have hx189_5 := HX9000_5.out
            have hx189_6 := HX9000_6.out
            replace hx189_0 := cB HB.out hx189_0
            replace hx189_1 := cB HB.out hx189_1
            replace hx189_2 := cB HB.out hx189_2
            replace hx189_3 := cB HB.out hx189_3
            replace hx189_4 := cB HB.out hx189_4
            replace hx189_5 := cB HB.out hx189_5
            replace hx189_6 := cB HB.out hx189_6
            have HR189_2 := HR9000_2
            have HC189_2 := HC9000_2
            have HR189_3 := HR9000_3
            have HC189_3 := HC9000_3
            have HR189_4 := HR9000_4
            have HC189_4 := HC9000_4
            have HR189_5 := HR9000_5
            have HC189_5 := HC9000_5
            go_wp2_with (first | ((with_reducible refine gate_callee (f := 53) rfl ?_); refine goesL_ (some 31) rfl rfl Try.func53 (by kernel_rfl) rfl #[.string ((rd_T39 l0_0 a0_1).f1)] rfl gQ ?_; (with_reducible refine (spec_IsName.calls kj2 ((rd_T39 l0_0 a0_1).f1) true _ A8.out).mono ?_); rintro e w' ⟨rfl, ⟨nd, rfl⟩⟩; refine ⟨_, rfl, ?_⟩; have hx191_0 := HX9000_0.out; have hx191_1 := HX9000_1.out; have hx191_2 := HX9000_2.out; have hx191_3 := HX9000_3.out; have hx191_4 := HX9000_4.out; have hx191_5 := HX9000_5.out; have hx191_6 := HX9000_6.out; replace hx191_0 := cB HB.out hx191_0; replace hx191_1 := cB HB.out hx191_1; replace hx191_2 := cB HB.out hx191_2; replace hx191_3 := cB HB.out hx191_3; replace hx191_4 := cB HB.out hx191_4; replace hx191_5 := cB HB.out hx191_5; replace hx191_6 := cB HB.out hx191_6; have HR191_2 := HR9000_2; have HC191_2 := HC9000_2; have HR191_3 := HR9000_3; have HC191_3 := HC9000_3; have HR191_4 := HR9000_4; have HC191_4 := HC9000_4; have HR191_5 := HR9000_5; have HC191_5 := HC9000_5; have hx192_0 := HX9000_0.out; have hx192_1 := HX9000_1.out; have hx192_2 := HX9000_2.out; have hx192_3 := HX9000_3.out; have hx192_4 := HX9000_4.out; have hx192_5 := HX9000_5.out; have hx192_6 := HX9000_6.out; replace hx192_0 := cB HB.out hx192_0; replace hx192_1 := cB HB.out hx192_1; replace hx192_2 := cB HB.out hx192_2; replace hx192_3 := cB HB.out hx192_3; replace hx192_4 := cB HB.out hx192_4; replace hx192_5 := cB HB.out hx192_5; replace hx192_6 := cB HB.out hx192_6; have HR192_2 := HR9000_2; have HC192_2 := HC9000_2; have HR192_3 := HR9000_3; have HC192_3 := HC9000_3; have HR192_4 := HR9000_4; have HC192_4 := HC9000_4; have HR192_5 := HR9000_5; have HC192_5 := HC9000_5; have hx212_0 := HX9000_0.out; have hx212_1 := HX9000_1.out; have hx212_2 := HX9000_2.out; have hx212_3 := HX9000_3.out; have hx212_4 := HX9000_4.out; have hx212_5 := HX9000_5.out; have hx212_6 := HX9000_6.out; replace hx212_0 := cB HB.out hx212_0; replace hx212_1 := cB HB.out hx212_1; replace hx212_2 := cB HB.out hx212_2; replace hx212_3 := cB HB.out hx212_3; replace hx212_4 := cB HB.out hx212_4; replace hx212_5 := cB HB.out hx212_5; replace hx212_6 := cB HB.out hx212_6; have HR212_2 := HR9000_2; have HC212_2 := HC9000_2; have HR212_3 := HR9000_3; have HC212_3 := HC9000_3; have HR212_4 := HR9000_4; have HC212_4 := HC9000_4; have HR212_5 := HR9000_5; have HC212_5 := HC9000_5) | (go_at_call 52; (with_reducible refine (spec_l24Items.calls kj2 _ _ ((rd_T39 l0_0 a0_1).f3) 2 2 false _ ?side1 ?side2 A36.out).mono ?_); (case side1 => exact cQ HR212_3.out); (case side2 => exact HC212_3.out); rintro e w' ⟨rfl, ⟨nd, rfl⟩⟩))
            go_ret
            exact ⟨eQ, bQ⟩
          ·replace c35 := Bool.eq_false_iff.mpr c35
           subst c35
           have H1 : (some false) = some r := by rw [if_neg (show ¬ (false = true) by decide)] at H; exact H
           clear H
           have H := H1
           clear H1
           obtain rfl := Option.some.inj H
           have hx189_0 := HX9000_0.out
           have hx189_1 := HX9000_1.out
           have hx189_2 := HX9000_2.out
           have hx189_3 := HX9000_3.out
           have hx189_4 := HX9000_4.out
           have hx189_5 := HX9000_5.out
           have hx189_6 := HX9000_6.out
           replace hx189_0 := cB HB.out hx189_0
           replace hx189_1 := cB HB.out hx189_1
           replace hx189_2 := cB HB.out hx189_2
           replace hx189_3 := cB HB.out hx189_3
           replace hx189_4 := cB HB.out hx189_4
           replace hx189_5 := cB HB.out hx189_5
           replace hx189_6 := cB HB.out hx189_6
           have HR189_2 := HR9000_2
           have HC189_2 := HC9000_2
           have HR189_3 := HR9000_3
           have HC189_3 := HC9000_3
           have HR189_4 := HR9000_4
           have HC189_4 := HC9000_4
           have HR189_5 := HR9000_5
           have HC189_5 := HC9000_5
           go_wp2_with (first | ((with_reducible refine gate_callee (f := 53) rfl ?_); refine goesL_ (some 31) rfl rfl Try.func53 (by kernel_rfl) rfl #[.string ((rd_T39 l0_0 a0_1).f1)] rfl gQ ?_; (with_reducible refine (spec_IsName.calls kj2 ((rd_T39 l0_0 a0_1).f1) false _ A8.out).mono ?_); rintro e w' ⟨rfl, ⟨nd, rfl⟩⟩; refine ⟨_, rfl, ?_⟩; have hx191_0 := HX9000_0.out; have hx191_1 := HX9000_1.out; have hx191_2 := HX9000_2.out; have hx191_3 := HX9000_3.out; have hx191_4 := HX9000_4.out; have hx191_5 := HX9000_5.out; have hx191_6 := HX9000_6.out; replace hx191_0 := cB HB.out hx191_0; replace hx191_1 := cB HB.out hx191_1; replace hx191_2 := cB HB.out hx191_2; replace hx191_3 := cB HB.out hx191_3; replace hx191_4 := cB HB.out hx191_4; replace hx191_5 := cB HB.out hx191_5; replace hx191_6 := cB HB.out hx191_6; have HR191_2 := HR9000_2; have HC191_2 := HC9000_2; have HR191_3 := HR9000_3; have HC191_3 := HC9000_3; have HR191_4 := HR9000_4; have HC191_4 := HC9000_4; have HR191_5 := HR9000_5; have HC191_5 := HC9000_5; have hx192_0 := HX9000_0.out; have hx192_1 := HX9000_1.out; have hx192_2 := HX9000_2.out; have hx192_3 := HX9000_3.out; have hx192_4 := HX9000_4.out; have hx192_5 := HX9000_5.out; have hx192_6 := HX9000_6.out; replace hx192_0 := cB HB.out hx192_0; replace hx192_1 := cB HB.out hx192_1; replace hx192_2 := cB HB.out hx192_2; replace hx192_3 := cB HB.out hx192_3; replace hx192_4 := cB HB.out hx192_4; replace hx192_5 := cB HB.out hx192_5; replace hx192_6 := cB HB.out hx192_6; have HR192_2 := HR9000_2; have HC192_2 := HC9000_2; have HR192_3 := HR9000_3; have HC192_3 := HC9000_3; have HR192_4 := HR9000_4; have HC192_4 := HC9000_4; have HR192_5 := HR9000_5; have HC192_5 := HC9000_5))
           go_ret
           exact ⟨eQ, bQ⟩
         ·rw [if_neg c34] at H
          have c34b0 : (((rd_T39 l0_0 a0_1).f0) == 6) = false := beq_eq_false_iff_ne.mpr c34
          have c34b1 : (((rd_T39 l0_0 a0_1).f0) != 6) = true := bne_iff_ne.mpr c34
          by_cases c39 : ((rd_T39 l0_0 a0_1).f0) = 7
          ·rw [if_pos c39] at H
           have c39b0 : (((rd_T39 l0_0 a0_1).f0) == 7) = true := beq_iff_eq.mpr c39
           have c39b1 : (((rd_T39 l0_0 a0_1).f0) != 7) = false := bne_eq_false_iff_eq.mpr c39
           clear c39
           by_cases c40 : t190 = true
           ·subst c40
            have H1 : (if (((rd_T39 l0_0 a0_1).f3).length : Int) = 0 then ((spec_l24Forms.f kj2 ((rd_T39 l0_0 a0_1).f5)).bind fun t217 => (if t217 = true then ((spec_l00In.f ((rd_T39 l0_0 a0_1).f6) 1 3).bind fun t219 => (some t219)) else (some false))) else (some false)) = some r := by rw [if_pos rfl] at H; exact H
            clear H
            have H := H1
            clear H1
            by_cases c41 : (((rd_T39 l0_0 a0_1).f3).length : Int) = 0
            ·rw [if_pos c41] at H
             have c41b0 : ((((rd_T39 l0_0 a0_1).f3).length : Int) == 0) = true := beq_iff_eq.mpr c41
             have c41b1 : ((((rd_T39 l0_0 a0_1).f3).length : Int) != 0) = false := bne_eq_false_iff_eq.mpr c41
             clear c41
             replace H := Option.bind_eq_some_iff.mp H
             obtain ⟨t217, A420, H⟩ := H
             replace H : (if t217 = true then ((spec_l00In.f ((rd_T39 l0_0 a0_1).f6) 1 3).bind fun t219 => (some t219)) else (some false)) = some r := H
             have A42 := aM A420
             clear A420
             by_cases c43 : t217 = true
             ·subst c43
              have H1 : ((spec_l00In.f ((rd_T39 l0_0 a0_1).f6) 1 3).bind fun t219 => (some t219)) = some r := by rw [if_pos rfl] at H; exact H
              clear H
              have H := H1
              clear H1
              replace H := Option.bind_eq_some_iff.mp H
              obtain ⟨t219, A440, H⟩ := H
              replace H : (some t219) = some r := H
              have A44 := aM A440
              clear A440
              obtain rfl := Option.some.inj H
              have hx189_0 := HX9000_0.out
              have hx189_1 := HX9000_1.out
              have hx189_2 := HX9000_2.out
              have hx189_3 := HX9000_3.out
              have hx189_4 := HX9000_4.out
              have hx189_5 := HX9000_5.out
              have hx189_6 := HX9000_6.out
              replace hx189_0 := cB HB.out hx189_0
              replace hx189_1 := cB HB.out hx189_1
              replace hx189_2 := cB HB.out hx189_2
              replace hx189_3 := cB HB.out hx189_3
              replace hx189_4 := cB HB.out hx189_4
              replace hx189_5 := cB HB.out hx189_5
              replace hx189_6 := cB HB.out hx189_6
              have HR189_2 := HR9000_2
              have HC189_2 := HC9000_2
              have HR189_3 := HR9000_3
              have HC189_3 := HC9000_3
              have HR189_4 := HR9000_4
              have HC189_4 := HC9000_4
              have HR189_5 := HR9000_5
              have HC189_5 := HC9000_5
              go_wp2_with (first | ((with_reducible refine gate_callee (f := 53) rfl ?_); refine goesL_ (some 31) rfl rfl Try.func53 (by kernel_rfl) rfl #[.string ((rd_T39 l0_0 a0_1).f1)] rfl gQ ?_; (with_reducible refine (spec_IsName.calls kj2 ((rd_T39 l0_0 a0_1).f1) true _ A8.out).mono ?_); rintro e w' ⟨rfl, ⟨nd, rfl⟩⟩; refine ⟨_, rfl, ?_⟩; have hx191_0 := HX9000_0.out; have hx191_1 := HX9000_1.out; have hx191_2 := HX9000_2.out; have hx191_3 := HX9000_3.out; have hx191_4 := HX9000_4.out; have hx191_5 := HX9000_5.out; have hx191_6 := HX9000_6.out; replace hx191_0 := cB HB.out hx191_0; replace hx191_1 := cB HB.out hx191_1; replace hx191_2 := cB HB.out hx191_2; replace hx191_3 := cB HB.out hx191_3; replace hx191_4 := cB HB.out hx191_4; replace hx191_5 := cB HB.out hx191_5; replace hx191_6 := cB HB.out hx191_6; have HR191_2 := HR9000_2; have HC191_2 := HC9000_2; have HR191_3 := HR9000_3; have HC191_3 := HC9000_3; have HR191_4 := HR9000_4; have HC191_4 := HC9000_4; have HR191_5 := HR9000_5; have HC191_5 := HC9000_5; have hx192_0 := HX9000_0.out; have hx192_1 := HX9000_1.out; have hx192_2 := HX9000_2.out; have hx192_3 := HX9000_3.out; have hx192_4 := HX9000_4.out; have hx192_5 := HX9000_5.out; have hx192_6 := HX9000_6.out; replace hx192_0 := cB HB.out hx192_0; replace hx192_1 := cB HB.out hx192_1; replace hx192_2 := cB HB.out hx192_2; replace hx192_3 := cB HB.out hx192_3; replace hx192_4 := cB HB.out hx192_4; replace hx192_5 := cB HB.out hx192_5; replace hx192_6 := cB HB.out hx192_6; have HR192_2 := HR9000_2; have HC192_2 := HC9000_2; have HR192_3 := HR9000_3; have HC192_3 := HC9000_3; have HR192_4 := HR9000_4; have HC192_4 := HC9000_4; have HR192_5 := HR9000_5; have HC192_5 := HC9000_5; have hx215_0 := HX9000_0.out; have hx215_1 := HX9000_1.out; have hx215_2 := HX9000_2.out; have hx215_3 := HX9000_3.out; have hx215_4 := HX9000_4.out; have hx215_5 := HX9000_5.out; have hx215_6 := HX9000_6.out; replace hx215_0 := cB HB.out hx215_0; replace hx215_1 := cB HB.out hx215_1; replace hx215_2 := cB HB.out hx215_2; replace hx215_3 := cB HB.out hx215_3; replace hx215_4 := cB HB.out hx215_4; replace hx215_5 := cB HB.out hx215_5; replace hx215_6 := cB HB.out hx215_6; have HR215_2 := HR9000_2; have HC215_2 := HC9000_2; have HR215_3 := HR9000_3; have HC215_3 := HC9000_3; have HR215_4 := HR9000_4; have HC215_4 := HC9000_4; have HR215_5 := HR9000_5; have HC215_5 := HC9000_5; have hx216_0 := HX9000_0.out; have hx216_1 := HX9000_1.out; have hx216_2 := HX9000_2.out; have hx216_3 := HX9000_3.out; have hx216_4 := HX9000_4.out; have hx216_5 := HX9000_5.out; have hx216_6 := HX9000_6.out; replace hx216_0 := cB HB.out hx216_0; replace hx216_1 := cB HB.out hx216_1; replace hx216_2 := cB HB.out hx216_2; replace hx216_3 := cB HB.out hx216_3; replace hx216_4 := cB HB.out hx216_4; replace hx216_5 := cB HB.out hx216_5; replace hx216_6 := cB HB.out hx216_6; have HR216_2 := HR9000_2; have HC216_2 := HC9000_2; have HR216_3 := HR9000_3; have HC216_3 := HC9000_3; have HR216_4 := HR9000_4; have HC216_4 := HC9000_4; have HR216_5 := HR9000_5; have HC216_5 := HC9000_5) | (go_at_call 55; (with_reducible refine (spec_l24Forms.calls kj2 _ _ ((rd_T39 l0_0 a0_1).f5) true _ ?side1 ?side2 A42.out).mono ?_); (case side1 => exact cQ HR216_5.out); (case side2 => exact HC216_5.out); rintro e w' ⟨rfl, ⟨nd, rfl⟩⟩; have hx218_0 := HX9000_0.out; have hx218_1 := HX9000_1.out; have hx218_2 := HX9000_2.out; have hx218_3 := HX9000_3.out; have hx218_4 := HX9000_4.out; have hx218_5 := HX9000_5.out; have hx218_6 := HX9000_6.out; replace hx218_0 := cB HB.out hx218_0; replace hx218_1 := cB HB.out hx218_1; replace hx218_2 := cB HB.out hx218_2; replace hx218_3 := cB HB.out hx218_3; replace hx218_4 := cB HB.out hx218_4; replace hx218_5 := cB HB.out hx218_5; replace hx218_6 := cB HB.out hx218_6; have HR218_2 := HR9000_2; have HC218_2 := HC9000_2; have HR218_3 := HR9000_3; have HC218_3 := HC9000_3; have HR218_4 := HR9000_4; have HC218_4 := HC9000_4; have HR218_5 := HR9000_5; have HC218_5 := HC9000_5) | (go_at_call 54; (with_reducible refine (spec_l00In.calls ((rd_T39 l0_0 a0_1).f6) 1 3 t219 _ A44.out).mono ?_); rintro e w' ⟨rfl, ⟨nd, rfl⟩⟩))
              go_ret
              exact ⟨eQ, bQ⟩
             ·replace c43 := Bool.eq_false_iff.mpr c43
              subst c43
              have H1 : (some false) = some r := by rw [if_neg (show ¬ (false = true) by decide)] at H; exact H
              clear H
              have H := H1
              clear H1
              obtain rfl := Option.some.inj H
              have hx189_0 := HX9000_0.out
              have hx189_1 := HX9000_1.out
              have hx189_2 := HX9000_2.out
              have hx189_3 := HX9000_3.out
              have hx189_4 := HX9000_4.out
              have hx189_5 := HX9000_5.out
              have hx189_6 := HX9000_6.out
              replace hx189_0 := cB HB.out hx189_0
              replace hx189_1 := cB HB.out hx189_1
              replace hx189_2 := cB HB.out hx189_2
              replace hx189_3 := cB HB.out hx189_3
              replace hx189_4 := cB HB.out hx189_4
              replace hx189_5 := cB HB.out hx189_5
              replace hx189_6 := cB HB.out hx189_6
              have HR189_2 := HR9000_2
              have HC189_2 := HC9000_2
              have HR189_3 := HR9000_3
              have HC189_3 := HC9000_3
              have HR189_4 := HR9000_4
              have HC189_4 := HC9000_4
              have HR189_5 := HR9000_5
              have HC189_5 := HC9000_5
              go_wp2_with (first | ((with_reducible refine gate_callee (f := 53) rfl ?_); refine goesL_ (some 31) rfl rfl Try.func53 (by kernel_rfl) rfl #[.string ((rd_T39 l0_0 a0_1).f1)] rfl gQ ?_; (with_reducible refine (spec_IsName.calls kj2 ((rd_T39 l0_0 a0_1).f1) true _ A8.out).mono ?_); rintro e w' ⟨rfl, ⟨nd, rfl⟩⟩; refine ⟨_, rfl, ?_⟩; have hx191_0 := HX9000_0.out; have hx191_1 := HX9000_1.out; have hx191_2 := HX9000_2.out; have hx191_3 := HX9000_3.out; have hx191_4 := HX9000_4.out; have hx191_5 := HX9000_5.out; have hx191_6 := HX9000_6.out; replace hx191_0 := cB HB.out hx191_0; replace hx191_1 := cB HB.out hx191_1; replace hx191_2 := cB HB.out hx191_2; replace hx191_3 := cB HB.out hx191_3; replace hx191_4 := cB HB.out hx191_4; replace hx191_5 := cB HB.out hx191_5; replace hx191_6 := cB HB.out hx191_6; have HR191_2 := HR9000_2; have HC191_2 := HC9000_2; have HR191_3 := HR9000_3; have HC191_3 := HC9000_3; have HR191_4 := HR9000_4; have HC191_4 := HC9000_4; have HR191_5 := HR9000_5; have HC191_5 := HC9000_5; have hx192_0 := HX9000_0.out; have hx192_1 := HX9000_1.out; have hx192_2 := HX9000_2.out; have hx192_3 := HX9000_3.out; have hx192_4 := HX9000_4.out; have hx192_5 := HX9000_5.out; have hx192_6 := HX9000_6.out; replace hx192_0 := cB HB.out hx192_0; replace hx192_1 := cB HB.out hx192_1; replace hx192_2 := cB HB.out hx192_2; replace hx192_3 := cB HB.out hx192_3; replace hx192_4 := cB HB.out hx192_4; replace hx192_5 := cB HB.out hx192_5; replace hx192_6 := cB HB.out hx192_6; have HR192_2 := HR9000_2; have HC192_2 := HC9000_2; have HR192_3 := HR9000_3; have HC192_3 := HC9000_3; have HR192_4 := HR9000_4; have HC192_4 := HC9000_4; have HR192_5 := HR9000_5; have HC192_5 := HC9000_5; have hx215_0 := HX9000_0.out; have hx215_1 := HX9000_1.out; have hx215_2 := HX9000_2.out; have hx215_3 := HX9000_3.out; have hx215_4 := HX9000_4.out; have hx215_5 := HX9000_5.out; have hx215_6 := HX9000_6.out; replace hx215_0 := cB HB.out hx215_0; replace hx215_1 := cB HB.out hx215_1; replace hx215_2 := cB HB.out hx215_2; replace hx215_3 := cB HB.out hx215_3; replace hx215_4 := cB HB.out hx215_4; replace hx215_5 := cB HB.out hx215_5; replace hx215_6 := cB HB.out hx215_6; have HR215_2 := HR9000_2; have HC215_2 := HC9000_2; have HR215_3 := HR9000_3; have HC215_3 := HC9000_3; have HR215_4 := HR9000_4; have HC215_4 := HC9000_4; have HR215_5 := HR9000_5; have HC215_5 := HC9000_5; have hx216_0 := HX9000_0.out; have hx216_1 := HX9000_1.out; have hx216_2 := HX9000_2.out; have hx216_3 := HX9000_3.out; have hx216_4 := HX9000_4.out; have hx216_5 := HX9000_5.out; have hx216_6 := HX9000_6.out; replace hx216_0 := cB HB.out hx216_0; replace hx216_1 := cB HB.out hx216_1; replace hx216_2 := cB HB.out hx216_2; replace hx216_3 := cB HB.out hx216_3; replace hx216_4 := cB HB.out hx216_4; replace hx216_5 := cB HB.out hx216_5; replace hx216_6 := cB HB.out hx216_6; have HR216_2 := HR9000_2; have HC216_2 := HC9000_2; have HR216_3 := HR9000_3; have HC216_3 := HC9000_3; have HR216_4 := HR9000_4; have HC216_4 := HC9000_4; have HR216_5 := HR9000_5; have HC216_5 := HC9000_5) | (go_at_call 55; (with_reducible refine (spec_l24Forms.calls kj2 _ _ ((rd_T39 l0_0 a0_1).f5) false _ ?side1 ?side2 A42.out).mono ?_); (case side1 => exact cQ HR216_5.out); (case side2 => exact HC216_5.out); rintro e w' ⟨rfl, ⟨nd, rfl⟩⟩))
              go_ret
              exact ⟨eQ, bQ⟩
            ·rw [if_neg c41] at H
             have c41b0 : ((((rd_T39 l0_0 a0_1).f3).length : Int) == 0) = false := beq_eq_false_iff_ne.mpr c41
             have c41b1 : ((((rd_T39 l0_0 a0_1).f3).length : Int) != 0) = true := bne_iff_ne.mpr c41
             have c41b2 : ¬ (((rd_T39 l0_0 a0_1).f3) = []) := fun h_ => c41 (by rw [h_]; rfl)
             obtain rfl := Option.some.inj H
             have hx189_0 := HX9000_0.out
             have hx189_1 := HX9000_1.out
             have hx189_2 := HX9000_2.out
             have hx189_3 := HX9000_3.out
             have hx189_4 := HX9000_4.out
             have hx189_5 := HX9000_5.out
             have hx189_6 := HX9000_6.out
             replace hx189_0 := cB HB.out hx189_0
             replace hx189_1 := cB HB.out hx189_1
             replace hx189_2 := cB HB.out hx189_2
             replace hx189_3 := cB HB.out hx189_3
             replace hx189_4 := cB HB.out hx189_4
             replace hx189_5 := cB HB.out hx189_5
             replace hx189_6 := cB HB.out hx189_6
             have HR189_2 := HR9000_2
             have HC189_2 := HC9000_2
             have HR189_3 := HR9000_3
             have HC189_3 := HC9000_3
             have HR189_4 := HR9000_4
             have HC189_4 := HC9000_4
             have HR189_5 := HR9000_5
             have HC189_5 := HC9000_5
             go_wp2_with (first | ((with_reducible refine gate_callee (f := 53) rfl ?_); refine goesL_ (some 31) rfl rfl Try.func53 (by kernel_rfl) rfl #[.string ((rd_T39 l0_0 a0_1).f1)] rfl gQ ?_; (with_reducible refine (spec_IsName.calls kj2 ((rd_T39 l0_0 a0_1).f1) true _ A8.out).mono ?_); rintro e w' ⟨rfl, ⟨nd, rfl⟩⟩; refine ⟨_, rfl, ?_⟩; have hx191_0 := HX9000_0.out; have hx191_1 := HX9000_1.out; have hx191_2 := HX9000_2.out; have hx191_3 := HX9000_3.out; have hx191_4 := HX9000_4.out; have hx191_5 := HX9000_5.out; have hx191_6 := HX9000_6.out; replace hx191_0 := cB HB.out hx191_0; replace hx191_1 := cB HB.out hx191_1; replace hx191_2 := cB HB.out hx191_2; replace hx191_3 := cB HB.out hx191_3; replace hx191_4 := cB HB.out hx191_4; replace hx191_5 := cB HB.out hx191_5; replace hx191_6 := cB HB.out hx191_6; have HR191_2 := HR9000_2; have HC191_2 := HC9000_2; have HR191_3 := HR9000_3; have HC191_3 := HC9000_3; have HR191_4 := HR9000_4; have HC191_4 := HC9000_4; have HR191_5 := HR9000_5; have HC191_5 := HC9000_5; have hx192_0 := HX9000_0.out; have hx192_1 := HX9000_1.out; have hx192_2 := HX9000_2.out; have hx192_3 := HX9000_3.out; have hx192_4 := HX9000_4.out; have hx192_5 := HX9000_5.out; have hx192_6 := HX9000_6.out; replace hx192_0 := cB HB.out hx192_0; replace hx192_1 := cB HB.out hx192_1; replace hx192_2 := cB HB.out hx192_2; replace hx192_3 := cB HB.out hx192_3; replace hx192_4 := cB HB.out hx192_4; replace hx192_5 := cB HB.out hx192_5; replace hx192_6 := cB HB.out hx192_6; have HR192_2 := HR9000_2; have HC192_2 := HC9000_2; have HR192_3 := HR9000_3; have HC192_3 := HC9000_3; have HR192_4 := HR9000_4; have HC192_4 := HC9000_4; have HR192_5 := HR9000_5; have HC192_5 := HC9000_5; have hx215_0 := HX9000_0.out; have hx215_1 := HX9000_1.out; have hx215_2 := HX9000_2.out; have hx215_3 := HX9000_3.out; have hx215_4 := HX9000_4.out; have hx215_5 := HX9000_5.out; have hx215_6 := HX9000_6.out; replace hx215_0 := cB HB.out hx215_0; replace hx215_1 := cB HB.out hx215_1; replace hx215_2 := cB HB.out hx215_2; replace hx215_3 := cB HB.out hx215_3; replace hx215_4 := cB HB.out hx215_4; replace hx215_5 := cB HB.out hx215_5; replace hx215_6 := cB HB.out hx215_6; have HR215_2 := HR9000_2; have HC215_2 := HC9000_2; have HR215_3 := HR9000_3; have HC215_3 := HC9000_3; have HR215_4 := HR9000_4; have HC215_4 := HC9000_4; have HR215_5 := HR9000_5; have HC215_5 := HC9000_5))
             go_ret
             exact ⟨eQ, bQ⟩
           ·replace c40 := Bool.eq_false_iff.mpr c40
            subst c40
            have H1 : (some false) = some r := by rw [if_neg (show ¬ (false = true) by decide)] at H; exact H
            clear H
            have H := H1
            clear H1
            obtain rfl := Option.some.inj H
            have hx189_0 := HX9000_0.out
            have hx189_1 := HX9000_1.out
            have hx189_2 := HX9000_2.out
            have hx189_3 := HX9000_3.out
            have hx189_4 := HX9000_4.out
            have hx189_5 := HX9000_5.out
            have hx189_6 := HX9000_6.out
            replace hx189_0 := cB HB.out hx189_0
            replace hx189_1 := cB HB.out hx189_1
            replace hx189_2 := cB HB.out hx189_2
            replace hx189_3 := cB HB.out hx189_3
            replace hx189_4 := cB HB.out hx189_4
            replace hx189_5 := cB HB.out hx189_5
            replace hx189_6 := cB HB.out hx189_6
            have HR189_2 := HR9000_2
            have HC189_2 := HC9000_2
            have HR189_3 := HR9000_3
            have HC189_3 := HC9000_3
            have HR189_4 := HR9000_4
            have HC189_4 := HC9000_4
            have HR189_5 := HR9000_5
            have HC189_5 := HC9000_5
            go_wp2_with (first | ((with_reducible refine gate_callee (f := 53) rfl ?_); refine goesL_ (some 31) rfl rfl Try.func53 (by kernel_rfl) rfl #[.string ((rd_T39 l0_0 a0_1).f1)] rfl gQ ?_; (with_reducible refine (spec_IsName.calls kj2 ((rd_T39 l0_0 a0_1).f1) false _ A8.out).mono ?_); rintro e w' ⟨rfl, ⟨nd, rfl⟩⟩; refine ⟨_, rfl, ?_⟩; have hx191_0 := HX9000_0.out; have hx191_1 := HX9000_1.out; have hx191_2 := HX9000_2.out; have hx191_3 := HX9000_3.out; have hx191_4 := HX9000_4.out; have hx191_5 := HX9000_5.out; have hx191_6 := HX9000_6.out; replace hx191_0 := cB HB.out hx191_0; replace hx191_1 := cB HB.out hx191_1; replace hx191_2 := cB HB.out hx191_2; replace hx191_3 := cB HB.out hx191_3; replace hx191_4 := cB HB.out hx191_4; replace hx191_5 := cB HB.out hx191_5; replace hx191_6 := cB HB.out hx191_6; have HR191_2 := HR9000_2; have HC191_2 := HC9000_2; have HR191_3 := HR9000_3; have HC191_3 := HC9000_3; have HR191_4 := HR9000_4; have HC191_4 := HC9000_4; have HR191_5 := HR9000_5; have HC191_5 := HC9000_5; have hx192_0 := HX9000_0.out; have hx192_1 := HX9000_1.out; have hx192_2 := HX9000_2.out; have hx192_3 := HX9000_3.out; have hx192_4 := HX9000_4.out; have hx192_5 := HX9000_5.out; have hx192_6 := HX9000_6.out; replace hx192_0 := cB HB.out hx192_0; replace hx192_1 := cB HB.out hx192_1; replace hx192_2 := cB HB.out hx192_2; replace hx192_3 := cB HB.out hx192_3; replace hx192_4 := cB HB.out hx192_4; replace hx192_5 := cB HB.out hx192_5; replace hx192_6 := cB HB.out hx192_6; have HR192_2 := HR9000_2; have HC192_2 := HC9000_2; have HR192_3 := HR9000_3; have HC192_3 := HC9000_3; have HR192_4 := HR9000_4; have HC192_4 := HC9000_4; have HR192_5 := HR9000_5; have HC192_5 := HC9000_5))
            go_ret
            exact ⟨eQ, bQ⟩
          ·rw [if_neg c39] at H
           have c39b0 : (((rd_T39 l0_0 a0_1).f0) == 7) = false := beq_eq_false_iff_ne.mpr c39
           have c39b1 : (((rd_T39 l0_0 a0_1).f0) != 7) = true := bne_iff_ne.mpr c39
           obtain rfl := Option.some.inj H
           have hx189_0 := HX9000_0.out
           have hx189_1 := HX9000_1.out
           have hx189_2 := HX9000_2.out
           have hx189_3 := HX9000_3.out
           have hx189_4 := HX9000_4.out
           have hx189_5 := HX9000_5.out
           have hx189_6 := HX9000_6.out
           replace hx189_0 := cB HB.out hx189_0
           replace hx189_1 := cB HB.out hx189_1
           replace hx189_2 := cB HB.out hx189_2
           replace hx189_3 := cB HB.out hx189_3
           replace hx189_4 := cB HB.out hx189_4
           replace hx189_5 := cB HB.out hx189_5
           replace hx189_6 := cB HB.out hx189_6
           have HR189_2 := HR9000_2
           have HC189_2 := HC9000_2
           have HR189_3 := HR9000_3
           have HC189_3 := HC9000_3
           have HR189_4 := HR9000_4
           have HC189_4 := HC9000_4
           have HR189_5 := HR9000_5
           have HC189_5 := HC9000_5
           go_wp2_with (first | ((with_reducible refine gate_callee (f := 53) rfl ?_); refine goesL_ (some 31) rfl rfl Try.func53 (by kernel_rfl) rfl #[.string ((rd_T39 l0_0 a0_1).f1)] rfl gQ ?_; (with_reducible refine (spec_IsName.calls kj2 ((rd_T39 l0_0 a0_1).f1) t190 _ A8.out).mono ?_); rintro e w' ⟨rfl, ⟨nd, rfl⟩⟩; refine ⟨_, rfl, ?_⟩; have hx191_0 := HX9000_0.out; have hx191_1 := HX9000_1.out; have hx191_2 := HX9000_2.out; have hx191_3 := HX9000_3.out; have hx191_4 := HX9000_4.out; have hx191_5 := HX9000_5.out; have hx191_6 := HX9000_6.out; replace hx191_0 := cB HB.out hx191_0; replace hx191_1 := cB HB.out hx191_1; replace hx191_2 := cB HB.out hx191_2; replace hx191_3 := cB HB.out hx191_3; replace hx191_4 := cB HB.out hx191_4; replace hx191_5 := cB HB.out hx191_5; replace hx191_6 := cB HB.out hx191_6; have HR191_2 := HR9000_2; have HC191_2 := HC9000_2; have HR191_3 := HR9000_3; have HC191_3 := HC9000_3; have HR191_4 := HR9000_4; have HC191_4 := HC9000_4; have HR191_5 := HR9000_5; have HC191_5 := HC9000_5; have hx192_0 := HX9000_0.out; have hx192_1 := HX9000_1.out; have hx192_2 := HX9000_2.out; have hx192_3 := HX9000_3.out; have hx192_4 := HX9000_4.out; have hx192_5 := HX9000_5.out; have hx192_6 := HX9000_6.out; replace hx192_0 := cB HB.out hx192_0; replace hx192_1 := cB HB.out hx192_1; replace hx192_2 := cB HB.out hx192_2; replace hx192_3 := cB HB.out hx192_3; replace hx192_4 := cB HB.out hx192_4; replace hx192_5 := cB HB.out hx192_5; replace hx192_6 := cB HB.out hx192_6; have HR192_2 := HR9000_2; have HC192_2 := HC9000_2; have HR192_3 := HR9000_3; have HC192_3 := HC9000_3; have HR192_4 := HR9000_4; have HC192_4 := HC9000_4; have HR192_5 := HR9000_5; have HC192_5 := HC9000_5))
           go_ret
           exact ⟨eQ, bQ⟩

end Go.Proofs.Ytfabhfdjabehpaa.QFnExactSourceText
