/- What some Go functions answer, each as a Lean function, and that the machine answers so: written by a program of this session out of the translation. -/
import Derived.Test.YtdahcapolipnbaaQFnExactMatchesAtx0
import Derived.Test.YtdahcapolipnbaaQFnExactMatchesAtx2
namespace Go.Proofs.Ytdahcapolipnbaa.QFnExactMatchesAt
open Go.RowKit Go.Proofs.YtdahcapolipnbaaW.PrintWords Go.Proofs.YtdahcapolipnbaaW.PrintLast Go.Proofs.YtdahcapolipnbaaW.PrintMore Go.Proofs.Ytdahcapolipnbaa.Rp
attribute [local go_sem] max2_int min2_int max_two min_two max_three min_three max_four min_four   -- for this text's walks alone
set_option linter.unusedVariables false
set_option linter.unusedSimpArgs false

/-! ### spec_l25Rule_at: function 66 -/
def spec_l25Rule_at.l0 : Nat → Int → List (S38) → Int → Option (Bool)
 | 0, _, _, _ => none
 | k + 1, x3, x500, x501 => if x3 < (((rd_T38 x500 x501).f3).length : Int) then (if 0 ≤ x3 then ((spec_l00In.f (rd ((rd_T38 x500 x501).f3) x3) 0 39).bind fun t176 => (if t176 = true then (spec_l25Rule_at.l0 k (wrap64 (x3 + 1)) x500 x501) else (some false))) else (none)) else ((spec_l25Classes.f k ((rd_T38 x500 x501).f0) 0).bind fun t178 => (if t178 = true then ((spec_l25Classes.f k ((rd_T38 x500 x501).f1) 1).bind fun t180 => (if t180 = true then ((spec_l25Classes.f k ((rd_T38 x500 x501).f2) 0).bind fun t182 => (if t182 = true then (some (decide ((((rd_T38 x500 x501).f3).length : Int) ≤ 4))) else (some false))) else (some false))) else (some false)))
def spec_l25Rule_at.f (k : Nat) (l0_0 : List (S38)) (a0_1 : Int) : Option (Bool) := spec_l25Rule_at.l0 k 0 l0_0 a0_1
theorem spec_l25Rule_at.mono_l : ∀ k, (∀ y0 y1 y2, LeO (spec_l25Rule_at.l0 k y0 y1 y2) (spec_l25Rule_at.l0 (k + 1) y0 y1 y2))
 | 0 => fun _ _ _ r h => by simp [spec_l25Rule_at.l0] at h
 | k + 1 => by
  have ih0 := spec_l25Rule_at.mono_l k
  ·intro y0 y1 y2
   unfold spec_l25Rule_at.l0
   repeat' first
   | (with_reducible exact ih0 _ _ _)
   | (with_reducible exact spec_l25Classes.mono _ _ _)
   | (with_reducible exact LeO.refl _)
   | (with_reducible exact LeO.none _)
   | (with_reducible refine LeO.ite ?_ ?_)
   | (with_reducible refine LeO.bind ?_ (fun _ => ?_))
   | exact ih0 _ _ _
   | exact spec_l25Classes.mono _ _ _
   | exact LeO.none _
   | refine LeO.ite ?_ ?_
   | refine LeO.bind ?_ (fun _ => ?_)
theorem spec_l25Rule_at.mono : ∀ a0 a1 k, LeO (spec_l25Rule_at.f k a0 a1) (spec_l25Rule_at.f (k + 1) a0 a1) := by
 intro a0 a1 k
 have ih0 := spec_l25Rule_at.mono_l k
 unfold spec_l25Rule_at.f
 repeat' first
   | (with_reducible exact ih0 _ _ _)
   | (with_reducible exact spec_l25Classes.mono _ _ _)
   | (with_reducible exact LeO.refl _)
   | (with_reducible exact LeO.none _)
   | (with_reducible refine LeO.ite ?_ ?_)
   | (with_reducible refine LeO.bind ?_ (fun _ => ?_))
   | exact ih0 _ _ _
   | exact spec_l25Classes.mono _ _ _
   | exact LeO.none _
   | refine LeO.ite ?_ ?_
   | refine LeO.bind ?_ (fun _ => ?_)
set_option maxHeartbeats 8000000 in
set_option maxRecDepth 100000 in
theorem spec_l25Rule_at.calls (k : Nat) (p0_ : Addr) (l0_0 : List (S38)) (a0_1 : Int) (r : Bool) (w : World) (hP0_ : RPtr k38 ((a0_1 : Int).toNat * 4) w p0_ l0_0 a0_1) (h : spec_l25Rule_at.f k l0_0 a0_1 = some r) :
  Calls Try.prog 66 #[.pointer (some p0_)] w fun e w' => e = .returned (.bool r) ∧ Below w.heap.size w w' := by
 obtain ⟨ad0_, rfl, hr0_0, hi0_, hj0_⟩ := hP0_
 have hc0_0 : l0_0.length ≤ l0_0.length := Nat.le_refl _
 replace hi0_ := decide_eq_true hi0_
 replace hj0_ := decide_eq_true hj0_
 have HR0_0 := aM hr0_0
 have HC0_0 := aM hc0_0
 clear hr0_0 hc0_0
 have HB := aM (Below.refl w.heap.size w)
 have H : (spec_l25Rule_at.l0 k 0 l0_0 a0_1) = some r := h
 clear h
 have H' := aM H
 clear H
 go_enter Try.func66, Try.ntmps66
 go_wp2
 go_loopg [3] k (fun kq v3 w' => ∃ (x3_1 : Int), v3 = .int .i64 x3_1 ∧ Aside0 (spec_l25Rule_at.l0 kq x3_1 l0_0 a0_1 = some r) ∧ Aside0 (kq ≤ k) ∧ Aside0 (Below w.heap.size w w'))
 case atStart => exact ⟨(0), (by first | rfl | (simp; done) | (simp [*]; done)), H', ⟨Nat.le_refl _⟩, ⟨by repeat (first | (with_reducible first | exact HB.out | apply bA | apply bN | apply bD) | exact HB.out)⟩⟩
 case round =>
  clear H'
  obtain ⟨x3_1, rfl, HA, HK1, HB⟩ := hrel
  cases gk with
  | zero => exact absurd HA.out (by simp [spec_l25Rule_at.l0])
  | succ k1 =>
   have H := HA.out
   clear HA
   simp only [spec_l25Rule_at.l0] at H
   by_cases c2 : x3_1 < (((rd_T38 l0_0 a0_1).f3).length : Int)
   ·rw [if_pos c2] at H
    have c2b0 : decide (x3_1 < (((rd_T38 l0_0 a0_1).f3).length : Int)) = true := decide_eq_true c2
    clear c2
    by_cases c3 : 0 ≤ x3_1
    ·rw [if_pos c3] at H
     have c3b0 : decide (0 ≤ x3_1) = true := decide_eq_true c3
     clear c3
     replace H := Option.bind_eq_some_iff.mp H
     obtain ⟨t176, A40, H⟩ := H
     replace H : (if t176 = true then (spec_l25Rule_at.l0 k1 (wrap64 (x3_1 + 1)) l0_0 a0_1) else (some false)) = some r := H
     have A4 := aM A40
     clear A40
     by_cases c5 : t176 = true
     ·subst c5
      have H1 : (spec_l25Rule_at.l0 k1 (wrap64 (x3_1 + 1)) l0_0 a0_1) = some r := by rw [if_pos rfl] at H; exact H
      clear H
      have H := H1
      clear H1
      have H' := aM H
      clear H
      have p173 : 0 ≤ (a0_1 : Int) := dT (by first | (with_reducible assumption) | assumption)
      have q173 : a0_1 < (l0_0.length : Int) := dT (by first | (with_reducible assumption) | assumption)
      obtain ⟨ad173, A173_0, c173_0, A173_1, c173_1, A173_2, c173_2, A173_3, c173_3, e173, hx173_0, hx173_1, hx173_2, hx173_3, hl173_0, hi173_0, hl173_1, hi173_1, hl173_2, hi173_2, hl173_3, hi173_3⟩ := at_T38 HR0_0.out a0_1 p173 q173
      obtain rfl : ad0_ = ad173 := (by injection e173)
      replace hx173_0 := cB HB.out hx173_0
      replace hx173_1 := cB HB.out hx173_1
      replace hx173_2 := cB HB.out hx173_2
      replace hx173_3 := cB HB.out hx173_3
      have HR173_0 := aM hi173_0
      have HC173_0 := aM hl173_0
      clear hi173_0 hl173_0
      have HR173_1 := aM hi173_1
      have HC173_1 := aM hl173_1
      clear hi173_1 hl173_1
      have HR173_2 := aM hi173_2
      have HC173_2 := aM hl173_2
      clear hi173_2 hl173_2
      have HR173_3 := aM hi173_3
      have HC173_3 := aM hl173_3
      clear hi173_3 hl173_3
      replace p173 := eq_true p173
      replace q173 := eq_true q173
      have p174 : 0 ≤ (a0_1 : Int) := dT (by first | (with_reducible assumption) | assumption)
      have q174 : a0_1 < (l0_0.length : Int) := dT (by first | (with_reducible assumption) | assumption)
      obtain ⟨ad174, A174_0, c174_0, A174_1, c174_1, A174_2, c174_2, A174_3, c174_3, e174, hx174_0, hx174_1, hx174_2, hx174_3, hl174_0, hi174_0, hl174_1, hi174_1, hl174_2, hi174_2, hl174_3, hi174_3⟩ := at_T38 HR0_0.out a0_1 p174 q174
      obtain rfl : ad0_ = ad174 := (by injection e174)
      replace hx174_0 := cB HB.out hx174_0
      replace hx174_1 := cB HB.out hx174_1
      replace hx174_2 := cB HB.out hx174_2
      replace hx174_3 := cB HB.out hx174_3
      have HR174_0 := aM hi174_0
      have HC174_0 := aM hl174_0
      clear hi174_0 hl174_0
      have HR174_1 := aM hi174_1
      have HC174_1 := aM hl174_1
      clear hi174_1 hl174_1
      have HR174_2 := aM hi174_2
      have HC174_2 := aM hl174_2
      clear hi174_2 hl174_2
      have HR174_3 := aM hi174_3
      have HC174_3 := aM hl174_3
      clear hi174_3 hl174_3
      replace p174 := eq_true p174
      replace q174 := eq_true q174
      have ea_ := Option.some.inj (hx173_0.symm.trans hx174_0)
      injection ea_ with ea_ en_ ec_
      subst ea_
      subst ec_
      clear en_
      have ea_ := Option.some.inj (hx173_1.symm.trans hx174_1)
      injection ea_ with ea_ en_ ec_
      subst ea_
      subst ec_
      clear en_
      have ea_ := Option.some.inj (hx173_2.symm.trans hx174_2)
      injection ea_ with ea_ en_ ec_
      subst ea_
      subst ec_
      clear en_
      have ea_ := Option.some.inj (hx173_3.symm.trans hx174_3)
      injection ea_ with ea_ en_ ec_
      subst ea_
      subst ec_
      clear en_
      have p175 : 0 ≤ (x3_1 : Int) := dT (by first | (with_reducible assumption) | assumption)
      have q175 : x3_1 < (((rd_T38 l0_0 a0_1).f3).length : Int) := dT (by first | (with_reducible assumption) | assumption)
      obtain ⟨ad175, e175, hx175_0⟩ := Kd.at_int HR174_3.out x3_1 p175 q175
      cases e175
      replace hx175_0 := cB HB.out hx175_0
      replace p175 := eq_true p175
      replace q175 := eq_true q175
      go_wp2_with (first | ((with_reducible refine gate_callee (f := 54) rfl ?_); refine goesL_ (some 20) rfl rfl Try.func54 (by kernel_rfl) rfl #[.int .i64 (rd ((rd_T38 l0_0 a0_1).f3) x3_1), .int .i64 0, .int .i64 39] rfl (by (try simp only [List.map_toArray, List.map_cons, List.map_nil]); first | done | rfl | (simp only [List.length_drop, List.length_take]; rfl)) ?_; (with_reducible refine (spec_l00In.calls (rd ((rd_T38 l0_0 a0_1).f3) x3_1) 0 39 true _ A4.out).mono ?_); rintro e w' ⟨rfl, ⟨nd, rfl⟩⟩; refine ⟨_, rfl, ?_⟩))
      go_roundg k1
      case measure => have := HK1.out; omega
      case rel => exact ⟨(wrap64 (x3_1 + 1)), (by first | rfl | (simp; done) | (simp [*]; done)), H', ⟨by have := HK1.out; omega⟩, ⟨by repeat (first | (with_reducible first | exact HB.out | apply bA | apply bN | apply bD) | exact HB.out)⟩⟩
     ·replace c5 := Bool.eq_false_iff.mpr c5
      subst c5
      have H1 : (some false) = some r := by rw [if_neg (show ¬ (false = true) by decide)] at H; exact H
      clear H
      have H := H1
      clear H1
      obtain rfl := Option.some.inj H
      have p173 : 0 ≤ (a0_1 : Int) := dT (by first | (with_reducible assumption) | assumption)
      have q173 : a0_1 < (l0_0.length : Int) := dT (by first | (with_reducible assumption) | assumption)
      obtain ⟨ad173, A173_0, c173_0, A173_1, c173_1, A173_2, c173_2, A173_3, c173_3, e173, hx173_0, hx173_1, hx173_2, hx173_3, hl173_0, hi173_0, hl173_1, hi173_1, hl173_2, hi173_2, hl173_3, hi173_3⟩ := at_T38 HR0_0.out a0_1 p173 q173
      obtain rfl : ad0_ = ad173 := (by injection e173)
      replace hx173_0 := cB HB.out hx173_0
      replace hx173_1 := cB HB.out hx173_1
      replace hx173_2 := cB HB.out hx173_2
      replace hx173_3 := cB HB.out hx173_3
      have HR173_0 := aM hi173_0
      have HC173_0 := aM hl173_0
      clear hi173_0 hl173_0
      have HR173_1 := aM hi173_1
      have HC173_1 := aM hl173_1
      clear hi173_1 hl173_1
      have HR173_2 := aM hi173_2
      have HC173_2 := aM hl173_2
      clear hi173_2 hl173_2
      have HR173_3 := aM hi173_3
      have HC173_3 := aM hl173_3
      clear hi173_3 hl173_3
      replace p173 := eq_true p173
      replace q173 := eq_true q173
      have p174 : 0 ≤ (a0_1 : Int) := dT (by first | (with_reducible assumption) | assumption)
      have q174 : a0_1 < (l0_0.length : Int) := dT (by first | (with_reducible assumption) | assumption)
      obtain ⟨ad174, A174_0, c174_0, A174_1, c174_1, A174_2, c174_2, A174_3, c174_3, e174, hx174_0, hx174_1, hx174_2, hx174_3, hl174_0, hi174_0, hl174_1, hi174_1, hl174_2, hi174_2, hl174_3, hi174_3⟩ := at_T38 HR0_0.out a0_1 p174 q174
      obtain rfl : ad0_ = ad174 := (by injection e174)
      replace hx174_0 := cB HB.out hx174_0
      replace hx174_1 := cB HB.out hx174_1
      replace hx174_2 := cB HB.out hx174_2
      replace hx174_3 := cB HB.out hx174_3
      have HR174_0 := aM hi174_0
      have HC174_0 := aM hl174_0
      clear hi174_0 hl174_0
      have HR174_1 := aM hi174_1
      have HC174_1 := aM hl174_1
      clear hi174_1 hl174_1
      have HR174_2 := aM hi174_2
      have HC174_2 := aM hl174_2
      clear hi174_2 hl174_2
      have HR174_3 := aM hi174_3
      have HC174_3 := aM hl174_3
      clear hi174_3 hl174_3
      replace p174 := eq_true p174
      replace q174 := eq_true q174
      have ea_ := Option.some.inj (hx173_0.symm.trans hx174_0)
      injection ea_ with ea_ en_ ec_
      subst ea_
      subst ec_
      clear en_
      have ea_ := Option.some.inj (hx173_1.symm.trans hx174_1)
      injection ea_ with ea_ en_ ec_
      subst ea_
      subst ec_
      clear en_
      have ea_ := Option.some.inj (hx173_2.symm.trans hx174_2)
      injection ea_ with ea_ en_ ec_
      subst ea_
      subst ec_
      clear en_
      have ea_ := Option.some.inj (hx173_3.symm.trans hx174_3)
      injection ea_ with ea_ en_ ec_
      subst ea_
      subst ec_
      clear en_
      have p175 : 0 ≤ (x3_1 : Int) := dT (by first | (with_reducible assumption) | assumption)
      have q175 : x3_1 < (((rd_T38 l0_0 a0_1).f3).length : Int) := dT (by first | (with_reducible assumption) | assumption)
      obtain ⟨ad175, e175, hx175_0⟩ := Kd.at_int HR174_3.out x3_1 p175 q175
      cases e175
      replace hx175_0 := cB HB.out hx175_0
      replace p175 := eq_true p175
      replace q175 := eq_true q175
      go_wp2_with (first | ((with_reducible refine gate_callee (f := 54) rfl ?_); refine goesL_ (some 20) rfl rfl Try.func54 (by kernel_rfl) rfl #[.int .i64 (rd ((rd_T38 l0_0 a0_1).f3) x3_1), .int .i64 0, .int .i64 39] rfl (by (try simp only [List.map_toArray, List.map_cons, List.map_nil]); first | done | rfl | (simp only [List.length_drop, List.length_take]; rfl)) ?_; (with_reducible refine (spec_l00In.calls (rd ((rd_T38 l0_0 a0_1).f3) x3_1) 0 39 false _ A4.out).mono ?_); rintro e w' ⟨rfl, ⟨nd, rfl⟩⟩; refine ⟨_, rfl, ?_⟩))
      go_ret
      exact ⟨by first | rfl | (simp [errW_none, errW_some] <;> rfl) | (simp [*, errW_none, errW_some] <;> rfl), by repeat (first | (with_reducible first | exact HB.out | apply bA | apply bN | apply bD) | exact HB.out)⟩
    ·rw [if_neg c3] at H
     exact absurd H (by simp)
   ·rw [if_neg c2] at H
    have c2b0 : decide (x3_1 < (((rd_T38 l0_0 a0_1).f3).length : Int)) = false := decide_eq_false c2
    clear c2
    replace H := Option.bind_eq_some_iff.mp H
    obtain ⟨t178, A60, H⟩ := H
    replace H : (if t178 = true then ((spec_l25Classes.f k1 ((rd_T38 l0_0 a0_1).f1) 1).bind fun t180 => (if t180 = true then ((spec_l25Classes.f k1 ((rd_T38 l0_0 a0_1).f2) 0).bind fun t182 => (if t182 = true then (some (decide ((((rd_T38 l0_0 a0_1).f3).length : Int) ≤ 4))) else (some false))) else (some false))) else (some false)) = some r := H
    have A6 := aM A60
    clear A60
    by_cases c7 : t178 = true
    ·subst c7
     have H1 : ((spec_l25Classes.f k1 ((rd_T38 l0_0 a0_1).f1) 1).bind fun t180 => (if t180 = true then ((spec_l25Classes.f k1 ((rd_T38 l0_0 a0_1).f2) 0).bind fun t182 => (if t182 = true then (some (decide ((((rd_T38 l0_0 a0_1).f3).length : Int) ≤ 4))) else (some false))) else (some false))) = some r := by rw [if_pos rfl] at H; exact H
     clear H
     have H := H1
     clear H1
     replace H := Option.bind_eq_some_iff.mp H
     obtain ⟨t180, A80, H⟩ := H
     replace H : (if t180 = true then ((spec_l25Classes.f k1 ((rd_T38 l0_0 a0_1).f2) 0).bind fun t182 => (if t182 = true then (some (decide ((((rd_T38 l0_0 a0_1).f3).length : Int) ≤ 4))) else (some false))) else (some false)) = some r := H
     have A8 := aM A80
     clear A80
     by_cases c9 : t180 = true
     ·subst c9
      have H1 : ((spec_l25Classes.f k1 ((rd_T38 l0_0 a0_1).f2) 0).bind fun t182 => (if t182 = true then (some (decide ((((rd_T38 l0_0 a0_1).f3).length : Int) ≤ 4))) else (some false))) = some r := by rw [if_pos rfl] at H; exact H
      clear H
      have H := H1
      clear H1
      replace H := Option.bind_eq_some_iff.mp H
      obtain ⟨t182, A100, H⟩ := H
      replace H : (if t182 = true then (some (decide ((((rd_T38 l0_0 a0_1).f3).length : Int) ≤ 4))) else (some false)) = some r := H
      have A10 := aM A100
      clear A100
      by_cases c11 : t182 = true
      ·subst c11
       have H1 : (some (decide ((((rd_T38 l0_0 a0_1).f3).length : Int) ≤ 4))) = some r := by rw [if_pos rfl] at H; exact H
       clear H
       have H := H1
       clear H1
       obtain rfl := Option.some.inj H
       have p173 : 0 ≤ (a0_1 : Int) := dT (by first | (with_reducible assumption) | assumption)
       have q173 : a0_1 < (l0_0.length : Int) := dT (by first | (with_reducible assumption) | assumption)
       obtain ⟨ad173, A173_0, c173_0, A173_1, c173_1, A173_2, c173_2, A173_3, c173_3, e173, hx173_0, hx173_1, hx173_2, hx173_3, hl173_0, hi173_0, hl173_1, hi173_1, hl173_2, hi173_2, hl173_3, hi173_3⟩ := at_T38 HR0_0.out a0_1 p173 q173
       obtain rfl : ad0_ = ad173 := (by injection e173)
       replace hx173_0 := cB HB.out hx173_0
       replace hx173_1 := cB HB.out hx173_1
       replace hx173_2 := cB HB.out hx173_2
       replace hx173_3 := cB HB.out hx173_3
       have HR173_0 := aM hi173_0
       have HC173_0 := aM hl173_0
       clear hi173_0 hl173_0
       have HR173_1 := aM hi173_1
       have HC173_1 := aM hl173_1
       clear hi173_1 hl173_1
       have HR173_2 := aM hi173_2
       have HC173_2 := aM hl173_2
       clear hi173_2 hl173_2
       have HR173_3 := aM hi173_3
       have HC173_3 := aM hl173_3
       clear hi173_3 hl173_3
       replace p173 := eq_true p173
       replace q173 := eq_true q173
       have p177 : 0 ≤ (a0_1 : Int) := dT (by first | (with_reducible assumption) | assumption)
       have q177 : a0_1 < (l0_0.length : Int) := dT (by first | (with_reducible assumption) | assumption)
       obtain ⟨ad177, A177_0, c177_0, A177_1, c177_1, A177_2, c177_2, A177_3, c177_3, e177, hx177_0, hx177_1, hx177_2, hx177_3, hl177_0, hi177_0, hl177_1, hi177_1, hl177_2, hi177_2, hl177_3, hi177_3⟩ := at_T38 HR0_0.out a0_1 p177 q177
       obtain rfl : ad0_ = ad177 := (by injection e177)
       replace hx177_0 := cB HB.out hx177_0
       replace hx177_1 := cB HB.out hx177_1
       replace hx177_2 := cB HB.out hx177_2
       replace hx177_3 := cB HB.out hx177_3
       have HR177_0 := aM hi177_0
       have HC177_0 := aM hl177_0
       clear hi177_0 hl177_0
       have HR177_1 := aM hi177_1
       have HC177_1 := aM hl177_1
       clear hi177_1 hl177_1
       have HR177_2 := aM hi177_2
       have HC177_2 := aM hl177_2
       clear hi177_2 hl177_2
       have HR177_3 := aM hi177_3
       have HC177_3 := aM hl177_3
       clear hi177_3 hl177_3
       replace p177 := eq_true p177
       replace q177 := eq_true q177
       have ea_ := Option.some.inj (hx173_0.symm.trans hx177_0)
       injection ea_ with ea_ en_ ec_
       subst ea_
       subst ec_
       clear en_
       have ea_ := Option.some.inj (hx173_1.symm.trans hx177_1)
       injection ea_ with ea_ en_ ec_
       subst ea_
       subst ec_
       clear en_
       have ea_ := Option.some.inj (hx173_2.symm.trans hx177_2)
       injection ea_ with ea_ en_ ec_
       subst ea_
       subst ec_
       clear en_
       have ea_ := Option.some.inj (hx173_3.symm.trans hx177_3)
       injection ea_ with ea_ en_ ec_
       subst ea_
       subst ec_
       clear en_
       go_wp2_with (first | ((with_reducible refine gate_callee (f := 131) rfl ?_); refine goesL_ (some 26) rfl rfl Try.func131 (by kernel_rfl) rfl #[.slice A173_0 ((rd_T38 l0_0 a0_1).f0).length c173_0, .int .i64 0] rfl (by (try simp only [List.map_toArray, List.map_cons, List.map_nil]); first | done | rfl | (simp only [List.length_drop, List.length_take]; rfl)) ?_; (with_reducible refine (spec_l25Classes.calls k1 _ _ ((rd_T38 l0_0 a0_1).f0) 0 true _ ?side1 ?side2 A6.out).mono ?_); (case side1 => repeat (first | exact (Kd.C_below HR177_0.out HB.out) | (with_reducible first | refine cA ?_ _ | refine cN ?_ _ | refine cD ?_))); (case side2 => exact HC177_0.out); rintro e w' ⟨rfl, ⟨nd, rfl⟩⟩; refine ⟨_, rfl, ?_⟩; have p179 : 0 ≤ (a0_1 : Int) := dT (by first | (with_reducible assumption) | assumption); have q179 : a0_1 < (l0_0.length : Int) := dT (by first | (with_reducible assumption) | assumption); obtain ⟨ad179, A179_0, c179_0, A179_1, c179_1, A179_2, c179_2, A179_3, c179_3, e179, hx179_0, hx179_1, hx179_2, hx179_3, hl179_0, hi179_0, hl179_1, hi179_1, hl179_2, hi179_2, hl179_3, hi179_3⟩ := at_T38 HR0_0.out a0_1 p179 q179; obtain rfl : ad0_ = ad179 := (by injection e179); replace hx179_0 := cB HB.out hx179_0; replace hx179_1 := cB HB.out hx179_1; replace hx179_2 := cB HB.out hx179_2; replace hx179_3 := cB HB.out hx179_3; have HR179_0 := aM hi179_0; have HC179_0 := aM hl179_0; clear hi179_0 hl179_0; have HR179_1 := aM hi179_1; have HC179_1 := aM hl179_1; clear hi179_1 hl179_1; have HR179_2 := aM hi179_2; have HC179_2 := aM hl179_2; clear hi179_2 hl179_2; have HR179_3 := aM hi179_3; have HC179_3 := aM hl179_3; clear hi179_3 hl179_3; replace p179 := eq_true p179; replace q179 := eq_true q179; obtain ⟨rfl, rfl⟩ := sE hx173_0 hx179_0; obtain ⟨rfl, rfl⟩ := sE hx173_1 hx179_1; obtain ⟨rfl, rfl⟩ := sE hx173_2 hx179_2; obtain ⟨rfl, rfl⟩ := sE hx173_3 hx179_3) | (go_at_call 131; (with_reducible refine (spec_l25Classes.calls k1 _ _ ((rd_T38 l0_0 a0_1).f1) 1 true _ ?side1 ?side2 A8.out).mono ?_); (case side1 => repeat (first | exact (Kd.C_below HR179_1.out (by repeat (first | (with_reducible first | exact HB.out | apply bA | apply bN | apply bD) | exact HB.out))) | (with_reducible first | refine cA ?_ _ | refine cN ?_ _ | refine cD ?_))); (case side2 => exact HC179_1.out); rintro e w' ⟨rfl, ⟨nd, rfl⟩⟩; have p181 : 0 ≤ (a0_1 : Int) := dT (by first | (with_reducible assumption) | assumption); have q181 : a0_1 < (l0_0.length : Int) := dT (by first | (with_reducible assumption) | assumption); obtain ⟨ad181, A181_0, c181_0, A181_1, c181_1, A181_2, c181_2, A181_3, c181_3, e181, hx181_0, hx181_1, hx181_2, hx181_3, hl181_0, hi181_0, hl181_1, hi181_1, hl181_2, hi181_2, hl181_3, hi181_3⟩ := at_T38 HR0_0.out a0_1 p181 q181; obtain rfl : ad0_ = ad181 := (by injection e181); replace hx181_0 := cB HB.out hx181_0; replace hx181_1 := cB HB.out hx181_1; replace hx181_2 := cB HB.out hx181_2; replace hx181_3 := cB HB.out hx181_3; have HR181_0 := aM hi181_0; have HC181_0 := aM hl181_0; clear hi181_0 hl181_0; have HR181_1 := aM hi181_1; have HC181_1 := aM hl181_1; clear hi181_1 hl181_1; have HR181_2 := aM hi181_2; have HC181_2 := aM hl181_2; clear hi181_2 hl181_2; have HR181_3 := aM hi181_3; have HC181_3 := aM hl181_3; clear hi181_3 hl181_3; replace p181 := eq_true p181; replace q181 := eq_true q181; obtain ⟨rfl, rfl⟩ := sE hx173_0 hx181_0; obtain ⟨rfl, rfl⟩ := sE hx173_1 hx181_1; obtain ⟨rfl, rfl⟩ := sE hx173_2 hx181_2; obtain ⟨rfl, rfl⟩ := sE hx173_3 hx181_3) | (go_at_call 131; (with_reducible refine (spec_l25Classes.calls k1 _ _ ((rd_T38 l0_0 a0_1).f2) 0 true _ ?side1 ?side2 A10.out).mono ?_); (case side1 => repeat (first | exact (Kd.C_below HR181_2.out (by repeat (first | (with_reducible first | exact HB.out | apply bA | apply bN | apply bD) | exact HB.out))) | (with_reducible first | refine cA ?_ _ | refine cN ?_ _ | refine cD ?_))); (case side2 => exact HC181_2.out); rintro e w' ⟨rfl, ⟨nd, rfl⟩⟩; have p183 : 0 ≤ (a0_1 : Int) := dT (by first | (with_reducible assumption) | assumption); have q183 : a0_1 < (l0_0.length : Int) := dT (by first | (with_reducible assumption) | assumption); obtain ⟨ad183, A183_0, c183_0, A183_1, c183_1, A183_2, c183_2, A183_3, c183_3, e183, hx183_0, hx183_1, hx183_2, hx183_3, hl183_0, hi183_0, hl183_1, hi183_1, hl183_2, hi183_2, hl183_3, hi183_3⟩ := at_T38 HR0_0.out a0_1 p183 q183; obtain rfl : ad0_ = ad183 := (by injection e183); replace hx183_0 := cB HB.out hx183_0; replace hx183_1 := cB HB.out hx183_1; replace hx183_2 := cB HB.out hx183_2; replace hx183_3 := cB HB.out hx183_3; have HR183_0 := aM hi183_0; have HC183_0 := aM hl183_0; clear hi183_0 hl183_0; have HR183_1 := aM hi183_1; have HC183_1 := aM hl183_1; clear hi183_1 hl183_1; have HR183_2 := aM hi183_2; have HC183_2 := aM hl183_2; clear hi183_2 hl183_2; have HR183_3 := aM hi183_3; have HC183_3 := aM hl183_3; clear hi183_3 hl183_3; replace p183 := eq_true p183; replace q183 := eq_true q183; obtain ⟨rfl, rfl⟩ := sE hx173_0 hx183_0; obtain ⟨rfl, rfl⟩ := sE hx173_1 hx183_1; obtain ⟨rfl, rfl⟩ := sE hx173_2 hx183_2; obtain ⟨rfl, rfl⟩ := sE hx173_3 hx183_3))
       go_ret
       exact ⟨by first | rfl | (simp [errW_none, errW_some] <;> rfl) | (simp [*, errW_none, errW_some] <;> rfl), by repeat (first | (with_reducible first | exact HB.out | apply bA | apply bN | apply bD) | exact HB.out)⟩
      ·replace c11 := Bool.eq_false_iff.mpr c11
       subst c11
       have H1 : (some false) = some r := by rw [if_neg (show ¬ (false = true) by decide)] at H; exact H
       clear H
       have H := H1
       clear H1
       obtain rfl := Option.some.inj H
       have p173 : 0 ≤ (a0_1 : Int) := dT (by first | (with_reducible assumption) | assumption)
       have q173 : a0_1 < (l0_0.length : Int) := dT (by first | (with_reducible assumption) | assumption)
       obtain ⟨ad173, A173_0, c173_0, A173_1, c173_1, A173_2, c173_2, A173_3, c173_3, e173, hx173_0, hx173_1, hx173_2, hx173_3, hl173_0, hi173_0, hl173_1, hi173_1, hl173_2, hi173_2, hl173_3, hi173_3⟩ := at_T38 HR0_0.out a0_1 p173 q173
       obtain rfl : ad0_ = ad173 := (by injection e173)
       replace hx173_0 := cB HB.out hx173_0
       replace hx173_1 := cB HB.out hx173_1
       replace hx173_2 := cB HB.out hx173_2
       replace hx173_3 := cB HB.out hx173_3
       have HR173_0 := aM hi173_0
       have HC173_0 := aM hl173_0
       clear hi173_0 hl173_0
       have HR173_1 := aM hi173_1
       have HC173_1 := aM hl173_1
       clear hi173_1 hl173_1
       have HR173_2 := aM hi173_2
       have HC173_2 := aM hl173_2
       clear hi173_2 hl173_2
       have HR173_3 := aM hi173_3
       have HC173_3 := aM hl173_3
       clear hi173_3 hl173_3
       replace p173 := eq_true p173
       replace q173 := eq_true q173
       have p177 : 0 ≤ (a0_1 : Int) := dT (by first | (with_reducible assumption) | assumption)
       have q177 : a0_1 < (l0_0.length : Int) := dT (by first | (with_reducible assumption) | assumption)
       obtain ⟨ad177, A177_0, c177_0, A177_1, c177_1, A177_2, c177_2, A177_3, c177_3, e177, hx177_0, hx177_1, hx177_2, hx177_3, hl177_0, hi177_0, hl177_1, hi177_1, hl177_2, hi177_2, hl177_3, hi177_3⟩ := at_T38 HR0_0.out a0_1 p177 q177
       obtain rfl : ad0_ = ad177 := (by injection e177)
       replace hx177_0 := cB HB.out hx177_0
       replace hx177_1 := cB HB.out hx177_1
       replace hx177_2 := cB HB.out hx177_2
       replace hx177_3 := cB HB.out hx177_3
       have HR177_0 := aM hi177_0
       have HC177_0 := aM hl177_0
       clear hi177_0 hl177_0
       have HR177_1 := aM hi177_1
       have HC177_1 := aM hl177_1
       clear hi177_1 hl177_1
       have HR177_2 := aM hi177_2
       have HC177_2 := aM hl177_2
       clear hi177_2 hl177_2
       have HR177_3 := aM hi177_3
       have HC177_3 := aM hl177_3
       clear hi177_3 hl177_3
       replace p177 := eq_true p177
       replace q177 := eq_true q177
       have ea_ := Option.some.inj (hx173_0.symm.trans hx177_0)
       injection ea_ with ea_ en_ ec_
       subst ea_
       subst ec_
       clear en_
       have ea_ := Option.some.inj (hx173_1.symm.trans hx177_1)
       injection ea_ with ea_ en_ ec_
       subst ea_
       subst ec_
       clear en_
       have ea_ := Option.some.inj (hx173_2.symm.trans hx177_2)
       injection ea_ with ea_ en_ ec_
       subst ea_
       subst ec_
       clear en_
       have ea_ := Option.some.inj (hx173_3.symm.trans hx177_3)
       injection ea_ with ea_ en_ ec_
       subst ea_
       subst ec_
       clear en_
       go_wp2_with (first | ((with_reducible refine gate_callee (f := 131) rfl ?_); refine goesL_ (some 26) rfl rfl Try.func131 (by kernel_rfl) rfl #[.slice A173_0 ((rd_T38 l0_0 a0_1).f0).length c173_0, .int .i64 0] rfl (by (try simp only [List.map_toArray, List.map_cons, List.map_nil]); first | done | rfl | (simp only [List.length_drop, List.length_take]; rfl)) ?_; (with_reducible refine (spec_l25Classes.calls k1 _ _ ((rd_T38 l0_0 a0_1).f0) 0 true _ ?side1 ?side2 A6.out).mono ?_); (case side1 => repeat (first | exact (Kd.C_below HR177_0.out HB.out) | (with_reducible first | refine cA ?_ _ | refine cN ?_ _ | refine cD ?_))); (case side2 => exact HC177_0.out); rintro e w' ⟨rfl, ⟨nd, rfl⟩⟩; refine ⟨_, rfl, ?_⟩; have p179 : 0 ≤ (a0_1 : Int) := dT (by first | (with_reducible assumption) | assumption); have q179 : a0_1 < (l0_0.length : Int) := dT (by first | (with_reducible assumption) | assumption); obtain ⟨ad179, A179_0, c179_0, A179_1, c179_1, A179_2, c179_2, A179_3, c179_3, e179, hx179_0, hx179_1, hx179_2, hx179_3, hl179_0, hi179_0, hl179_1, hi179_1, hl179_2, hi179_2, hl179_3, hi179_3⟩ := at_T38 HR0_0.out a0_1 p179 q179; obtain rfl : ad0_ = ad179 := (by injection e179); replace hx179_0 := cB HB.out hx179_0; replace hx179_1 := cB HB.out hx179_1; replace hx179_2 := cB HB.out hx179_2; replace hx179_3 := cB HB.out hx179_3; have HR179_0 := aM hi179_0; have HC179_0 := aM hl179_0; clear hi179_0 hl179_0; have HR179_1 := aM hi179_1; have HC179_1 := aM hl179_1; clear hi179_1 hl179_1; have HR179_2 := aM hi179_2; have HC179_2 := aM hl179_2; clear hi179_2 hl179_2; have HR179_3 := aM hi179_3; have HC179_3 := aM hl179_3; clear hi179_3 hl179_3; replace p179 := eq_true p179; replace q179 := eq_true q179; obtain ⟨rfl, rfl⟩ := sE hx173_0 hx179_0; obtain ⟨rfl, rfl⟩ := sE hx173_1 hx179_1; obtain ⟨rfl, rfl⟩ := sE hx173_2 hx179_2; obtain ⟨rfl, rfl⟩ := sE hx173_3 hx179_3) | (go_at_call 131; (with_reducible refine (spec_l25Classes.calls k1 _ _ ((rd_T38 l0_0 a0_1).f1) 1 true _ ?side1 ?side2 A8.out).mono ?_); (case side1 => repeat (first | exact (Kd.C_below HR179_1.out (by repeat (first | (with_reducible first | exact HB.out | apply bA | apply bN | apply bD) | exact HB.out))) | (with_reducible first | refine cA ?_ _ | refine cN ?_ _ | refine cD ?_))); (case side2 => exact HC179_1.out); rintro e w' ⟨rfl, ⟨nd, rfl⟩⟩; have p181 : 0 ≤ (a0_1 : Int) := dT (by first | (with_reducible assumption) | assumption); have q181 : a0_1 < (l0_0.length : Int) := dT (by first | (with_reducible assumption) | assumption); obtain ⟨ad181, A181_0, c181_0, A181_1, c181_1, A181_2, c181_2, A181_3, c181_3, e181, hx181_0, hx181_1, hx181_2, hx181_3, hl181_0, hi181_0, hl181_1, hi181_1, hl181_2, hi181_2, hl181_3, hi181_3⟩ := at_T38 HR0_0.out a0_1 p181 q181; obtain rfl : ad0_ = ad181 := (by injection e181); replace hx181_0 := cB HB.out hx181_0; replace hx181_1 := cB HB.out hx181_1; replace hx181_2 := cB HB.out hx181_2; replace hx181_3 := cB HB.out hx181_3; have HR181_0 := aM hi181_0; have HC181_0 := aM hl181_0; clear hi181_0 hl181_0; have HR181_1 := aM hi181_1; have HC181_1 := aM hl181_1; clear hi181_1 hl181_1; have HR181_2 := aM hi181_2; have HC181_2 := aM hl181_2; clear hi181_2 hl181_2; have HR181_3 := aM hi181_3; have HC181_3 := aM hl181_3; clear hi181_3 hl181_3; replace p181 := eq_true p181; replace q181 := eq_true q181; obtain ⟨rfl, rfl⟩ := sE hx173_0 hx181_0; obtain ⟨rfl, rfl⟩ := sE hx173_1 hx181_1; obtain ⟨rfl, rfl⟩ := sE hx173_2 hx181_2; obtain ⟨rfl, rfl⟩ := sE hx173_3 hx181_3) | (go_at_call 131; (with_reducible refine (spec_l25Classes.calls k1 _ _ ((rd_T38 l0_0 a0_1).f2) 0 false _ ?side1 ?side2 A10.out).mono ?_); (case side1 => repeat (first | exact (Kd.C_below HR181_2.out (by repeat (first | (with_reducible first | exact HB.out | apply bA | apply bN | apply bD) | exact HB.out))) | (with_reducible first | refine cA ?_ _ | refine cN ?_ _ | refine cD ?_))); (case side2 => exact HC181_2.out); rintro e w' ⟨rfl, ⟨nd, rfl⟩⟩))
       go_ret
       exact ⟨by first | rfl | (simp [errW_none, errW_some] <;> rfl) | (simp [*, errW_none, errW_some] <;> rfl), by repeat (first | (with_reducible first | exact HB.out | apply bA | apply bN | apply bD) | exact HB.out)⟩
     ·replace c9 := Bool.eq_false_iff.mpr c9
      subst c9
      have H1 : (some false) = some r := by rw [if_neg (show ¬ (false = true) by decide)] at H; exact H
      clear H
      have H := H1
      clear H1
      obtain rfl := Option.some.inj H
      have p173 : 0 ≤ (a0_1 : Int) := dT (by first | (with_reducible assumption) | assumption)
      have q173 : a0_1 < (l0_0.length : Int) := dT (by first | (with_reducible assumption) | assumption)
      obtain ⟨ad173, A173_0, c173_0, A173_1, c173_1, A173_2, c173_2, A173_3, c173_3, e173, hx173_0, hx173_1, hx173_2, hx173_3, hl173_0, hi173_0, hl173_1, hi173_1, hl173_2, hi173_2, hl173_3, hi173_3⟩ := at_T38 HR0_0.out a0_1 p173 q173
      obtain rfl : ad0_ = ad173 := (by injection e173)
      replace hx173_0 := cB HB.out hx173_0
      replace hx173_1 := cB HB.out hx173_1
      replace hx173_2 := cB HB.out hx173_2
      replace hx173_3 := cB HB.out hx173_3
      have HR173_0 := aM hi173_0
      have HC173_0 := aM hl173_0
      clear hi173_0 hl173_0
      have HR173_1 := aM hi173_1
      have HC173_1 := aM hl173_1
      clear hi173_1 hl173_1
      have HR173_2 := aM hi173_2
      have HC173_2 := aM hl173_2
      clear hi173_2 hl173_2
      have HR173_3 := aM hi173_3
      have HC173_3 := aM hl173_3
      clear hi173_3 hl173_3
      replace p173 := eq_true p173
      replace q173 := eq_true q173
      have p177 : 0 ≤ (a0_1 : Int) := dT (by first | (with_reducible assumption) | assumption)
      have q177 : a0_1 < (l0_0.length : Int) := dT (by first | (with_reducible assumption) | assumption)
      obtain ⟨ad177, A177_0, c177_0, A177_1, c177_1, A177_2, c177_2, A177_3, c177_3, e177, hx177_0, hx177_1, hx177_2, hx177_3, hl177_0, hi177_0, hl177_1, hi177_1, hl177_2, hi177_2, hl177_3, hi177_3⟩ := at_T38 HR0_0.out a0_1 p177 q177
      obtain rfl : ad0_ = ad177 := (by injection e177)
      replace hx177_0 := cB HB.out hx177_0
      replace hx177_1 := cB HB.out hx177_1
      replace hx177_2 := cB HB.out hx177_2
      replace hx177_3 := cB HB.out hx177_3
      have HR177_0 := aM hi177_0
      have HC177_0 := aM hl177_0
      clear hi177_0 hl177_0
      have HR177_1 := aM hi177_1
      have HC177_1 := aM hl177_1
      clear hi177_1 hl177_1
      have HR177_2 := aM hi177_2
      have HC177_2 := aM hl177_2
      clear hi177_2 hl177_2
      have HR177_3 := aM hi177_3
      have HC177_3 := aM hl177_3
      clear hi177_3 hl177_3
      replace p177 := eq_true p177
      replace q177 := eq_true q177
      have ea_ := Option.some.inj (hx173_0.symm.trans hx177_0)
      injection ea_ with ea_ en_ ec_
      subst ea_
      subst ec_
      clear en_
      have ea_ := Option.some.inj (hx173_1.symm.trans hx177_1)
      injection ea_ with ea_ en_ ec_
      subst ea_
      subst ec_
      clear en_
      have ea_ := Option.some.inj (hx173_2.symm.trans hx177_2)
      injection ea_ with ea_ en_ ec_
      subst ea_
      subst ec_
      clear en_
      have ea_ := Option.some.inj (hx173_3.symm.trans hx177_3)
      injection ea_ with ea_ en_ ec_
      subst ea_
      subst ec_
      clear en_
      go_wp2_with (first | ((with_reducible refine gate_callee (f := 131) rfl ?_); refine goesL_ (some 26) rfl rfl Try.func131 (by kernel_rfl) rfl #[.slice A173_0 ((rd_T38 l0_0 a0_1).f0).length c173_0, .int .i64 0] rfl (by (try simp only [List.map_toArray, List.map_cons, List.map_nil]); first | done | rfl | (simp only [List.length_drop, List.length_take]; rfl)) ?_; (with_reducible refine (spec_l25Classes.calls k1 _ _ ((rd_T38 l0_0 a0_1).f0) 0 true _ ?side1 ?side2 A6.out).mono ?_); (case side1 => repeat (first | exact (Kd.C_below HR177_0.out HB.out) | (with_reducible first | refine cA ?_ _ | refine cN ?_ _ | refine cD ?_))); (case side2 => exact HC177_0.out); rintro e w' ⟨rfl, ⟨nd, rfl⟩⟩; refine ⟨_, rfl, ?_⟩; have p179 : 0 ≤ (a0_1 : Int) := dT (by first | (with_reducible assumption) | assumption); have q179 : a0_1 < (l0_0.length : Int) := dT (by first | (with_reducible assumption) | assumption); obtain ⟨ad179, A179_0, c179_0, A179_1, c179_1, A179_2, c179_2, A179_3, c179_3, e179, hx179_0, hx179_1, hx179_2, hx179_3, hl179_0, hi179_0, hl179_1, hi179_1, hl179_2, hi179_2, hl179_3, hi179_3⟩ := at_T38 HR0_0.out a0_1 p179 q179; obtain rfl : ad0_ = ad179 := (by injection e179); replace hx179_0 := cB HB.out hx179_0; replace hx179_1 := cB HB.out hx179_1; replace hx179_2 := cB HB.out hx179_2; replace hx179_3 := cB HB.out hx179_3; have HR179_0 := aM hi179_0; have HC179_0 := aM hl179_0; clear hi179_0 hl179_0; have HR179_1 := aM hi179_1; have HC179_1 := aM hl179_1; clear hi179_1 hl179_1; have HR179_2 := aM hi179_2; have HC179_2 := aM hl179_2; clear hi179_2 hl179_2; have HR179_3 := aM hi179_3; have HC179_3 := aM hl179_3; clear hi179_3 hl179_3; replace p179 := eq_true p179; replace q179 := eq_true q179; obtain ⟨rfl, rfl⟩ := sE hx173_0 hx179_0; obtain ⟨rfl, rfl⟩ := sE hx173_1 hx179_1; obtain ⟨rfl, rfl⟩ := sE hx173_2 hx179_2; obtain ⟨rfl, rfl⟩ := sE hx173_3 hx179_3) | (go_at_call 131; (with_reducible refine (spec_l25Classes.calls k1 _ _ ((rd_T38 l0_0 a0_1).f1) 1 false _ ?side1 ?side2 A8.out).mono ?_); (case side1 => repeat (first | exact (Kd.C_below HR179_1.out (by repeat (first | (with_reducible first | exact HB.out | apply bA | apply bN | apply bD) | exact HB.out))) | (with_reducible first | refine cA ?_ _ | refine cN ?_ _ | refine cD ?_))); (case side2 => exact HC179_1.out); rintro e w' ⟨rfl, ⟨nd, rfl⟩⟩))
      go_ret
      exact ⟨by first | rfl | (simp [errW_none, errW_some] <;> rfl) | (simp [*, errW_none, errW_some] <;> rfl), by repeat (first | (with_reducible first | exact HB.out | apply bA | apply bN | apply bD) | exact HB.out)⟩
    ·replace c7 := Bool.eq_false_iff.mpr c7
     subst c7
     have H1 : (some false) = some r := by rw [if_neg (show ¬ (false = true) by decide)] at H; exact H
     clear H
     have H := H1
     clear H1
     obtain rfl := Option.some.inj H
     have p173 : 0 ≤ (a0_1 : Int) := dT (by first | (with_reducible assumption) | assumption)
     have q173 : a0_1 < (l0_0.length : Int) := dT (by first | (with_reducible assumption) | assumption)
     obtain ⟨ad173, A173_0, c173_0, A173_1, c173_1, A173_2, c173_2, A173_3, c173_3, e173, hx173_0, hx173_1, hx173_2, hx173_3, hl173_0, hi173_0, hl173_1, hi173_1, hl173_2, hi173_2, hl173_3, hi173_3⟩ := at_T38 HR0_0.out a0_1 p173 q173
     obtain rfl : ad0_ = ad173 := (by injection e173)
     replace hx173_0 := cB HB.out hx173_0
     replace hx173_1 := cB HB.out hx173_1
     replace hx173_2 := cB HB.out hx173_2
     replace hx173_3 := cB HB.out hx173_3
     have HR173_0 := aM hi173_0
     have HC173_0 := aM hl173_0
     clear hi173_0 hl173_0
     have HR173_1 := aM hi173_1
     have HC173_1 := aM hl173_1
     clear hi173_1 hl173_1
     have HR173_2 := aM hi173_2
     have HC173_2 := aM hl173_2
     clear hi173_2 hl173_2
     have HR173_3 := aM hi173_3
     have HC173_3 := aM hl173_3
     clear hi173_3 hl173_3
     replace p173 := eq_true p173
     replace q173 := eq_true q173
     have p177 : 0 ≤ (a0_1 : Int) := dT (by first | (with_reducible assumption) | assumption)
     have q177 : a0_1 < (l0_0.length : Int) := dT (by first | (with_reducible assumption) | assumption)
     obtain ⟨ad177, A177_0, c177_0, A177_1, c177_1, A177_2, c177_2, A177_3, c177_3, e177, hx177_0, hx177_1, hx177_2, hx177_3, hl177_0, hi177_0, hl177_1, hi177_1, hl177_2, hi177_2, hl177_3, hi177_3⟩ := at_T38 HR0_0.out a0_1 p177 q177
     obtain rfl : ad0_ = ad177 := (by injection e177)
     replace hx177_0 := cB HB.out hx177_0
     replace hx177_1 := cB HB.out hx177_1
     replace hx177_2 := cB HB.out hx177_2
     replace hx177_3 := cB HB.out hx177_3
     have HR177_0 := aM hi177_0
     have HC177_0 := aM hl177_0
     clear hi177_0 hl177_0
     have HR177_1 := aM hi177_1
     have HC177_1 := aM hl177_1
     clear hi177_1 hl177_1
     have HR177_2 := aM hi177_2
     have HC177_2 := aM hl177_2
     clear hi177_2 hl177_2
     have HR177_3 := aM hi177_3
     have HC177_3 := aM hl177_3
     clear hi177_3 hl177_3
     replace p177 := eq_true p177
     replace q177 := eq_true q177
     have ea_ := Option.some.inj (hx173_0.symm.trans hx177_0)
     injection ea_ with ea_ en_ ec_
     subst ea_
     subst ec_
     clear en_
     have ea_ := Option.some.inj (hx173_1.symm.trans hx177_1)
     injection ea_ with ea_ en_ ec_
     subst ea_
     subst ec_
     clear en_
     have ea_ := Option.some.inj (hx173_2.symm.trans hx177_2)
     injection ea_ with ea_ en_ ec_
     subst ea_
     subst ec_
     clear en_
     have ea_ := Option.some.inj (hx173_3.symm.trans hx177_3)
     injection ea_ with ea_ en_ ec_
     subst ea_
     subst ec_
     clear en_
     go_wp2_with (first | ((with_reducible refine gate_callee (f := 131) rfl ?_); refine goesL_ (some 26) rfl rfl Try.func131 (by kernel_rfl) rfl #[.slice A173_0 ((rd_T38 l0_0 a0_1).f0).length c173_0, .int .i64 0] rfl (by (try simp only [List.map_toArray, List.map_cons, List.map_nil]); first | done | rfl | (simp only [List.length_drop, List.length_take]; rfl)) ?_; (with_reducible refine (spec_l25Classes.calls k1 _ _ ((rd_T38 l0_0 a0_1).f0) 0 false _ ?side1 ?side2 A6.out).mono ?_); (case side1 => repeat (first | exact (Kd.C_below HR177_0.out HB.out) | (with_reducible first | refine cA ?_ _ | refine cN ?_ _ | refine cD ?_))); (case side2 => exact HC177_0.out); rintro e w' ⟨rfl, ⟨nd, rfl⟩⟩; refine ⟨_, rfl, ?_⟩))
     go_ret
     exact ⟨by first | rfl | (simp [errW_none, errW_some] <;> rfl) | (simp [*, errW_none, errW_some] <;> rfl), by repeat (first | (with_reducible first | exact HB.out | apply bA | apply bN | apply bD) | exact HB.out)⟩

end Go.Proofs.Ytdahcapolipnbaa.QFnExactMatchesAt
