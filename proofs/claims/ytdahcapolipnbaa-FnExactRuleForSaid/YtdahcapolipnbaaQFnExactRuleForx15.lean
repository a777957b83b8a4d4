/- What some Go functions answer, each as a Lean function, and that the machine answers so: written by a program of this session out of the translation. -/
import Derived.Test.YtdahcapolipnbaaQFnExactRuleForx0
import Derived.Test.YtdahcapolipnbaaQFnExactRuleForx1
import Derived.Test.YtdahcapolipnbaaQFnExactRuleForx2
import Derived.Test.YtdahcapolipnbaaQFnExactRuleForx7
import Derived.Test.YtdahcapolipnbaaQFnExactRuleForx8
import Derived.Test.YtdahcapolipnbaaQFnExactRuleForx13
import Derived.Test.YtdahcapolipnbaaQFnExactRuleForx14
namespace Go.Proofs.Ytdahcapolipnbaa.QFnExactRuleFor
open Go.RowKit Go.Proofs.YtdahcapolipnbaaW.PrintWords Go.Proofs.YtdahcapolipnbaaW.PrintLast Go.Proofs.YtdahcapolipnbaaW.PrintMore Go.Proofs.Ytdahcapolipnbaa.Rp
attribute [local go_sem] max2_int min2_int max_two min_two max_three min_three max_four min_four   -- for this text's walks alone
set_option linter.unusedVariables false
set_option linter.unusedSimpArgs false

/-! ### laws_FnExactRuleFor: function 9 -/
mutual
abbrev mklaws_F921_0 : Array Bool := #[ff,ff,ff,ff,ff]
abbrev mklaws_F921_1 : Array Bool := #[tt,ff,ff,ff,ff]
abbrev mklaws_F921_2 : Array Bool := #[tt,tt,ff,ff,ff]
abbrev mklaws_F921_3 : Array Bool := #[tt,tt,tt,ff,ff]
abbrev mklaws_F921_4 : Array Bool := #[tt,tt,tt,tt,ff]
abbrev mklaws_F921_5 : Array Bool := #[tt,tt,tt,tt,tt]
def laws_FnExactRuleFor.j0 : Nat → List (S109) → Int → Int → ByteArray → List (S35) → Option (Bool)
 | 0, _, _, _, _, _ => none
 | k + 1, x1, x2, x7, x338000, x338001 => (laws_szItemS.f x1 x7).bind fun t339 => (if t339 < 0 then (some true) else (laws_FnExactRuleFor.j1 k x1 x2 x338000 x338001))
def laws_FnExactRuleFor.j1 : Nat → List (S109) → Int → ByteArray → List (S35) → Option (Bool)
 | 0, _, _, _, _ => none
 | k + 1, x1, x2, x338000, x338001 => (laws_toLookup.f k x338000 x338001).bind fun bt340 => ((laws_toItemS.f k x1).bind fun t344 => ((spec_RuleFor.f k bt340.1 bt340.2 t344 x2).bind fun bt347 => ((laws_toLookup.f k x338000 x338001).bind fun bt349 => ((laws_toItemS.f k x1).bind fun t354 => ((impl_RuleFor.f k bt349.1 bt349.2 t354 x2).bind fun bt357 => (if bt357.1 = bt347.1 then (laws_FnExactRuleFor.j2 k x1 t354 (bt357.2 != bt347.2) x338000 x338001 bt349.1 bt349.2) else (laws_FnExactRuleFor.j2 k x1 t354 true x338000 x338001 bt349.1 bt349.2)))))))
def laws_FnExactRuleFor.j2 : Nat → List (S109) → List (S107) → Bool → ByteArray → List (S35) → ByteArray → List (S38) → Option (Bool)
 | 0, _, _, _, _, _, _, _ => none
 | k + 1, x1, x11, x51, x338000, x338001, x354000, x354001 => if x51 = true then (some false) else (laws_FnExactRuleFor.j3 k x1 x11 x338000 x338001 x354000 x354001)
def laws_FnExactRuleFor.j3 : Nat → List (S109) → List (S107) → ByteArray → List (S35) → ByteArray → List (S38) → Option (Bool)
 | 0, _, _, _, _, _, _ => none
 | k + 1, x1, x11, x338000, x338001, x354000, x354001 => (laws_toLookup.f k x338000 x338001).bind fun bt359 => ((laws_eqLookup.f k x354000 x354001 bt359.1 bt359.2).bind fun t363 => (if t363 = true then (laws_FnExactRuleFor.j4 k x1 x11) else (some false)))
def laws_FnExactRuleFor.j4 : Nat → List (S109) → List (S107) → Option (Bool)
 | 0, _, _ => none
 | k + 1, x1, x11 => (laws_toItemS.f k x1).bind fun t364 => ((laws_eqItemS.f k x11 t364).bind fun t367 => (if t367 = true then (some true) else (some false)))
end
def laws_FnExactRuleFor.f (k : Nat) (a0_0 : ByteArray) (l0_1 : List (S35)) (l1 : List (S109)) (a2 : Int) : Option (Bool) := (laws_szLookup.f k a0_0 l0_1 1048576).bind fun t338 => (if t338 < 0 then (some true) else (laws_FnExactRuleFor.j0 k l1 a2 t338 a0_0 l0_1))
theorem laws_FnExactRuleFor.mono_l : ∀ k, (∀ y0 y1 y2 y3 y4, LeO (laws_FnExactRuleFor.j0 k y0 y1 y2 y3 y4) (laws_FnExactRuleFor.j0 (k + 1) y0 y1 y2 y3 y4)) ∧ (∀ y0 y1 y2 y3, LeO (laws_FnExactRuleFor.j1 k y0 y1 y2 y3) (laws_FnExactRuleFor.j1 (k + 1) y0 y1 y2 y3)) ∧ (∀ y0 y1 y2 y3 y4 y5 y6, LeO (laws_FnExactRuleFor.j2 k y0 y1 y2 y3 y4 y5 y6) (laws_FnExactRuleFor.j2 (k + 1) y0 y1 y2 y3 y4 y5 y6)) ∧ (∀ y0 y1 y2 y3 y4 y5, LeO (laws_FnExactRuleFor.j3 k y0 y1 y2 y3 y4 y5) (laws_FnExactRuleFor.j3 (k + 1) y0 y1 y2 y3 y4 y5)) ∧ (∀ y0 y1, LeO (laws_FnExactRuleFor.j4 k y0 y1) (laws_FnExactRuleFor.j4 (k + 1) y0 y1))
 | 0 => ⟨fun _ _ _ _ _ r h => by simp [laws_FnExactRuleFor.j0] at h, fun _ _ _ _ r h => by simp [laws_FnExactRuleFor.j1] at h, fun _ _ _ _ _ _ _ r h => by simp [laws_FnExactRuleFor.j2] at h, fun _ _ _ _ _ _ r h => by simp [laws_FnExactRuleFor.j3] at h, fun _ _ r h => by simp [laws_FnExactRuleFor.j4] at h⟩
 | k + 1 => by
  obtain ⟨ih0, ih1, ih2, ih3, ih4⟩ := laws_FnExactRuleFor.mono_l k
  refine ⟨?_, ?_, ?_, ?_, ?_⟩
  ·intro y0 y1 y2 y3 y4
   unfold laws_FnExactRuleFor.j0
   repeat' first
   | (with_reducible exact ih0 _ _ _ _ _)
   | (with_reducible exact ih1 _ _ _ _)
   | (with_reducible exact ih2 _ _ _ _ _ _ _)
   | (with_reducible exact ih3 _ _ _ _ _ _)
   | (with_reducible exact ih4 _ _)
   | (with_reducible exact impl_RuleFor.mono _ _ _ _ _)
   | (with_reducible exact laws_eqItemS.mono _ _ _)
   | (with_reducible exact laws_eqLookup.mono _ _ _ _ _)
   | (with_reducible exact laws_szLookup.mono _ _ _ _)
   | (with_reducible exact laws_toItemS.mono _ _)
   | (with_reducible exact laws_toLookup.mono _ _ _)
   | (with_reducible exact spec_RuleFor.mono _ _ _ _ _)
   | (with_reducible exact LeO.refl _)
   | (with_reducible exact LeO.none _)
   | (with_reducible refine LeO.ite ?_ ?_)
   | (with_reducible refine LeO.bind ?_ (fun _ => ?_))
   | exact ih0 _ _ _ _ _
   | exact ih1 _ _ _ _
   | exact ih2 _ _ _ _ _ _ _
   | exact ih3 _ _ _ _ _ _
   | exact ih4 _ _
   | exact impl_RuleFor.mono _ _ _ _ _
   | exact laws_eqItemS.mono _ _ _
   | exact laws_eqLookup.mono _ _ _ _ _
   | exact laws_szLookup.mono _ _ _ _
   | exact laws_toItemS.mono _ _
   | exact laws_toLookup.mono _ _ _
   | exact spec_RuleFor.mono _ _ _ _ _
   | exact LeO.none _
   | refine LeO.ite ?_ ?_
   | refine LeO.bind ?_ (fun _ => ?_)
  ·intro y0 y1 y2 y3
   unfold laws_FnExactRuleFor.j1
   repeat' first
   | (with_reducible exact ih0 _ _ _ _ _)
   | (with_reducible exact ih1 _ _ _ _)
   | (with_reducible exact ih2 _ _ _ _ _ _ _)
   | (with_reducible exact ih3 _ _ _ _ _ _)
   | (with_reducible exact ih4 _ _)
   | (with_reducible exact impl_RuleFor.mono _ _ _ _ _)
   | (with_reducible exact laws_eqItemS.mono _ _ _)
   | (with_reducible exact laws_eqLookup.mono _ _ _ _ _)
   | (with_reducible exact laws_szLookup.mono _ _ _ _)
   | (with_reducible exact laws_toItemS.mono _ _)
   | (with_reducible exact laws_toLookup.mono _ _ _)
   | (with_reducible exact spec_RuleFor.mono _ _ _ _ _)
   | (with_reducible exact LeO.refl _)
   | (with_reducible exact LeO.none _)
   | (with_reducible refine LeO.ite ?_ ?_)
   | (with_reducible refine LeO.bind ?_ (fun _ => ?_))
   | exact ih0 _ _ _ _ _
   | exact ih1 _ _ _ _
   | exact ih2 _ _ _ _ _ _ _
   | exact ih3 _ _ _ _ _ _
   | exact ih4 _ _
   | exact impl_RuleFor.mono _ _ _ _ _
   | exact laws_eqItemS.mono _ _ _
   | exact laws_eqLookup.mono _ _ _ _ _
   | exact laws_szLookup.mono _ _ _ _
   | exact laws_toItemS.mono _ _
   | exact laws_toLookup.mono _ _ _
   | exact spec_RuleFor.mono _ _ _ _ _
   | exact LeO.none _
   | refine LeO.ite ?_ ?_
   | refine LeO.bind ?_ (fun _ => ?_)
  ·intro y0 y1 y2 y3 y4 y5 y6
   unfold laws_FnExactRuleFor.j2
   repeat' first
   | (with_reducible exact ih0 _ _ _ _ _)
   | (with_reducible exact ih1 _ _ _ _)
   | (with_reducible exact ih2 _ _ _ _ _ _ _)
   | (with_reducible exact ih3 _ _ _ _ _ _)
   | (with_reducible exact ih4 _ _)
   | (with_reducible exact impl_RuleFor.mono _ _ _ _ _)
   | (with_reducible exact laws_eqItemS.mono _ _ _)
   | (with_reducible exact laws_eqLookup.mono _ _ _ _ _)
   | (with_reducible exact laws_szLookup.mono _ _ _ _)
   | (with_reducible exact laws_toItemS.mono _ _)
   | (with_reducible exact laws_toLookup.mono _ _ _)
   | (with_reducible exact spec_RuleFor.mono _ _ _ _ _)
   | (with_reducible exact LeO.refl _)
   | (with_reducible exact LeO.none _)
   | (with_reducible refine LeO.ite ?_ ?_)
   | (with_reducible refine LeO.bind ?_ (fun _ => ?_))
   | exact ih0 _ _ _ _ _
   | exact ih1 _ _ _ _
   | exact ih2 _ _ _ _ _ _ _
   | exact ih3 _ _ _ _ _ _
   | exact ih4 _ _
   | exact impl_RuleFor.mono _ _ _ _ _
   | exact laws_eqItemS.mono _ _ _
   | exact laws_eqLookup.mono _ _ _ _ _
   | exact laws_szLookup.mono _ _ _ _
   | exact laws_toItemS.mono _ _
   | exact laws_toLookup.mono _ _ _
   | exact spec_RuleFor.mono _ _ _ _ _
   | exact LeO.none _
   | refine LeO.ite ?_ ?_
   | refine LeO.bind ?_ (fun _ => ?_)
  ·intro y0 y1 y2 y3 y4 y5
   unfold laws_FnExactRuleFor.j3
   repeat' first
   | (with_reducible exact ih0 _ _ _ _ _)
   | (with_reducible exact ih1 _ _ _ _)
   | (with_reducible exact ih2 _ _ _ _ _ _ _)
   | (with_reducible exact ih3 _ _ _ _ _ _)
   | (with_reducible exact ih4 _ _)
   | (with_reducible exact impl_RuleFor.mono _ _ _ _ _)
   | (with_reducible exact laws_eqItemS.mono _ _ _)
   | (with_reducible exact laws_eqLookup.mono _ _ _ _ _)
   | (with_reducible exact laws_szLookup.mono _ _ _ _)
   | (with_reducible exact laws_toItemS.mono _ _)
   | (with_reducible exact laws_toLookup.mono _ _ _)
   | (with_reducible exact spec_RuleFor.mono _ _ _ _ _)
   | (with_reducible exact LeO.refl _)
   | (with_reducible exact LeO.none _)
   | (with_reducible refine LeO.ite ?_ ?_)
   | (with_reducible refine LeO.bind ?_ (fun _ => ?_))
   | exact ih0 _ _ _ _ _
   | exact ih1 _ _ _ _
   | exact ih2 _ _ _ _ _ _ _
   | exact ih3 _ _ _ _ _ _
   | exact ih4 _ _
   | exact impl_RuleFor.mono _ _ _ _ _
   | exact laws_eqItemS.mono _ _ _
   | exact laws_eqLookup.mono _ _ _ _ _
   | exact laws_szLookup.mono _ _ _ _
   | exact laws_toItemS.mono _ _
   | exact laws_toLookup.mono _ _ _
   | exact spec_RuleFor.mono _ _ _ _ _
   | exact LeO.none _
   | refine LeO.ite ?_ ?_
   | refine LeO.bind ?_ (fun _ => ?_)
  ·intro y0 y1
   unfold laws_FnExactRuleFor.j4
   repeat' first
   | (with_reducible exact ih0 _ _ _ _ _)
   | (with_reducible exact ih1 _ _ _ _)
   | (with_reducible exact ih2 _ _ _ _ _ _ _)
   | (with_reducible exact ih3 _ _ _ _ _ _)
   | (with_reducible exact ih4 _ _)
   | (with_reducible exact impl_RuleFor.mono _ _ _ _ _)
   | (with_reducible exact laws_eqItemS.mono _ _ _)
   | (with_reducible exact laws_eqLookup.mono _ _ _ _ _)
   | (with_reducible exact laws_szLookup.mono _ _ _ _)
   | (with_reducible exact laws_toItemS.mono _ _)
   | (with_reducible exact laws_toLookup.mono _ _ _)
   | (with_reducible exact spec_RuleFor.mono _ _ _ _ _)
   | (with_reducible exact LeO.refl _)
   | (with_reducible exact LeO.none _)
   | (with_reducible refine LeO.ite ?_ ?_)
   | (with_reducible refine LeO.bind ?_ (fun _ => ?_))
   | exact ih0 _ _ _ _ _
   | exact ih1 _ _ _ _
   | exact ih2 _ _ _ _ _ _ _
   | exact ih3 _ _ _ _ _ _
   | exact ih4 _ _
   | exact impl_RuleFor.mono _ _ _ _ _
   | exact laws_eqItemS.mono _ _ _
   | exact laws_eqLookup.mono _ _ _ _ _
   | exact laws_szLookup.mono _ _ _ _
   | exact laws_toItemS.mono _ _
   | exact laws_toLookup.mono _ _ _
   | exact spec_RuleFor.mono _ _ _ _ _
   | exact LeO.none _
   | refine LeO.ite ?_ ?_
   | refine LeO.bind ?_ (fun _ => ?_)
theorem laws_FnExactRuleFor.mono : ∀ a0 a1 a2 a3 k, LeO (laws_FnExactRuleFor.f k a0 a1 a2 a3) (laws_FnExactRuleFor.f (k + 1) a0 a1 a2 a3) := by
 intro a0 a1 a2 a3 k
 obtain ⟨ih0, ih1, ih2, ih3, ih4⟩ := laws_FnExactRuleFor.mono_l k
 unfold laws_FnExactRuleFor.f
 repeat' first
   | (with_reducible exact ih0 _ _ _ _ _)
   | (with_reducible exact ih1 _ _ _ _)
   | (with_reducible exact ih2 _ _ _ _ _ _ _)
   | (with_reducible exact ih3 _ _ _ _ _ _)
   | (with_reducible exact ih4 _ _)
   | (with_reducible exact impl_RuleFor.mono _ _ _ _ _)
   | (with_reducible exact laws_eqItemS.mono _ _ _)
   | (with_reducible exact laws_eqLookup.mono _ _ _ _ _)
   | (with_reducible exact laws_szLookup.mono _ _ _ _)
   | (with_reducible exact laws_toItemS.mono _ _)
   | (with_reducible exact laws_toLookup.mono _ _ _)
   | (with_reducible exact spec_RuleFor.mono _ _ _ _ _)
   | (with_reducible exact LeO.refl _)
   | (with_reducible exact LeO.none _)
   | (with_reducible refine LeO.ite ?_ ?_)
   | (with_reducible refine LeO.bind ?_ (fun _ => ?_))
   | exact ih0 _ _ _ _ _
   | exact ih1 _ _ _ _
   | exact ih2 _ _ _ _ _ _ _
   | exact ih3 _ _ _ _ _ _
   | exact ih4 _ _
   | exact impl_RuleFor.mono _ _ _ _ _
   | exact laws_eqItemS.mono _ _ _
   | exact laws_eqLookup.mono _ _ _ _ _
   | exact laws_szLookup.mono _ _ _ _
   | exact laws_toItemS.mono _ _
   | exact laws_toLookup.mono _ _ _
   | exact spec_RuleFor.mono _ _ _ _ _
   | exact LeO.none _
   | refine LeO.ite ?_ ?_
   | refine LeO.bind ?_ (fun _ => ?_)
set_option maxHeartbeats 8000000 in
set_option maxRecDepth 100000 in
theorem laws_FnExactRuleFor.calls (k : Nat) (a0_0 : ByteArray) (A0_1 : Option Addr) (c0_1 : Nat) (l0_1 : List (S35)) (A1 : Option Addr) (c1 : Nat) (l1 : List (S109)) (a2 : Int) (r : Bool) (w : World) (hr0_1 : Kd.C k35 w A0_1 l0_1.length l0_1) (hc0_1 : l0_1.length ≤ c0_1) (hr1 : Kd.C k109 w A1 l1.length l1) (hc1 : l1.length ≤ c1) (h : laws_FnExactRuleFor.f k a0_0 l0_1 l1 a2 = some r) :
  Calls Try.prog 9 #[.agg #[.string a0_0, .slice A0_1 l0_1.length c0_1], .slice A1 l1.length c1, .int .i64 a2] w fun e w' => e = .returned (.bool r) ∧ Below w.heap.size w w' := by
 have hu55 := Try.underlying55
 have hu61 := Try.underlying61
 have HR0_1 := aM hr0_1
 have HC0_1 := aM hc0_1
 clear hr0_1 hc0_1
 have HR1 := aM hr1
 have HC1 := aM hc1
 clear hr1 hc1
 have HB := aM (Below.refl w.heap.size w)
 have H : ((laws_szLookup.f k a0_0 l0_1 1048576).bind fun t338 => (if t338 < 0 then (some true) else (laws_FnExactRuleFor.j0 k l1 a2 t338 a0_0 l0_1))) = some r := h
 clear h
 replace H := Option.bind_eq_some_iff.mp H
 obtain ⟨t338, A40, H⟩ := H
 replace H : (if t338 < 0 then (some true) else (laws_FnExactRuleFor.j0 k l1 a2 t338 a0_0 l0_1)) = some r := H
 have A4 := aM A40
 clear A40
 have HC5 := aM H
 clear H
 go_enter Try.func9, Try.ntmps9
 go_upto_if 18 with (first | ((with_reducible refine gate_dst (N := 3) rfl ?_); refine box_event ?hg (N := 3) ?hd (cs := #[.string a0_0, .slice A0_1 l0_1.length c0_1]) (t := 55) ?hr ?_; (case hd => rfl); (case hg => rfl); (case hr => first | (go_simp; done) | (go_simp; rfl)); intro gb337 hg w6 hbox hb; have n0_ := aM (below_step bQ hb); have n1_ := aM (hbox); have n2_ := aM ((by rw [hg]; exact (below_size bQ) : w.heap.size ≤ gb337)); have n3_ := aM ((by rw [hg]; exact (below_size bQ) : w.heap.size ≤ gb337)); clear HB; have HB := n0_; have BK337 := n1_; have GW337 := n2_; have GE337 := n3_; clear n0_ n1_ n2_ n3_; clear hb hbox hg; have hcz7_0 : w6.cell? ⟨gb337, 0, none⟩ = some (.string a0_0) := (blk_cell BK337.out 0).trans rfl; have hcz7_1 : w6.cell? ⟨gb337, 1, none⟩ = some (.slice A0_1 l0_1.length c0_1) := (blk_cell BK337.out 1).trans rfl; have hfz7_0 := blk_frozen BK337.out 0; have hfz7_1 := blk_frozen BK337.out 1) | ((with_reducible refine gate_callee (f := 37) rfl ?_); refine goesL_ (some 16) rfl rfl Try.func37 (by kernel_rfl) rfl #[.agg #[.string a0_0, .slice A0_1 l0_1.length c0_1], .int .i64 1048576] rfl gQ ?_; (with_reducible refine (laws_szLookup.calls k a0_0 _ _ l0_1 1048576 t338 _ ?side1 ?side2 A4.out).mono ?_); (case side1 => exact cQ HR0_1.out); (case side2 => exact HC0_1.out); rintro e w8 ⟨rfl, hb⟩; refine ⟨_, rfl, ?_⟩; have n0_ := aM (blk_below (g := gb337) (o := .cells #[.string a0_0, .slice A0_1 l0_1.length c0_1] 55 (0, 0)) (by (with_reducible repeat (first | refine blk_drewN ?_ _ | refine blk_drew ?_ | refine blk_alloc ?_ _)); exact BK337.out) hb); have n1_ := aM (below_step (by repeat (first | (with_reducible first | exact HB.out | apply bA | apply bN | apply bD | refine below_set ?_ GE337.out) | exact HB.out)) hb); clear BK337; clear HB; have BK337 := n0_; have HB := n1_; clear n0_ n1_; (try clear hb); (try clear hb2); (try clear hk); (try clear hi)))
 (try simp only [Act.put, sI, sZ, sS])
 go_cut [] (fun wc => ∃ (kq : Nat), Aside0 (laws_FnExactRuleFor.j0 kq l1 a2 t338 a0_0 l0_1 = some r) ∧ Aside0 (kq ≤ k) ∧ Aside0 (wc.heap[gb337]? = some (.cells #[.string a0_0, (.slice A0_1 l0_1.length c0_1)] 55 (0, 0))) ∧ Aside0 (Below w.heap.size w wc))
 case first =>
  have H := HC5.out
  clear HC5
  by_cases c9 : t338 < 0
  ·rw [if_pos c9] at H
   have c9b0 : decide (t338 < 0) = true := decide_eq_true c9
   clear c9
   (first | rw [c9b0] | (simp only [i64_w, i32_w]; rw [c9b0]) | rw [c9b1] | rw [c9b2] | rw [c9b3] | rw [c9b4] | skip)
   obtain rfl := Option.some.inj H
   go_wp2
   go_ret
   exact ⟨eQ, by repeat (first | (with_reducible first | exact HB.out | apply bA | apply bN | apply bD | refine below_set ?_ GE337.out) | exact HB.out)⟩
  ·rw [if_neg c9] at H
   have c9b0 : decide (t338 < 0) = false := decide_eq_false c9
   clear c9
   (first | rw [c9b0] | (simp only [i64_w, i32_w]; rw [c9b0]) | rw [c9b1] | rw [c9b2] | rw [c9b3] | rw [c9b4] | skip)
   have H' := aM H
   clear H
   go_wp2
   go_meet
   case rel => exact ⟨_, H', ⟨by first | omega | exact Nat.le_refl _⟩, ⟨by (with_reducible repeat (first | refine blk_drewN ?_ _ | refine blk_drew ?_ | refine blk_alloc ?_ _)); exact BK337.out⟩, ⟨by repeat (first | (with_reducible first | exact HB.out | apply bA | apply bN | apply bD | refine below_set ?_ GE337.out) | exact HB.out)⟩⟩
 case rest =>
  clear HC5
  try clear c1
  try clear p2
  try clear c3
  try clear c9
  try clear c9b0
  try clear c9b1
  try clear c9b2
  try clear hcz7_0
  try clear hcz7_1
  try clear hfz7_0
  try clear hfz7_1
  obtain ⟨kq, HA, HJ4, BK337, HB⟩ := hcut
  cases kq with
  | zero => exact absurd HA.out (by simp [laws_FnExactRuleFor.j0])
  | succ kj4 =>
   have H := HA.out
   clear HA
   simp only [laws_FnExactRuleFor.j0] at H
   replace H := Option.bind_eq_some_iff.mp H
   obtain ⟨t339, A100, H⟩ := H
   replace H : (if t339 < 0 then (some true) else (laws_FnExactRuleFor.j1 kj4 l1 a2 a0_0 l0_1)) = some r := H
   have A10 := aM A100
   clear A100
   have HC11 := aM H
   clear H
   go_upto_if 23 with (first | ((with_reducible refine gate_callee (f := 27) rfl ?_); refine goesL_ (some 21) rfl rfl Try.func27 (by kernel_rfl) rfl #[.slice A1 l1.length c1, .int .i64 t338] rfl gQ ?_; (with_reducible refine (laws_szItemS.calls _ _ l1 t338 t339 _ ?side1 ?side2 A10.out).mono ?_); (case side1 => exact cQ HR1.out); (case side2 => exact HC1.out); rintro e w' ⟨rfl, ⟨nd, rfl⟩⟩; refine ⟨_, rfl, ?_⟩))
   (try simp only [Act.put, sI, sZ, sS])
   go_cut [] (fun wc => ∃ (kq : Nat), Aside0 (laws_FnExactRuleFor.j1 kq l1 a2 a0_0 l0_1 = some r) ∧ Aside0 (kq ≤ kj4) ∧ Aside0 (wc.heap[gb337]? = some (.cells #[.string a0_0, (.slice A0_1 l0_1.length c0_1)] 55 (0, 0))) ∧ Aside0 (Below w.heap.size w wc))
   case first =>
    have H := HC11.out
    clear HC11
    by_cases c12 : t339 < 0
    ·rw [if_pos c12] at H
     have c12b0 : decide (t339 < 0) = true := decide_eq_true c12
     clear c12
     (first | rw [c12b0] | (simp only [i64_w, i32_w]; rw [c12b0]) | rw [c12b1] | rw [c12b2] | rw [c12b3] | rw [c12b4] | skip)
     obtain rfl := Option.some.inj H
     go_wp2
     go_ret
     exact ⟨eQ, by repeat (first | (with_reducible first | exact HB.out | apply bA | apply bN | apply bD | refine below_set ?_ GE337.out) | exact HB.out)⟩
    ·rw [if_neg c12] at H
     have c12b0 : decide (t339 < 0) = false := decide_eq_false c12
     clear c12
     (first | rw [c12b0] | (simp only [i64_w, i32_w]; rw [c12b0]) | rw [c12b1] | rw [c12b2] | rw [c12b3] | rw [c12b4] | skip)
     have H' := aM H
     clear H
     go_wp2
     go_meet
     case rel => exact ⟨_, H', ⟨by have := HJ4.out; first | omega | exact Nat.le_refl _⟩, ⟨by (with_reducible repeat (first | refine blk_drewN ?_ _ | refine blk_drew ?_ | refine blk_alloc ?_ _)); exact BK337.out⟩, ⟨by repeat (first | (with_reducible first | exact HB.out | apply bA | apply bN | apply bD | refine below_set ?_ GE337.out) | exact HB.out)⟩⟩
   case rest =>
    clear HC11
    try clear c1
    try clear c2
    try clear p2
    try clear c3
    try clear c9
    try clear c9b0
    try clear c9b1
    try clear c9b2
    try clear c12
    try clear c12b0
    try clear c12b1
    try clear c12b2
    try clear hcz7_0
    try clear hcz7_1
    try clear hfz7_0
    try clear hfz7_1
    try clear p2
    obtain ⟨kq, HA, HJ10, BK337, HB⟩ := hcut
    cases kq with
    | zero => exact absurd HA.out (by simp [laws_FnExactRuleFor.j1])
    | succ kj10 =>
     have H := HA.out
     clear HA
     simp only [laws_FnExactRuleFor.j1] at H
     replace H := Option.bind_eq_some_iff.mp H
     obtain ⟨⟨t340, t341⟩, A130, H⟩ := H
     replace H : ((laws_toItemS.f kj10 l1).bind fun t344 => ((spec_RuleFor.f kj10 t340 t341 t344 a2).bind fun bt347 => ((laws_toLookup.f kj10 a0_0 l0_1).bind fun bt349 => ((laws_toItemS.f kj10 l1).bind fun t354 => ((impl_RuleFor.f kj10 bt349.1 bt349.2 t354 a2).bind fun bt357 => (if bt357.1 = bt347.1 then (laws_FnExactRuleFor.j2 kj10 l1 t354 (bt357.2 != bt347.2) a0_0 l0_1 bt349.1 bt349.2) else (laws_FnExactRuleFor.j2 kj10 l1 t354 true a0_0 l0_1 bt349.1 bt349.2))))))) = some r := H
     have A13 := aM A130
     clear A130
     replace H := Option.bind_eq_some_iff.mp H
     obtain ⟨t344, A140, H⟩ := H
     replace H : ((spec_RuleFor.f kj10 t340 t341 t344 a2).bind fun bt347 => ((laws_toLookup.f kj10 a0_0 l0_1).bind fun bt349 => ((laws_toItemS.f kj10 l1).bind fun t354 => ((impl_RuleFor.f kj10 bt349.1 bt349.2 t354 a2).bind fun bt357 => (if bt357.1 = bt347.1 then (laws_FnExactRuleFor.j2 kj10 l1 t354 (bt357.2 != bt347.2) a0_0 l0_1 bt349.1 bt349.2) else (laws_FnExactRuleFor.j2 kj10 l1 t354 true a0_0 l0_1 bt349.1 bt349.2)))))) = some r := H
     have A14 := aM A140
     clear A140
     replace H := Option.bind_eq_some_iff.mp H
     obtain ⟨⟨t347, t348⟩, A150, H⟩ := H
     replace H : ((laws_toLookup.f kj10 a0_0 l0_1).bind fun bt349 => ((laws_toItemS.f kj10 l1).bind fun t354 => ((impl_RuleFor.f kj10 bt349.1 bt349.2 t354 a2).bind fun bt357 => (if bt357.1 = t347 then (laws_FnExactRuleFor.j2 kj10 l1 t354 (bt357.2 != t348) a0_0 l0_1 bt349.1 bt349.2) else (laws_FnExactRuleFor.j2 kj10 l1 t354 true a0_0 l0_1 bt349.1 bt349.2))))) = some r := H
     have A15 := aM A150
     clear A150
     replace H := Option.bind_eq_some_iff.mp H
     obtain ⟨⟨t349, t350⟩, A160, H⟩ := H
     replace H : ((laws_toItemS.f kj10 l1).bind fun t354 => ((impl_RuleFor.f kj10 t349 t350 t354 a2).bind fun bt357 => (if bt357.1 = t347 then (laws_FnExactRuleFor.j2 kj10 l1 t354 (bt357.2 != t348) a0_0 l0_1 t349 t350) else (laws_FnExactRuleFor.j2 kj10 l1 t354 true a0_0 l0_1 t349 t350)))) = some r := H
     have A16 := aM A160
     clear A160
     replace H := Option.bind_eq_some_iff.mp H
     obtain ⟨t354, A170, H⟩ := H
     replace H : ((impl_RuleFor.f kj10 t349 t350 t354 a2).bind fun bt357 => (if bt357.1 = t347 then (laws_FnExactRuleFor.j2 kj10 l1 t354 (bt357.2 != t348) a0_0 l0_1 t349 t350) else (laws_FnExactRuleFor.j2 kj10 l1 t354 true a0_0 l0_1 t349 t350))) = some r := H
     have A17 := aM A170
     clear A170
     replace H := Option.bind_eq_some_iff.mp H
     obtain ⟨⟨t357, t358⟩, A180, H⟩ := H
     replace H : (if t357 = t347 then (laws_FnExactRuleFor.j2 kj10 l1 t354 (t358 != t348) a0_0 l0_1 t349 t350) else (laws_FnExactRuleFor.j2 kj10 l1 t354 true a0_0 l0_1 t349 t350)) = some r := H
     have A18 := aM A180
     clear A180
     have HC19 := aM H
     clear H
     have hcz20_0 : wc.cell? ⟨gb337, 0, none⟩ = some (.string a0_0) := (blk_cell BK337.out 0).trans rfl
     have hcz20_1 : wc.cell? ⟨gb337, 1, none⟩ = some (.slice A0_1 l0_1.length c0_1) := (blk_cell BK337.out 1).trans rfl
     have hfz20_0 := blk_frozen BK337.out 0
     have hfz20_1 := blk_frozen BK337.out 1
     go_upto_region 12 with (first | ((with_reducible refine gate_callee (f := 39) rfl ?_); refine goesL_ (some 26) rfl rfl Try.func39 (by kernel_rfl) rfl #[.agg #[.string a0_0, .slice A0_1 l0_1.length c0_1]] rfl gQ ?_; (with_reducible refine (laws_toLookup.calls kj10 a0_0 _ _ l0_1 t340 t341 _ ?side1 ?side2 A13.out).mono ?_); (case side1 => exact cQ HR0_1.out); (case side2 => exact HC0_1.out); rintro e w21 ⟨v342, rfl, ho0, hb⟩; refine ⟨_, rfl, ?_⟩; have n0_ := aM (Kd.R_lower ho0 (below_size (by repeat (first | (with_reducible first | exact HB.out | apply bA | apply bN | apply bD | refine below_set ?_ GE337.out) | exact HB.out)))); have n1_ := aM (blk_below (g := gb337) (o := .cells #[.string a0_0, .slice A0_1 l0_1.length c0_1] 55 (0, 0)) (by (with_reducible repeat (first | refine blk_drewN ?_ _ | refine blk_drew ?_ | refine blk_alloc ?_ _)); exact BK337.out) hb); have n2_ := aM (below_step (by repeat (first | (with_reducible first | exact HB.out | apply bA | apply bN | apply bD | refine below_set ?_ GE337.out) | exact HB.out)) hb); clear BK337; clear HB; have HO343 := n0_; have BK337 := n1_; have HB := n2_; clear n0_ n1_ n2_; (try clear hb); (try clear hb2); (try clear hk); (try clear hi); (try clear ho0)) | ((with_reducible refine gate_callee (f := 29) rfl ?_); refine goesL_ (some 28) rfl rfl Try.func29 (by kernel_rfl) rfl #[.slice A1 l1.length c1] rfl gQ ?_; (with_reducible refine (laws_toItemS.calls kj10 _ _ l1 t344 _ ?side1 ?side2 A14.out).mono ?_); (case side1 => exact cQ HR1.out); (case side2 => exact HC1.out); rintro e w22 ⟨v345, rfl, ho0, hb⟩; refine ⟨_, rfl, ?_⟩; have n0_ := aM (Kd.R_below (by (with_reducible repeat (first | apply rA | apply rN | apply rD)); exact HO343.out) hb); have n1_ := aM (Kd.R_lower ho0 (below_size (by repeat (first | (with_reducible first | exact HB.out | apply bA | apply bN | apply bD | refine below_set ?_ GE337.out) | exact HB.out)))); have n2_ := aM (blk_below (g := gb337) (o := .cells #[.string a0_0, .slice A0_1 l0_1.length c0_1] 55 (0, 0)) (by (with_reducible repeat (first | refine blk_drewN ?_ _ | refine blk_drew ?_ | refine blk_alloc ?_ _)); exact BK337.out) hb); have n3_ := aM (below_step (by repeat (first | (with_reducible first | exact HB.out | apply bA | apply bN | apply bD | refine below_set ?_ GE337.out) | exact HB.out)) hb); clear HO343; clear BK337; clear HB; have HO343 := n0_; have HO346 := n1_; have BK337 := n2_; have HB := n3_; clear n0_ n1_ n2_ n3_; (try clear hb); (try clear hb2); (try clear hk); (try clear hi); (try clear ho0); obtain ⟨Ao23, co23, eo23⟩ := Kd.R_slice HO343.out; subst eo23; obtain ⟨Ao24, co24, eo24⟩ := Kd.R_slice HO346.out; subst eo24) | ((with_reducible refine gate_callee (f := 38) rfl ?_); refine goesL_ (some 30) rfl rfl Try.func38 (by kernel_rfl) rfl #[.agg #[.string t340, .slice Ao23 t341.length co23], .slice Ao24 t344.length co24, .int .i64 a2] rfl gQ ?_; (with_reducible refine (spec_RuleFor.calls kj10 t340 _ _ t341 _ _ t344 a2 t347 t348 _ ?side1 ?side2 ?side3 ?side4 A15.out).mono ?_); (case side1 => repeat (first | exact (Kd.R_reads' HO343.out).2.2 | (with_reducible first | refine cA ?_ _ | refine cN ?_ _ | refine cD ?_))); (case side2 => exact (Kd.R_reads' HO343.out).2.1); (case side3 => repeat (first | exact (Kd.R_reads' HO346.out).2.2 | (with_reducible first | refine cA ?_ _ | refine cN ?_ _ | refine cD ?_))); (case side4 => exact (Kd.R_reads' HO346.out).2.1); rintro e w25 ⟨rfl, hb⟩; refine ⟨_, rfl, ?_⟩; have n0_ := aM (Kd.R_below (by (with_reducible repeat (first | apply rA | apply rN | apply rD)); exact HO343.out) hb); have n1_ := aM (Kd.R_below (by (with_reducible repeat (first | apply rA | apply rN | apply rD)); exact HO346.out) hb); have n2_ := aM (blk_below (g := gb337) (o := .cells #[.string a0_0, .slice A0_1 l0_1.length c0_1] 55 (0, 0)) (by (with_reducible repeat (first | refine blk_drewN ?_ _ | refine blk_drew ?_ | refine blk_alloc ?_ _)); exact BK337.out) hb); have n3_ := aM (below_step (by repeat (first | (with_reducible first | exact HB.out | apply bA | apply bN | apply bD | refine below_set ?_ GE337.out) | exact HB.out)) hb); clear HO343; clear HO346; clear BK337; clear HB; have HO343 := n0_; have HO346 := n1_; have BK337 := n2_; have HB := n3_; clear n0_ n1_ n2_ n3_; (try clear hb); (try clear hb2); (try clear hk); (try clear hi); have hcz26_0 : w25.cell? ⟨gb337, 0, none⟩ = some (.string a0_0) := (blk_cell BK337.out 0).trans rfl; have hcz26_1 : w25.cell? ⟨gb337, 1, none⟩ = some (.slice A0_1 l0_1.length c0_1) := (blk_cell BK337.out 1).trans rfl; have hfz26_0 := blk_frozen BK337.out 0; have hfz26_1 := blk_frozen BK337.out 1) | ((with_reducible refine gate_callee (f := 39) rfl ?_); refine goesL_ (some 34) rfl rfl Try.func39 (by kernel_rfl) rfl #[.agg #[.string a0_0, .slice A0_1 l0_1.length c0_1]] rfl gQ ?_; (with_reducible refine (laws_toLookup.calls kj10 a0_0 _ _ l0_1 t349 t350 _ ?side1 ?side2 A16.out).mono ?_); (case side1 => exact cQ HR0_1.out); (case side2 => exact HC0_1.out); rintro e w27 ⟨v351, rfl, ho0, hb⟩; refine ⟨_, rfl, ?_⟩; have n0_ := aM (Kd.R_elder' (by (with_reducible repeat (first | apply rA | apply rN | apply rD)); exact HO343.out) (Kd.R_base ho0) hb); have n1_ := aM (Kd.R_below (by (with_reducible repeat (first | apply rA | apply rN | apply rD)); exact HO346.out) hb); have n2_ := aM (Kd.R_lower (Kd.R_new' ho0 (Kd.R_lt (by (with_reducible repeat (first | apply rA | apply rN | apply rD)); exact HO343.out))) (below_size (by repeat (first | (with_reducible first | exact HB.out | apply bA | apply bN | apply bD | refine below_set ?_ GE337.out) | exact HB.out)))); have n3_ := aM (blk_below (g := gb337) (o := .cells #[.string a0_0, .slice A0_1 l0_1.length c0_1] 55 (0, 0)) (by (with_reducible repeat (first | refine blk_drewN ?_ _ | refine blk_drew ?_ | refine blk_alloc ?_ _)); exact BK337.out) hb); have n4_ := aM (below_step (by repeat (first | (with_reducible first | exact HB.out | apply bA | apply bN | apply bD | refine below_set ?_ GE337.out) | exact HB.out)) hb); clear HO343; clear HO346; clear BK337; clear HB; have HO343 := n0_; have HO346 := n1_; have HO352 := n2_; have BK337 := n3_; have HB := n4_; clear n0_ n1_ n2_ n3_ n4_; (try clear hb); (try clear hb2); (try clear hk); (try clear hi); (try clear ho0)) | ((with_reducible refine gate_dst (N := 10) rfl ?_); refine box_event ?hg (N := 10) ?hd (cs := #[.string (⟨#[]⟩ : ByteArray), .slice none 0 0]) (t := 61) ?hr ?_; (case hd => rfl); (case hg => rfl); (case hr => first | (go_simp; done) | (go_simp; rfl)); intro gb353 hg w28 hbox hb; have n0_ := aM (Kd.R_below (by (with_reducible repeat (first | apply rA | apply rN | apply rD)); exact HO343.out) hb); have n1_ := aM (Kd.R_below (by (with_reducible repeat (first | apply rA | apply rN | apply rD)); exact HO346.out) hb); have n2_ := aM (Kd.R_below (by (with_reducible repeat (first | apply rA | apply rN | apply rD)); exact HO352.out) hb); have n3_ := aM (blk_below (g := gb337) (o := .cells #[.string a0_0, .slice A0_1 l0_1.length c0_1] 55 (0, 0)) (by (with_reducible repeat (first | refine blk_drewN ?_ _ | refine blk_drew ?_ | refine blk_alloc ?_ _)); exact BK337.out) hb); have n4_ := aM (below_step (by repeat (first | (with_reducible first | exact HB.out | apply bA | apply bN | apply bD | refine below_set ?_ GE337.out) | exact HB.out)) hb); have n5_ := aM (hbox); have n6_ := aM ((by rw [hg]; exact (below_size (by repeat (first | (with_reducible first | exact HB.out | apply bA | apply bN | apply bD | refine below_set ?_ GE337.out) | exact HB.out))) : w.heap.size ≤ gb353)); have n7_ := aM ((by rw [hg]; exact (below_size (by repeat (first | (with_reducible first | exact HB.out | apply bA | apply bN | apply bD | refine below_set ?_ GE337.out) | exact HB.out))) : w.heap.size ≤ gb353)); have n8_ := aM ((by rw [hg]; exact Nat.ne_of_lt (blk_lt (g := gb337) (o := .cells #[.string a0_0, .slice A0_1 l0_1.length c0_1] 55 (0, 0)) (by (with_reducible repeat (first | refine blk_drewN ?_ _ | refine blk_drew ?_ | refine blk_alloc ?_ _)); exact BK337.out)) : gb337 ≠ gb353)); have n9_ := aM ((by rw [hg]; exact Nat.ne_of_gt (blk_lt (g := gb337) (o := .cells #[.string a0_0, .slice A0_1 l0_1.length c0_1] 55 (0, 0)) (by (with_reducible repeat (first | refine blk_drewN ?_ _ | refine blk_drew ?_ | refine blk_alloc ?_ _)); exact BK337.out)) : gb353 ≠ gb337)); clear HO343; clear HO346; clear HO352; clear BK337; clear HB; have HO343 := n0_; have HO346 := n1_; have HO352 := n2_; have BK337 := n3_; have HB := n4_; have BK353 := n5_; have GW353 := n6_; have GE353 := n7_; have NB337_353 := n8_; have NB353_337 := n9_; clear n0_ n1_ n2_ n3_ n4_ n5_ n6_ n7_ n8_ n9_; clear hb hbox hg; have hnb29 := NB353_337.out; have hnc29 := NB337_353.out; have hcz30_0 : w28.cell? ⟨gb353, 0, none⟩ = some (.string (⟨#[]⟩ : ByteArray)) := (blk_cell BK353.out 0).trans rfl; have hcz30_1 : w28.cell? ⟨gb353, 1, none⟩ = some (.slice none 0 0) := (blk_cell BK353.out 1).trans rfl; have hfz30_0 := blk_frozen BK353.out 0; have hfz30_1 := blk_frozen BK353.out 1; obtain ⟨Ao31, co31, eo31⟩ := Kd.R_slice HO352.out; subst eo31) | ((with_reducible refine gate_callee (f := 29) rfl ?_); refine goesL_ (some 36) rfl rfl Try.func29 (by kernel_rfl) rfl #[.slice A1 l1.length c1] rfl gQ ?_; (with_reducible refine (laws_toItemS.calls kj10 _ _ l1 t354 _ ?side1 ?side2 A17.out).mono ?_); (case side1 => exact Kd.C_below HR1.out (by repeat (first | (with_reducible first | exact HB.out | apply bA | apply bN | apply bD | refine below_set ?_ GE337.out | refine below_set ?_ GE353.out) | exact HB.out))); (case side2 => exact HC1.out); rintro e w32 ⟨v355, rfl, ho0, hb⟩; refine ⟨_, rfl, ?_⟩; have n0_ := aM (Kd.R_below (by (with_reducible repeat (first | apply rA | apply rN | apply rD)); exact (Kd.R_mono (Kd.R_far (p := ⟨gb353, 1, none⟩) (Kd.R_far (p := ⟨gb353, 0, none⟩) (Kd.R_types HO343.out BK353.out (by decide)) h2_ (.string t349)) h2_ (.slice Ao31 t350.length co31)) h1_)) hb); have n1_ := aM (Kd.R_elder' (by (with_reducible repeat (first | apply rA | apply rN | apply rD)); exact (Kd.R_mono (Kd.R_far (p := ⟨gb353, 1, none⟩) (Kd.R_far (p := ⟨gb353, 0, none⟩) (Kd.R_types HO346.out BK353.out (by decide)) h2_ (.string t349)) h2_ (.slice Ao31 t350.length co31)) h1_)) (Kd.R_base ho0) hb); have n2_ := aM (Kd.R_below (by (with_reducible repeat (first | apply rA | apply rN | apply rD)); exact (Kd.R_mono (Kd.R_far (p := ⟨gb353, 1, none⟩) (Kd.R_far (p := ⟨gb353, 0, none⟩) (Kd.R_types HO352.out BK353.out (by decide)) h2_ (.string t349)) h2_ (.slice Ao31 t350.length co31)) h1_)) hb); have n3_ := aM (Kd.R_lower (Kd.R_new' ho0 (Kd.R_lt (by (with_reducible repeat (first | apply rA | apply rN | apply rD)); exact (Kd.R_mono (Kd.R_far (p := ⟨gb353, 1, none⟩) (Kd.R_far (p := ⟨gb353, 0, none⟩) (Kd.R_types HO346.out BK353.out (by decide)) h2_ (.string t349)) h2_ (.slice Ao31 t350.length co31)) h1_)))) (below_size (by repeat (first | (with_reducible first | exact HB.out | apply bA | apply bN | apply bD | refine below_set ?_ GE337.out | refine below_set ?_ GE353.out) | exact HB.out)))); have n4_ := aM (blk_below (g := gb337) (o := .cells #[.string a0_0, .slice A0_1 l0_1.length c0_1] 55 (0, 0)) (by (with_reducible repeat (first | refine blk_drewN ?_ _ | refine blk_drew ?_ | refine blk_alloc ?_ _)); refine blk_far ?_ NB337_353.out _; (with_reducible repeat (first | refine blk_drewN ?_ _ | refine blk_drew ?_ | refine blk_alloc ?_ _)); refine blk_far ?_ NB337_353.out _; (with_reducible repeat (first | refine blk_drewN ?_ _ | refine blk_drew ?_ | refine blk_alloc ?_ _)); exact BK337.out) hb); have n5_ := aM (blk_below (g := gb353) (o := .cells #[.string t349, .slice Ao31 t350.length co31] 61 (0, 0)) (by (with_reducible repeat (first | refine blk_drewN ?_ _ | refine blk_drew ?_ | refine blk_alloc ?_ _)); refine blk_put (cs := #[.string t349, .slice none 0 0]) ?_ 1 _ rfl; (with_reducible repeat (first | refine blk_drewN ?_ _ | refine blk_drew ?_ | refine blk_alloc ?_ _)); refine blk_put (cs := #[.string (⟨#[]⟩ : ByteArray), .slice none 0 0]) ?_ 0 _ rfl; (with_reducible repeat (first | refine blk_drewN ?_ _ | refine blk_drew ?_ | refine blk_alloc ?_ _)); exact BK353.out) hb); have n6_ := aM (below_step (by repeat (first | (with_reducible first | exact HB.out | apply bA | apply bN | apply bD | refine below_set ?_ GE337.out | refine below_set ?_ GE353.out) | exact HB.out)) hb); clear HO343; clear HO346; clear HO352; clear BK337; clear BK353; clear HB; have HO343 := n0_; have HO346 := n1_; have HO352 := n2_; have HO356 := n3_; have BK337 := n4_; have BK353 := n5_; have HB := n6_; clear n0_ n1_ n2_ n3_ n4_ n5_ n6_; (try clear hb); (try clear hb2); (try clear hk); (try clear hi); (try clear ho0); have hcz33_0 : w32.cell? ⟨gb353, 0, none⟩ = some (.string t349) := (blk_cell BK353.out 0).trans rfl; have hcz33_1 : w32.cell? ⟨gb353, 1, none⟩ = some (.slice Ao31 t350.length co31) := (blk_cell BK353.out 1).trans rfl; have hfz33_0 := blk_frozen BK353.out 0; have hfz33_1 := blk_frozen BK353.out 1; obtain ⟨Ao34, co34, eo34⟩ := Kd.R_slice HO356.out; subst eo34) | ((with_reducible refine gate_callee (f := 40) rfl ?_); refine goesL_ (some 41) rfl rfl Try.func40 (by kernel_rfl) rfl #[.agg #[.string t349, .slice Ao31 t350.length co31], .slice Ao34 t354.length co34, .int .i64 a2] rfl gQ ?_; (with_reducible refine (impl_RuleFor.calls kj10 t349 _ _ t350 _ _ t354 a2 t357 t358 _ ?side1 ?side2 ?side3 ?side4 A18.out).mono ?_); (case side1 => repeat (first | exact (Kd.R_reads' HO352.out).2.2 | (with_reducible first | refine cA ?_ _ | refine cN ?_ _ | refine cD ?_))); (case side2 => exact (Kd.R_reads' HO352.out).2.1); (case side3 => repeat (first | exact (Kd.R_reads' HO356.out).2.2 | (with_reducible first | refine cA ?_ _ | refine cN ?_ _ | refine cD ?_))); (case side4 => exact (Kd.R_reads' HO356.out).2.1); rintro e w35 ⟨rfl, hb⟩; refine ⟨_, rfl, ?_⟩; have n0_ := aM (Kd.R_below (by (with_reducible repeat (first | apply rA | apply rN | apply rD)); exact HO343.out) hb); have n1_ := aM (Kd.R_below (by (with_reducible repeat (first | apply rA | apply rN | apply rD)); exact HO346.out) hb); have n2_ := aM (Kd.R_below (by (with_reducible repeat (first | apply rA | apply rN | apply rD)); exact HO352.out) hb); have n3_ := aM (Kd.R_below (by (with_reducible repeat (first | apply rA | apply rN | apply rD)); exact HO356.out) hb); have n4_ := aM (blk_below (g := gb337) (o := .cells #[.string a0_0, .slice A0_1 l0_1.length c0_1] 55 (0, 0)) (by (with_reducible repeat (first | refine blk_drewN ?_ _ | refine blk_drew ?_ | refine blk_alloc ?_ _)); exact BK337.out) hb); have n5_ := aM (blk_below (g := gb353) (o := .cells #[.string t349, .slice Ao31 t350.length co31] 61 (0, 0)) (by (with_reducible repeat (first | refine blk_drewN ?_ _ | refine blk_drew ?_ | refine blk_alloc ?_ _)); exact BK353.out) hb); have n6_ := aM (below_step (by repeat (first | (with_reducible first | exact HB.out | apply bA | apply bN | apply bD | refine below_set ?_ GE337.out | refine below_set ?_ GE353.out) | exact HB.out)) hb); clear HO343; clear HO346; clear HO352; clear HO356; clear BK337; clear BK353; clear HB; have HO343 := n0_; have HO346 := n1_; have HO352 := n2_; have HO356 := n3_; have BK337 := n4_; have BK353 := n5_; have HB := n6_; clear n0_ n1_ n2_ n3_ n4_ n5_ n6_; (try clear hb); (try clear hb2); (try clear hk); (try clear hi)))
     (try simp only [Act.put, sI, sZ, sS])
     go_cut [51] (fun v51 wc => ∃ (kq : Nat) (x51_18 : Bool), v51 = .bool x51_18 ∧ Aside0 (laws_FnExactRuleFor.j2 kq l1 t354 x51_18 a0_0 l0_1 t349 t350 = some r) ∧ Aside0 (kq ≤ kj10) ∧ Aside0 (Kd.R k107 107 wc w.heap.size (fun _ => True) (.slice Ao34 t354.length co34) t354) ∧ Aside0 (Kd.R k38 38 wc w.heap.size (fun _ => True) (.slice Ao31 t350.length co31) t350) ∧ Aside0 (wc.heap[gb337]? = some (.cells #[.string a0_0, (.slice A0_1 l0_1.length c0_1)] 55 (0, 0))) ∧ Aside0 (wc.heap[gb353]? = some (.cells #[.string t349, (.slice Ao31 t350.length co31)] 61 (0, 0))) ∧ Aside0 (Below w.heap.size w wc))
     case first =>
      have H := HC19.out
      clear HC19
      by_cases c36 : t357 = t347
      ·rw [if_pos c36] at H
       have c36b0 : (t357 == t347) = true := beq_iff_eq.mpr c36
       have c36b1 : (t357 != t347) = false := bne_eq_false_iff_eq.mpr c36
       clear c36
       (first | rw [c36b0] | (simp only [i64_w, i32_w]; rw [c36b0]) | rw [c36b1] | rw [c36b2] | rw [c36b3] | rw [c36b4] | skip)
       have H' := aM H
       clear H
       go_wp2
       go_meet
       case rel => exact ⟨_, ((t358 != t348)), rQ, H', ⟨by have := HJ4.out; have := HJ10.out; first | omega | exact Nat.le_refl _⟩, ⟨by (with_reducible repeat (first | apply rA | apply rN | apply rD)); exact Kd.R_mono HO356.out (fun _ hk => trivial)⟩, ⟨by (with_reducible repeat (first | apply rA | apply rN | apply rD)); exact Kd.R_mono HO352.out (fun _ hk => trivial)⟩, ⟨by (with_reducible repeat (first | refine blk_drewN ?_ _ | refine blk_drew ?_ | refine blk_alloc ?_ _)); exact BK337.out⟩, ⟨by (with_reducible repeat (first | refine blk_drewN ?_ _ | refine blk_drew ?_ | refine blk_alloc ?_ _)); exact BK353.out⟩, ⟨by repeat (first | (with_reducible first | exact HB.out | apply bA | apply bN | apply bD | refine below_set ?_ GE337.out | refine below_set ?_ GE353.out) | exact HB.out)⟩⟩
      ·rw [if_neg c36] at H
       have c36b0 : (t357 == t347) = false := beq_eq_false_iff_ne.mpr c36
       have c36b1 : (t357 != t347) = true := bne_iff_ne.mpr c36
       (first | rw [c36b0] | (simp only [i64_w, i32_w]; rw [c36b0]) | rw [c36b1] | rw [c36b2] | rw [c36b3] | rw [c36b4] | skip)
       have H' := aM H
       clear H
       go_wp2
       go_meet
       case rel => exact ⟨_, (true), rQ, H', ⟨by have := HJ4.out; have := HJ10.out; first | omega | exact Nat.le_refl _⟩, ⟨by (with_reducible repeat (first | apply rA | apply rN | apply rD)); exact Kd.R_mono HO356.out (fun _ hk => trivial)⟩, ⟨by (with_reducible repeat (first | apply rA | apply rN | apply rD)); exact Kd.R_mono HO352.out (fun _ hk => trivial)⟩, ⟨by (with_reducible repeat (first | refine blk_drewN ?_ _ | refine blk_drew ?_ | refine blk_alloc ?_ _)); exact BK337.out⟩, ⟨by (with_reducible repeat (first | refine blk_drewN ?_ _ | refine blk_drew ?_ | refine blk_alloc ?_ _)); exact BK353.out⟩, ⟨by repeat (first | (with_reducible first | exact HB.out | apply bA | apply bN | apply bD | refine below_set ?_ GE337.out | refine below_set ?_ GE353.out) | exact HB.out)⟩⟩
     case rest =>
      clear HC19
      try clear c1
      try clear c2
      try clear p2
      try clear c3
      try clear c4
      try clear c9
      try clear c9b0
      try clear c9b1
      try clear c9b2
      try clear c12
      try clear c12b0
      try clear c12b1
      try clear c12b2
      try clear c27
      try clear c29
      try clear c36
      try clear c36b0
      try clear c36b1
      try clear c36b2
      try clear hcz20_0
      try clear hcz20_1
      try clear hcz26_0
      try clear hcz26_1
      try clear hcz30_0
      try clear hcz30_1
      try clear hcz33_0
      try clear hcz33_1
      try clear hcz7_0
      try clear hcz7_1
      try clear hfz20_0
      try clear hfz20_1
      try clear hfz26_0
      try clear hfz26_1
      try clear hfz30_0
      try clear hfz30_1
      try clear hfz33_0
      try clear hfz33_1
      try clear hfz7_0
      try clear hfz7_1
      try clear p2
      obtain ⟨kq, x51_18, rfl, HA, HJ18, HO_11, HO_354001, BK337, BK353, HB⟩ := hcut
      cases kq with
      | zero => exact absurd HA.out (by simp [laws_FnExactRuleFor.j2])
      | succ kj18 =>
       have H := HA.out
       clear HA
       simp only [laws_FnExactRuleFor.j2] at H
       have HC37 := aM H
       clear H
       go_upto_if 51 with (fail)
       go_cut [] (fun wc => ∃ (kq : Nat), Aside0 (laws_FnExactRuleFor.j3 kq l1 t354 a0_0 l0_1 t349 t350 = some r) ∧ Aside0 (kq ≤ kj18) ∧ Aside0 (Kd.R k107 107 wc w.heap.size (fun _ => True) (.slice Ao34 t354.length co34) t354) ∧ Aside0 (Kd.R k38 38 wc w.heap.size (fun _ => True) (.slice Ao31 t350.length co31) t350) ∧ Aside0 (wc.heap[gb337]? = some (.cells #[.string a0_0, (.slice A0_1 l0_1.length c0_1)] 55 (0, 0))) ∧ Aside0 (wc.heap[gb353]? = some (.cells #[.string t349, (.slice Ao31 t350.length co31)] 61 (0, 0))) ∧ Aside0 (Below w.heap.size w wc))
       case first =>
        have H := HC37.out
        clear HC37
        by_cases c38 : x51_18 = true
        ·subst c38
         have H1 : (some false) = some r := by rw [if_pos rfl] at H; exact H
         clear H
         have H := H1
         clear H1
         obtain rfl := Option.some.inj H
         go_wp2
         go_ret
         exact ⟨eQ, by repeat (first | (with_reducible first | exact HB.out | apply bA | apply bN | apply bD | refine below_set ?_ GE337.out | refine below_set ?_ GE353.out) | exact HB.out)⟩
        ·replace c38 := Bool.eq_false_iff.mpr c38
         subst c38
         have H1 : (laws_FnExactRuleFor.j3 kj18 l1 t354 a0_0 l0_1 t349 t350) = some r := by rw [if_neg (show ¬ (false = true) by decide)] at H; exact H
         clear H
         have H := H1
         clear H1
         have H' := aM H
         clear H
         go_wp2
         go_meet
         case rel => exact ⟨_, H', ⟨by have := HJ4.out; have := HJ10.out; have := HJ18.out; first | omega | exact Nat.le_refl _⟩, ⟨by (with_reducible repeat (first | apply rA | apply rN | apply rD)); exact HO_11.out⟩, ⟨by (with_reducible repeat (first | apply rA | apply rN | apply rD)); exact HO_354001.out⟩, ⟨by (with_reducible repeat (first | refine blk_drewN ?_ _ | refine blk_drew ?_ | refine blk_alloc ?_ _)); exact BK337.out⟩, ⟨by (with_reducible repeat (first | refine blk_drewN ?_ _ | refine blk_drew ?_ | refine blk_alloc ?_ _)); exact BK353.out⟩, ⟨by repeat (first | (with_reducible first | exact HB.out | apply bA | apply bN | apply bD | refine below_set ?_ GE337.out | refine below_set ?_ GE353.out) | exact HB.out)⟩⟩
       case rest =>
        clear HC37
        try clear c1
        try clear c2
        try clear p2
        try clear c3
        try clear c4
        try clear c9
        try clear c9b0
        try clear c9b1
        try clear c9b2
        try clear c12
        try clear c12b0
        try clear c12b1
        try clear c12b2
        try clear c27
        try clear c29
        try clear c36
        try clear c36b0
        try clear c36b1
        try clear c36b2
        try clear c37
        try clear c38
        try clear hcz20_0
        try clear hcz20_1
        try clear hcz26_0
        try clear hcz26_1
        try clear hcz30_0
        try clear hcz30_1
        try clear hcz33_0
        try clear hcz33_1
        try clear hcz7_0
        try clear hcz7_1
        try clear hfz20_0
        try clear hfz20_1
        try clear hfz26_0
        try clear hfz26_1
        try clear hfz30_0
        try clear hfz30_1
        try clear hfz33_0
        try clear hfz33_1
        try clear hfz7_0
        try clear hfz7_1
        try clear p2
        obtain ⟨kq, HA, HJ36, HO_11, HO_354001, BK337, BK353, HB⟩ := hcut
        cases kq with
        | zero => exact absurd HA.out (by simp [laws_FnExactRuleFor.j3])
        | succ kj36 =>
         have H := HA.out
         clear HA
         simp only [laws_FnExactRuleFor.j3] at H
         replace H := Option.bind_eq_some_iff.mp H
         obtain ⟨⟨t359, t360⟩, A390, H⟩ := H
         replace H : ((laws_eqLookup.f kj36 t349 t350 t359 t360).bind fun t363 => (if t363 = true then (laws_FnExactRuleFor.j4 kj36 l1 t354) else (some false))) = some r := H
         have A39 := aM A390
         clear A390
         replace H := Option.bind_eq_some_iff.mp H
         obtain ⟨t363, A400, H⟩ := H
         replace H : (if t363 = true then (laws_FnExactRuleFor.j4 kj36 l1 t354) else (some false)) = some r := H
         have A40 := aM A400
         clear A400
         have HC41 := aM H
         clear H
         try go_wp2
         have n0_ := aM (Kd.R_drew HO_11.out)
         have n1_ := aM (Kd.R_drew HO_354001.out)
         have n2_ := aM (blk_drew BK337.out)
         have n3_ := aM (blk_drew BK353.out)
         have n4_ := aM (below_drew1 HB.out)
         clear HO_11
         clear HO_354001
         clear BK337
         clear BK353
         clear HB
         have HO_11 := n0_
         have HO_354001 := n1_
         have BK337 := n2_
         have BK353 := n3_
         have HB := n4_
         clear n0_ n1_ n2_ n3_ n4_
         refine start_ (n := 5) (S := fun w' => w'.cell? ⟨gb353, 0, none⟩ = some (.string t349) ∧ w'.cell? ⟨gb353, 1, none⟩ = some (.slice Ao31 t350.length co31) ∧ w'.cell? ⟨gb337, 0, none⟩ = some (.string a0_0) ∧ w'.cell? ⟨gb337, 1, none⟩ = some (.slice A0_1 l0_1.length c0_1)) (ds := []) mklaws_F921_0 (by kernel_rfl) rfl rfl ⟨(blk_cell BK353.out 0).trans rfl, (blk_cell BK353.out 1).trans rfl, (blk_cell BK337.out 0).trans rfl, (blk_cell BK337.out 1).trans rfl⟩ (fun hHeld => ?_)
         generalize wc.drew = w42 at HO_11 HO_354001 BK337 BK353 HB hHeld ⊢
         refine take_ (i := 0) (N := some 52) (v := ?_) (a' := ?_) mklaws_F921_1 rfl rfl (by kernel_rfl) (fun _ _ _ h => h) (Or.inl ⟨by rfl, ?_⟩) hHeld ?_ ?_
         rotate_left
         ·rintro w' ⟨s0, s1, s2, s3⟩
          go_simp
          with_reducible rfl
         rotate_left
         ·simp only [Act.put, sI, sZ, sS, i64_w, i32_w]
          rfl
         refine take_ (i := 1) (N := some 53) (v := ?_) (a' := ?_) mklaws_F921_2 rfl rfl (by kernel_rfl) (fun _ _ _ h => h) (Or.inl ⟨by rfl, ?_⟩) hHeld ?_ ?_
         rotate_left
         ·rintro w' ⟨s0, s1, s2, s3⟩
          go_simp
          with_reducible rfl
         rotate_left
         ·simp only [Act.put, sI, sZ, sS, i64_w, i32_w]
          rfl
         refine one_ (i := 2) (N := some 54) mklaws_F921_3 rfl rfl (by kernel_rfl) (by decide) (fun K hK => ?_)
         refine goes_ Try.func39 (by kernel_rfl) rfl #[.agg #[.string a0_0, .slice A0_1 l0_1.length c0_1]] (by rfl) rfl rfl gQ ?_
         with_reducible refine (laws_toLookup.calls kj36 a0_0 _ _ l0_1 t359 t360 _ ?side1 ?side2 A39.out).mono ?_
         (case side1 => exact cQ HR0_1.out)
         (case side2 => exact HC0_1.out)
         rintro e w43 ⟨v361, rfl, ho0, hb⟩
         refine ⟨_, rfl, ?_⟩
         have n0_ := aM (Kd.R_below (by (with_reducible repeat (first | apply rA | apply rN | apply rD)); exact HO_11.out) hb)
         have n1_ := aM (Kd.R_elder' (by (with_reducible repeat (first | apply rA | apply rN | apply rD)); exact HO_354001.out) (Kd.R_base ho0) hb)
         have n2_ := aM (Kd.R_lower (Kd.R_new' ho0 (Kd.R_lt (by (with_reducible repeat (first | apply rA | apply rN | apply rD)); exact HO_354001.out))) (below_size (by repeat (first | (with_reducible first | exact HB.out | apply bA | apply bN | apply bD | refine below_set ?_ GE337.out | refine below_set ?_ GE353.out) | exact HB.out))))
         have n3_ := aM (blk_below (g := gb337) (o := .cells #[.string a0_0, .slice A0_1 l0_1.length c0_1] 55 (0, 0)) (by (with_reducible repeat (first | refine blk_drewN ?_ _ | refine blk_drew ?_ | refine blk_alloc ?_ _)); exact BK337.out) hb)
         have n4_ := aM (blk_below (g := gb353) (o := .cells #[.string t349, .slice Ao31 t350.length co31] 61 (0, 0)) (by (with_reducible repeat (first | refine blk_drewN ?_ _ | refine blk_drew ?_ | refine blk_alloc ?_ _)); exact BK353.out) hb)
         have n5_ := aM (below_step (by repeat (first | (with_reducible first | exact HB.out | apply bA | apply bN | apply bD | refine below_set ?_ GE337.out | refine below_set ?_ GE353.out) | exact HB.out)) hb)
         clear HO_11
         clear HO_354001
         clear BK337
         clear BK353
         clear HB
         have HO_11 := n0_
         have HO_354001 := n1_
         have HO362 := n2_
         have BK337 := n3_
         have BK353 := n4_
         have HB := n5_
         clear n0_ n1_ n2_ n3_ n4_ n5_
         (try clear hb)
         (try clear hb2)
         (try clear hk)
         (try clear hi)
         (try clear ho0)
         obtain ⟨Ao44, co44, eo44⟩ := Kd.R_slice HO362.out
         (first | subst eo44 | (injection eo44 with f1_ f2_ f3_; have f4_ := f1_.symm; have f5_ := f3_.symm; clear f1_ f2_ f3_; subst f4_; subst f5_))
         refine hK.out _ _ ⟨(blk_cell BK353.out 0).trans rfl, (blk_cell BK353.out 1).trans rfl, (blk_cell BK337.out 0).trans rfl, (blk_cell BK337.out 1).trans rfl⟩ (fun hHeld => ?_)
         clear hK K
         refine norm_ (a' := ?_) ?_ ?_
         rotate_left
         ·show Act.put _ (some 54) _ = _
          simp only [Act.put, sI, sZ, sS, i64_w, i32_w]
          rfl
         refine one_ (i := 3) (N := some 55) mklaws_F921_4 rfl rfl (by kernel_rfl) (by decide) (fun K hK => ?_)
         refine goes_ Try.func41 (by kernel_rfl) rfl #[.agg #[.string t349, .slice Ao31 t350.length co31], .agg #[.string t359, .slice Ao44 t360.length co44]] (by rfl) rfl rfl gQ ?_
         with_reducible refine (laws_eqLookup.calls kj36 t349 _ _ t350 t359 _ _ t360 t363 _ ?side1 ?side2 ?side3 ?side4 A40.out).mono ?_
         (case side1 => repeat (first | exact (Kd.R_reads' HO_354001.out).2.2 | (with_reducible first | refine cA ?_ _ | refine cN ?_ _ | refine cD ?_)))
         (case side2 => exact (Kd.R_reads' HO_354001.out).2.1)
         (case side3 => repeat (first | exact (Kd.R_reads' HO362.out).2.2 | (with_reducible first | refine cA ?_ _ | refine cN ?_ _ | refine cD ?_)))
         (case side4 => exact (Kd.R_reads' HO362.out).2.1)
         rintro e w45 ⟨rfl, hb⟩
         refine ⟨_, rfl, ?_⟩
         have n0_ := aM (Kd.R_below (by (with_reducible repeat (first | apply rA | apply rN | apply rD)); exact HO_11.out) hb)
         have n1_ := aM (Kd.R_below (by (with_reducible repeat (first | apply rA | apply rN | apply rD)); exact HO_354001.out) hb)
         have n2_ := aM (Kd.R_below (by (with_reducible repeat (first | apply rA | apply rN | apply rD)); exact HO362.out) hb)
         have n3_ := aM (blk_below (g := gb337) (o := .cells #[.string a0_0, .slice A0_1 l0_1.length c0_1] 55 (0, 0)) (by (with_reducible repeat (first | refine blk_drewN ?_ _ | refine blk_drew ?_ | refine blk_alloc ?_ _)); exact BK337.out) hb)
         have n4_ := aM (blk_below (g := gb353) (o := .cells #[.string t349, .slice Ao31 t350.length co31] 61 (0, 0)) (by (with_reducible repeat (first | refine blk_drewN ?_ _ | refine blk_drew ?_ | refine blk_alloc ?_ _)); exact BK353.out) hb)
         have n5_ := aM (below_step (by repeat (first | (with_reducible first | exact HB.out | apply bA | apply bN | apply bD | refine below_set ?_ GE337.out | refine below_set ?_ GE353.out) | exact HB.out)) hb)
         clear HO_11
         clear HO_354001
         clear HO362
         clear BK337
         clear BK353
         clear HB
         have HO_11 := n0_
         have HO_354001 := n1_
         have HO362 := n2_
         have BK337 := n3_
         have BK353 := n4_
         have HB := n5_
         clear n0_ n1_ n2_ n3_ n4_ n5_
         (try clear hb)
         (try clear hb2)
         (try clear hk)
         (try clear hi)
         refine hK.out _ _ ⟨(blk_cell BK353.out 0).trans rfl, (blk_cell BK353.out 1).trans rfl, (blk_cell BK337.out 0).trans rfl, (blk_cell BK337.out 1).trans rfl⟩ (fun hHeld => ?_)
         clear hK K
         refine norm_ (a' := ?_) ?_ ?_
         rotate_left
         ·show Act.put _ (some 55) _ = _
          simp only [Act.put, sI, sZ, sS, i64_w, i32_w]
          rfl
         refine pure_ (i := 4) (N := some 56) (v := ?_) (a' := ?_) mklaws_F921_5 rfl rfl (by kernel_rfl) (fun _ _ _ h => h) (Or.inl ⟨by rfl, ?_⟩) ?_ ?_
         rotate_left
         ·intro w'
          go_simp
          with_reducible rfl
         rotate_left
         ·simp only [Act.put, sI, sZ, sS, i64_w, i32_w]
          rfl
         refine done_ (by kernel_rfl) ?_
         go_upto_if 56 with (fail)
         go_cut [] (fun wc => ∃ (kq : Nat), Aside0 (laws_FnExactRuleFor.j4 kq l1 t354 = some r) ∧ Aside0 (kq ≤ kj36) ∧ Aside0 (Kd.R k107 107 wc w.heap.size (fun _ => True) (.slice Ao34 t354.length co34) t354) ∧ Aside0 (Kd.R k38 38 wc w.heap.size (fun _ => True) (.slice Ao31 t350.length co31) t350) ∧ Aside0 (wc.heap[gb337]? = some (.cells #[.string a0_0, (.slice A0_1 l0_1.length c0_1)] 55 (0, 0))) ∧ Aside0 (wc.heap[gb353]? = some (.cells #[.string t349, (.slice Ao31 t350.length co31)] 61 (0, 0))) ∧ Aside0 (Below w.heap.size w wc))
         case first =>
          have H := HC41.out
          clear HC41
          by_cases c46 : t363 = true
          ·subst c46
           have H1 : (laws_FnExactRuleFor.j4 kj36 l1 t354) = some r := by rw [if_pos rfl] at H; exact H
           clear H
           have H := H1
           clear H1
           have H' := aM H
           clear H
           go_wp2
           go_meet
           case rel => exact ⟨_, H', ⟨by have := HJ4.out; have := HJ10.out; have := HJ18.out; have := HJ36.out; first | omega | exact Nat.le_refl _⟩, ⟨by (with_reducible repeat (first | apply rA | apply rN | apply rD)); exact HO_11.out⟩, ⟨by (with_reducible repeat (first | apply rA | apply rN | apply rD)); exact Kd.R_mono HO_354001.out (fun _ hk => trivial)⟩, ⟨by (with_reducible repeat (first | refine blk_drewN ?_ _ | refine blk_drew ?_ | refine blk_alloc ?_ _)); exact BK337.out⟩, ⟨by (with_reducible repeat (first | refine blk_drewN ?_ _ | refine blk_drew ?_ | refine blk_alloc ?_ _)); exact BK353.out⟩, ⟨by repeat (first | (with_reducible first | exact HB.out | apply bA | apply bN | apply bD | refine below_set ?_ GE337.out | refine below_set ?_ GE353.out) | exact HB.out)⟩⟩
          ·replace c46 := Bool.eq_false_iff.mpr c46
           subst c46
           have H1 : (some false) = some r := by rw [if_neg (show ¬ (false = true) by decide)] at H; exact H
           clear H
           have H := H1
           clear H1
           obtain rfl := Option.some.inj H
           go_wp2
           go_ret
           exact ⟨eQ, by repeat (first | (with_reducible first | exact HB.out | apply bA | apply bN | apply bD | refine below_set ?_ GE337.out | refine below_set ?_ GE353.out) | exact HB.out)⟩
         case rest =>
          clear HC41
          try clear c1
          try clear c2
          try clear p2
          try clear c3
          try clear c4
          try clear c9
          try clear c9b0
          try clear c9b1
          try clear c9b2
          try clear c12
          try clear c12b0
          try clear c12b1
          try clear c12b2
          try clear c27
          try clear c29
          try clear c36
          try clear c36b0
          try clear c36b1
          try clear c36b2
          try clear c37
          try clear c38
          try clear c39
          try clear c40
          try clear c41
          try clear c46
          try clear hcz20_0
          try clear hcz20_1
          try clear hcz26_0
          try clear hcz26_1
          try clear hcz30_0
          try clear hcz30_1
          try clear hcz33_0
          try clear hcz33_1
          try clear hcz7_0
          try clear hcz7_1
          try clear hfz20_0
          try clear hfz20_1
          try clear hfz26_0
          try clear hfz26_1
          try clear hfz30_0
          try clear hfz30_1
          try clear hfz33_0
          try clear hfz33_1
          try clear hfz7_0
          try clear hfz7_1
          try clear p2
          obtain ⟨kq, HA, HJ40, HO_11, HO_354001, BK337, BK353, HB⟩ := hcut
          cases kq with
          | zero => exact absurd HA.out (by simp [laws_FnExactRuleFor.j4])
          | succ kj40 =>
           have H := HA.out
           clear HA
           simp only [laws_FnExactRuleFor.j4] at H
           replace H := Option.bind_eq_some_iff.mp H
           obtain ⟨t364, A470, H⟩ := H
           replace H : ((laws_eqItemS.f kj40 t354 t364).bind fun t367 => (if t367 = true then (some true) else (some false))) = some r := H
           have A47 := aM A470
           clear A470
           replace H := Option.bind_eq_some_iff.mp H
           obtain ⟨t367, A480, H⟩ := H
           replace H : (if t367 = true then (some true) else (some false)) = some r := H
           have A48 := aM A480
           clear A480
           by_cases c49 : t367 = true
           ·subst c49
            have H1 : (some true) = some r := by rw [if_pos rfl] at H; exact H
            clear H
            have H := H1
            clear H1
            obtain rfl := Option.some.inj H
            go_wp2_with (first | ((with_reducible refine gate_callee (f := 29) rfl ?_); refine goesL_ (some 59) rfl rfl Try.func29 (by kernel_rfl) rfl #[.slice A1 l1.length c1] rfl gQ ?_; (with_reducible refine (laws_toItemS.calls kj40 _ _ l1 t364 _ ?side1 ?side2 A47.out).mono ?_); (case side1 => exact cQ HR1.out); (case side2 => exact HC1.out); rintro e w50 ⟨v365, rfl, ho0, hb⟩; refine ⟨_, rfl, ?_⟩; have n0_ := aM (Kd.R_elder' (by (with_reducible repeat (first | apply rA | apply rN | apply rD)); exact HO_11.out) (Kd.R_base ho0) hb); have n1_ := aM (Kd.R_below (by (with_reducible repeat (first | apply rA | apply rN | apply rD)); exact HO_354001.out) hb); have n2_ := aM (Kd.R_lower (Kd.R_new' ho0 (Kd.R_lt (by (with_reducible repeat (first | apply rA | apply rN | apply rD)); exact HO_11.out))) (below_size (by repeat (first | (with_reducible first | exact HB.out | apply bA | apply bN | apply bD | refine below_set ?_ GE337.out | refine below_set ?_ GE353.out) | exact HB.out)))); have n3_ := aM (blk_below (g := gb337) (o := .cells #[.string a0_0, .slice A0_1 l0_1.length c0_1] 55 (0, 0)) (by (with_reducible repeat (first | refine blk_drewN ?_ _ | refine blk_drew ?_ | refine blk_alloc ?_ _)); exact BK337.out) hb); have n4_ := aM (blk_below (g := gb353) (o := .cells #[.string t349, .slice Ao31 t350.length co31] 61 (0, 0)) (by (with_reducible repeat (first | refine blk_drewN ?_ _ | refine blk_drew ?_ | refine blk_alloc ?_ _)); exact BK353.out) hb); have n5_ := aM (below_step (by repeat (first | (with_reducible first | exact HB.out | apply bA | apply bN | apply bD | refine below_set ?_ GE337.out | refine below_set ?_ GE353.out) | exact HB.out)) hb); clear HO_11; clear HO_354001; clear BK337; clear BK353; clear HB; have HO_11 := n0_; have HO_354001 := n1_; have HO366 := n2_; have BK337 := n3_; have BK353 := n4_; have HB := n5_; clear n0_ n1_ n2_ n3_ n4_ n5_; (try clear hb); (try clear hb2); (try clear hk); (try clear hi); (try clear ho0); obtain ⟨Ao51, co51, eo51⟩ := Kd.R_slice HO366.out; subst eo51) | ((with_reducible refine gate_callee (f := 31) rfl ?_); refine goesL_ (some 60) rfl rfl Try.func31 (by kernel_rfl) rfl #[.slice Ao34 t354.length co34, .slice Ao51 t364.length co51] rfl gQ ?_; (with_reducible refine (laws_eqItemS.calls kj40 _ _ t354 _ _ t364 true _ ?side1 ?side2 ?side3 ?side4 A48.out).mono ?_); (case side1 => repeat (first | exact (Kd.R_reads' HO_11.out).2.2 | (with_reducible first | refine cA ?_ _ | refine cN ?_ _ | refine cD ?_))); (case side2 => exact (Kd.R_reads' HO_11.out).2.1); (case side3 => repeat (first | exact (Kd.R_reads' HO366.out).2.2 | (with_reducible first | refine cA ?_ _ | refine cN ?_ _ | refine cD ?_))); (case side4 => exact (Kd.R_reads' HO366.out).2.1); rintro e w52 ⟨rfl, hb⟩; refine ⟨_, rfl, ?_⟩; have n0_ := aM (Kd.R_below (by (with_reducible repeat (first | apply rA | apply rN | apply rD)); exact HO_11.out) hb); have n1_ := aM (Kd.R_below (by (with_reducible repeat (first | apply rA | apply rN | apply rD)); exact HO_354001.out) hb); have n2_ := aM (Kd.R_below (by (with_reducible repeat (first | apply rA | apply rN | apply rD)); exact HO366.out) hb); have n3_ := aM (blk_below (g := gb337) (o := .cells #[.string a0_0, .slice A0_1 l0_1.length c0_1] 55 (0, 0)) (by (with_reducible repeat (first | refine blk_drewN ?_ _ | refine blk_drew ?_ | refine blk_alloc ?_ _)); exact BK337.out) hb); have n4_ := aM (blk_below (g := gb353) (o := .cells #[.string t349, .slice Ao31 t350.length co31] 61 (0, 0)) (by (with_reducible repeat (first | refine blk_drewN ?_ _ | refine blk_drew ?_ | refine blk_alloc ?_ _)); exact BK353.out) hb); have n5_ := aM (below_step (by repeat (first | (with_reducible first | exact HB.out | apply bA | apply bN | apply bD | refine below_set ?_ GE337.out | refine below_set ?_ GE353.out) | exact HB.out)) hb); clear HO_11; clear HO_354001; clear HO366; clear BK337; clear BK353; clear HB; have HO_11 := n0_; have HO_354001 := n1_; have HO366 := n2_; have BK337 := n3_; have BK353 := n4_; have HB := n5_; clear n0_ n1_ n2_ n3_ n4_ n5_; (try clear hb); (try clear hb2); (try clear hk); (try clear hi)))
            go_ret
            exact ⟨eQ, by repeat (first | (with_reducible first | exact HB.out | apply bA | apply bN | apply bD | refine below_set ?_ GE337.out | refine below_set ?_ GE353.out) | exact HB.out)⟩
           ·replace c49 := Bool.eq_false_iff.mpr c49
            subst c49
            have H1 : (some false) = some r := by rw [if_neg (show ¬ (false = true) by decide)] at H; exact H
            clear H
            have H := H1
            clear H1
            obtain rfl := Option.some.inj H
            go_wp2_with (first | ((with_reducible refine gate_callee (f := 29) rfl ?_); refine goesL_ (some 59) rfl rfl Try.func29 (by kernel_rfl) rfl #[.slice A1 l1.length c1] rfl gQ ?_; (with_reducible refine (laws_toItemS.calls kj40 _ _ l1 t364 _ ?side1 ?side2 A47.out).mono ?_); (case side1 => exact cQ HR1.out); (case side2 => exact HC1.out); rintro e w53 ⟨v365, rfl, ho0, hb⟩; refine ⟨_, rfl, ?_⟩; have n0_ := aM (Kd.R_elder' (by (with_reducible repeat (first | apply rA | apply rN | apply rD)); exact HO_11.out) (Kd.R_base ho0) hb); have n1_ := aM (Kd.R_below (by (with_reducible repeat (first | apply rA | apply rN | apply rD)); exact HO_354001.out) hb); have n2_ := aM (Kd.R_lower (Kd.R_new' ho0 (Kd.R_lt (by (with_reducible repeat (first | apply rA | apply rN | apply rD)); exact HO_11.out))) (below_size (by repeat (first | (with_reducible first | exact HB.out | apply bA | apply bN | apply bD | refine below_set ?_ GE337.out | refine below_set ?_ GE353.out) | exact HB.out)))); have n3_ := aM (blk_below (g := gb337) (o := .cells #[.string a0_0, .slice A0_1 l0_1.length c0_1] 55 (0, 0)) (by (with_reducible repeat (first | refine blk_drewN ?_ _ | refine blk_drew ?_ | refine blk_alloc ?_ _)); exact BK337.out) hb); have n4_ := aM (blk_below (g := gb353) (o := .cells #[.string t349, .slice Ao31 t350.length co31] 61 (0, 0)) (by (with_reducible repeat (first | refine blk_drewN ?_ _ | refine blk_drew ?_ | refine blk_alloc ?_ _)); exact BK353.out) hb); have n5_ := aM (below_step (by repeat (first | (with_reducible first | exact HB.out | apply bA | apply bN | apply bD | refine below_set ?_ GE337.out | refine below_set ?_ GE353.out) | exact HB.out)) hb); clear HO_11; clear HO_354001; clear BK337; clear BK353; clear HB; have HO_11 := n0_; have HO_354001 := n1_; have HO366 := n2_; have BK337 := n3_; have BK353 := n4_; have HB := n5_; clear n0_ n1_ n2_ n3_ n4_ n5_; (try clear hb); (try clear hb2); (try clear hk); (try clear hi); (try clear ho0); obtain ⟨Ao54, co54, eo54⟩ := Kd.R_slice HO366.out; subst eo54) | ((with_reducible refine gate_callee (f := 31) rfl ?_); refine goesL_ (some 60) rfl rfl Try.func31 (by kernel_rfl) rfl #[.slice Ao34 t354.length co34, .slice Ao54 t364.length co54] rfl gQ ?_; (with_reducible refine (laws_eqItemS.calls kj40 _ _ t354 _ _ t364 false _ ?side1 ?side2 ?side3 ?side4 A48.out).mono ?_); (case side1 => repeat (first | exact (Kd.R_reads' HO_11.out).2.2 | (with_reducible first | refine cA ?_ _ | refine cN ?_ _ | refine cD ?_))); (case side2 => exact (Kd.R_reads' HO_11.out).2.1); (case side3 => repeat (first | exact (Kd.R_reads' HO366.out).2.2 | (with_reducible first | refine cA ?_ _ | refine cN ?_ _ | refine cD ?_))); (case side4 => exact (Kd.R_reads' HO366.out).2.1); rintro e w55 ⟨rfl, hb⟩; refine ⟨_, rfl, ?_⟩; have n0_ := aM (Kd.R_below (by (with_reducible repeat (first | apply rA | apply rN | apply rD)); exact HO_11.out) hb); have n1_ := aM (Kd.R_below (by (with_reducible repeat (first | apply rA | apply rN | apply rD)); exact HO_354001.out) hb); have n2_ := aM (Kd.R_below (by (with_reducible repeat (first | apply rA | apply rN | apply rD)); exact HO366.out) hb); have n3_ := aM (blk_below (g := gb337) (o := .cells #[.string a0_0, .slice A0_1 l0_1.length c0_1] 55 (0, 0)) (by (with_reducible repeat (first | refine blk_drewN ?_ _ | refine blk_drew ?_ | refine blk_alloc ?_ _)); exact BK337.out) hb); have n4_ := aM (blk_below (g := gb353) (o := .cells #[.string t349, .slice Ao31 t350.length co31] 61 (0, 0)) (by (with_reducible repeat (first | refine blk_drewN ?_ _ | refine blk_drew ?_ | refine blk_alloc ?_ _)); exact BK353.out) hb); have n5_ := aM (below_step (by repeat (first | (with_reducible first | exact HB.out | apply bA | apply bN | apply bD | refine below_set ?_ GE337.out | refine below_set ?_ GE353.out) | exact HB.out)) hb); clear HO_11; clear HO_354001; clear HO366; clear BK337; clear BK353; clear HB; have HO_11 := n0_; have HO_354001 := n1_; have HO366 := n2_; have BK337 := n3_; have BK353 := n4_; have HB := n5_; clear n0_ n1_ n2_ n3_ n4_ n5_; (try clear hb); (try clear hb2); (try clear hk); (try clear hi)))
            go_ret
            exact ⟨eQ, by repeat (first | (with_reducible first | exact HB.out | apply bA | apply bN | apply bD | refine below_set ?_ GE337.out | refine below_set ?_ GE353.out) | exact HB.out)⟩

end Go.Proofs.Ytdahcapolipnbaa.QFnExactRuleFor
