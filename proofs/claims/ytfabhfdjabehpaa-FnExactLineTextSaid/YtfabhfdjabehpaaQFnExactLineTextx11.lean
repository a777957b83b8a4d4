/- What some Go functions answer, each as a Lean function, and that the machine answers so: written by a program of this session out of the translation. -/
import Derived.Test.YtfabhfdjabehpaaQFnExactLineTextx0
import Derived.Test.YtfabhfdjabehpaaQFnExactLineTextx1
import Derived.Test.YtfabhfdjabehpaaQFnExactLineTextx5
import Derived.Test.YtfabhfdjabehpaaQFnExactLineTextx9
import Derived.Test.YtfabhfdjabehpaaQFnExactLineTextx10
namespace Go.Proofs.Ytfabhfdjabehpaa.QFnExactLineText
open Go.RowKit Go.Proofs.YtfabhfdjabehpaaW.PrintWords Go.Proofs.YtfabhfdjabehpaaW.PrintLast Go.Proofs.YtfabhfdjabehpaaW.PrintMore Go.Proofs.Ytfabhfdjabehpaa.Rp
attribute [local go_sem] max2_int min2_int max_two min_two max_three min_three max_four min_four   -- for this text's walks alone
set_option linter.unusedVariables false
set_option linter.unusedSimpArgs false

/-! ### laws_FnExactLineText: function 4 -/
mutual
abbrev mklaws_F34_0 : Array Bool := #[ff,ff,ff,ff,ff]
abbrev mklaws_F34_1 : Array Bool := #[tt,ff,ff,ff,ff]
abbrev mklaws_F34_2 : Array Bool := #[tt,tt,ff,ff,ff]
abbrev mklaws_F34_3 : Array Bool := #[tt,tt,tt,ff,ff]
abbrev mklaws_F34_4 : Array Bool := #[tt,tt,tt,tt,ff]
abbrev mklaws_F34_5 : Array Bool := #[tt,tt,tt,tt,tt]
def laws_FnExactLineText.j0 : Nat → Int → ByteArray → List ByteArray → List ByteArray → List ByteArray → List ByteArray → Int → Option (Bool)
 | 0, _, _, _, _, _, _, _ => none
 | k + 1, x378000, x378001, x378002, x378003, x378004, x378005, x378006 => (laws_toFeatureLine.f k x378000 x378001 x378002 x378003 x378004 x378005 x378006).bind fun bt379 => ((spec_LineText.f k bt379.1 bt379.2.1 bt379.2.2.1 bt379.2.2.2.1 bt379.2.2.2.2.1 bt379.2.2.2.2.2.1 bt379.2.2.2.2.2.2).bind fun t394 => ((laws_toFeatureLine.f k x378000 x378001 x378002 x378003 x378004 x378005 x378006).bind fun bt395 => ((impl_LineText.f k bt395.1 bt395.2.1 bt395.2.2.1 bt395.2.2.2.1 bt395.2.2.2.2.1 bt395.2.2.2.2.2.1 bt395.2.2.2.2.2.2).bind fun t411 => (if t411.toList = t394.toList then (laws_FnExactLineText.j1 k x378000 x378001 x378002 x378003 x378004 x378005 x378006 bt395.1 bt395.2.1 bt395.2.2.1 bt395.2.2.2.1 bt395.2.2.2.2.1 bt395.2.2.2.2.2.1 bt395.2.2.2.2.2.2) else (some false)))))
def laws_FnExactLineText.j1 : Nat → Int → ByteArray → List ByteArray → List ByteArray → List ByteArray → List ByteArray → Int → Int → ByteArray → List ByteArray → List ByteArray → List ByteArray → List ByteArray → Int → Option (Bool)
 | 0, _, _, _, _, _, _, _, _, _, _, _, _, _, _ => none
 | k + 1, x378000, x378001, x378002, x378003, x378004, x378005, x378006, x411000, x411001, x411002, x411003, x411004, x411005, x411006 => (laws_toFeatureLine.f k x378000 x378001 x378002 x378003 x378004 x378005 x378006).bind fun bt412 => ((laws_eqFeatureLine.f k x411000 x411001 x411002 x411003 x411004 x411005 x411006 bt412.1 bt412.2.1 bt412.2.2.1 bt412.2.2.2.1 bt412.2.2.2.2.1 bt412.2.2.2.2.2.1 bt412.2.2.2.2.2.2).bind fun t427 => (if t427 = true then (some true) else (some false)))
end
def laws_FnExactLineText.f (k : Nat) (a0_0 : Int) (a0_1 : ByteArray) (l0_2 : List ByteArray) (l0_3 : List ByteArray) (l0_4 : List ByteArray) (l0_5 : List ByteArray) (a0_6 : Int) : Option (Bool) := (laws_szFeatureLine.f k a0_0 a0_1 l0_2 l0_3 l0_4 l0_5 a0_6 1048576).bind fun t378 => (if t378 < 0 then (some true) else (laws_FnExactLineText.j0 k a0_0 a0_1 l0_2 l0_3 l0_4 l0_5 a0_6))
theorem laws_FnExactLineText.mono_l : ∀ k, (∀ y0 y1 y2 y3 y4 y5 y6, LeO (laws_FnExactLineText.j0 k y0 y1 y2 y3 y4 y5 y6) (laws_FnExactLineText.j0 (k + 1) y0 y1 y2 y3 y4 y5 y6)) ∧ (∀ y0 y1 y2 y3 y4 y5 y6 y7 y8 y9 y10 y11 y12 y13, LeO (laws_FnExactLineText.j1 k y0 y1 y2 y3 y4 y5 y6 y7 y8 y9 y10 y11 y12 y13) (laws_FnExactLineText.j1 (k + 1) y0 y1 y2 y3 y4 y5 y6 y7 y8 y9 y10 y11 y12 y13))
 | 0 => ⟨fun _ _ _ _ _ _ _ r h => by simp [laws_FnExactLineText.j0] at h, fun _ _ _ _ _ _ _ _ _ _ _ _ _ _ r h => by simp [laws_FnExactLineText.j1] at h⟩
 | k + 1 => by
  obtain ⟨ih0, ih1⟩ := laws_FnExactLineText.mono_l k
  refine ⟨?_, ?_⟩
  ·intro y0 y1 y2 y3 y4 y5 y6
   unfold laws_FnExactLineText.j0
   repeat' first
   | (with_reducible exact ih0 _ _ _ _ _ _ _)
   | (with_reducible exact ih1 _ _ _ _ _ _ _ _ _ _ _ _ _ _)
   | (with_reducible exact impl_LineText.mono _ _ _ _ _ _ _ _)
   | (with_reducible exact laws_eqFeatureLine.mono _ _ _ _ _ _ _ _ _ _ _ _ _ _ _)
   | (with_reducible exact laws_szFeatureLine.mono _ _ _ _ _ _ _ _ _)
   | (with_reducible exact laws_toFeatureLine.mono _ _ _ _ _ _ _ _)
   | (with_reducible exact spec_LineText.mono _ _ _ _ _ _ _ _)
   | (with_reducible exact LeO.refl _)
   | (with_reducible exact LeO.none _)
   | (with_reducible refine LeO.ite ?_ ?_)
   | (with_reducible refine LeO.bind ?_ (fun _ => ?_))
   | exact ih0 _ _ _ _ _ _ _
   | exact ih1 _ _ _ _ _ _ _ _ _ _ _ _ _ _
   | exact impl_LineText.mono _ _ _ _ _ _ _ _
   | exact laws_eqFeatureLine.mono _ _ _ _ _ _ _ _ _ _ _ _ _ _ _
   | exact laws_szFeatureLine.mono _ _ _ _ _ _ _ _ _
   | exact laws_toFeatureLine.mono _ _ _ _ _ _ _ _
   | exact spec_LineText.mono _ _ _ _ _ _ _ _
   | exact LeO.none _
   | refine LeO.ite ?_ ?_
   | refine LeO.bind ?_ (fun _ => ?_)
  ·intro y0 y1 y2 y3 y4 y5 y6 y7 y8 y9 y10 y11 y12 y13
   unfold laws_FnExactLineText.j1
   repeat' first
   | (with_reducible exact ih0 _ _ _ _ _ _ _)
   | (with_reducible exact ih1 _ _ _ _ _ _ _ _ _ _ _ _ _ _)
   | (with_reducible exact impl_LineText.mono _ _ _ _ _ _ _ _)
   | (with_reducible exact laws_eqFeatureLine.mono _ _ _ _ _ _ _ _ _ _ _ _ _ _ _)
   | (with_reducible exact laws_szFeatureLine.mono _ _ _ _ _ _ _ _ _)
   | (with_reducible exact laws_toFeatureLine.mono _ _ _ _ _ _ _ _)
   | (with_reducible exact spec_LineText.mono _ _ _ _ _ _ _ _)
   | (with_reducible exact LeO.refl _)
   | (with_reducible exact LeO.none _)
   | (with_reducible refine LeO.ite ?_ ?_)
   | (with_reducible refine LeO.bind ?_ (fun _ => ?_))
   | exact ih0 _ _ _ _ _ _ _
   | exact ih1 _ _ _ _ _ _ _ _ _ _ _ _ _ _
   | exact impl_LineText.mono _ _ _ _ _ _ _ _
   | exact laws_eqFeatureLine.mono _ _ _ _ _ _ _ _ _ _ _ _ _ _ _
   | exact laws_szFeatureLine.mono _ _ _ _ _ _ _ _ _
   | exact laws_toFeatureLine.mono _ _ _ _ _ _ _ _
   | exact spec_LineText.mono _ _ _ _ _ _ _ _
   | exact LeO.none _
   | refine LeO.ite ?_ ?_
   | refine LeO.bind ?_ (fun _ => ?_)
theorem laws_FnExactLineText.mono : ∀ a0 a1 a2 a3 a4 a5 a6 k, LeO (laws_FnExactLineText.f k a0 a1 a2 a3 a4 a5 a6) (laws_FnExactLineText.f (k + 1) a0 a1 a2 a3 a4 a5 a6) := by
 intro a0 a1 a2 a3 a4 a5 a6 k
 obtain ⟨ih0, ih1⟩ := laws_FnExactLineText.mono_l k
 unfold laws_FnExactLineText.f
 repeat' first
   | (with_reducible exact ih0 _ _ _ _ _ _ _)
   | (with_reducible exact ih1 _ _ _ _ _ _ _ _ _ _ _ _ _ _)
   | (with_reducible exact impl_LineText.mono _ _ _ _ _ _ _ _)
   | (with_reducible exact laws_eqFeatureLine.mono _ _ _ _ _ _ _ _ _ _ _ _ _ _ _)
   | (with_reducible exact laws_szFeatureLine.mono _ _ _ _ _ _ _ _ _)
   | (with_reducible exact laws_toFeatureLine.mono _ _ _ _ _ _ _ _)
   | (with_reducible exact spec_LineText.mono _ _ _ _ _ _ _ _)
   | (with_reducible exact LeO.refl _)
   | (with_reducible exact LeO.none _)
   | (with_reducible refine LeO.ite ?_ ?_)
   | (with_reducible refine LeO.bind ?_ (fun _ => ?_))
   | exact ih0 _ _ _ _ _ _ _
   | exact ih1 _ _ _ _ _ _ _ _ _ _ _ _ _ _
   | exact impl_LineText.mono _ _ _ _ _ _ _ _
   | exact laws_eqFeatureLine.mono _ _ _ _ _ _ _ _ _ _ _ _ _ _ _
   | exact laws_szFeatureLine.mono _ _ _ _ _ _ _ _ _
   | exact laws_toFeatureLine.mono _ _ _ _ _ _ _ _
   | exact spec_LineText.mono _ _ _ _ _ _ _ _
   | exact LeO.none _
   | refine LeO.ite ?_ ?_
   | refine LeO.bind ?_ (fun _ => ?_)
set_option maxHeartbeats 8000000 in
set_option maxRecDepth 100000 in
theorem laws_FnExactLineText.calls (k : Nat) (a0_0 : Int) (a0_1 : ByteArray) (A0_2 : Option Addr) (c0_2 : Nat) (l0_2 : List ByteArray) (A0_3 : Option Addr) (c0_3 : Nat) (l0_3 : List ByteArray) (A0_4 : Option Addr) (c0_4 : Nat) (l0_4 : List ByteArray) (A0_5 : Option Addr) (c0_5 : Nat) (l0_5 : List ByteArray) (a0_6 : Int) (r : Bool) (w : World) (hr0_2 : Kd.C Kd.string w A0_2 l0_2.length l0_2) (hc0_2 : l0_2.length ≤ c0_2) (hr0_3 : Kd.C Kd.string w A0_3 l0_3.length l0_3) (hc0_3 : l0_3.length ≤ c0_3) (hr0_4 : Kd.C Kd.string w A0_4 l0_4.length l0_4) (hc0_4 : l0_4.length ≤ c0_4) (hr0_5 : Kd.C Kd.string w A0_5 l0_5.length l0_5) (hc0_5 : l0_5.length ≤ c0_5) (h : laws_FnExactLineText.f k a0_0 a0_1 l0_2 l0_3 l0_4 l0_5 a0_6 = some r) :
  Calls Try.prog 4 #[.agg #[.int .i64 a0_0, .string a0_1, .slice A0_2 l0_2.length c0_2, .slice A0_3 l0_3.length c0_3, .slice A0_4 l0_4.length c0_4, .slice A0_5 l0_5.length c0_5, .int .i64 a0_6]] w fun e w' => e = .returned (.bool r) ∧ Below w.heap.size w w' := by
 have hu36 := Try.underlying36
 have hu39 := Try.underlying39
 have HR0_2 := aM hr0_2
 have HC0_2 := aM hc0_2
 clear hr0_2 hc0_2
 have HR0_3 := aM hr0_3
 have HC0_3 := aM hc0_3
 clear hr0_3 hc0_3
 have HR0_4 := aM hr0_4
 have HC0_4 := aM hc0_4
 clear hr0_4 hc0_4
 have HR0_5 := aM hr0_5
 have HC0_5 := aM hc0_5
 clear hr0_5 hc0_5
 have HB := aM (Below.refl w.heap.size w)
 have H : ((laws_szFeatureLine.f k a0_0 a0_1 l0_2 l0_3 l0_4 l0_5 a0_6 1048576).bind fun t378 => (if t378 < 0 then (some true) else (laws_FnExactLineText.j0 k a0_0 a0_1 l0_2 l0_3 l0_4 l0_5 a0_6))) = some r := h
 clear h
 replace H := Option.bind_eq_some_iff.mp H
 obtain ⟨t378, A20, H⟩ := H
 replace H : (if t378 < 0 then (some true) else (laws_FnExactLineText.j0 k a0_0 a0_1 l0_2 l0_3 l0_4 l0_5 a0_6)) = some r := H
 have A2 := aM A20
 clear A20
 have HC3 := aM H
 clear H
 go_enter Try.func4, Try.ntmps4
 go_upto_if 11 with (first | ((with_reducible refine gate_dst (N := 1) rfl ?_); refine box_event ?hg (N := 1) ?hd (cs := #[.int .i64 a0_0, .string a0_1, .slice A0_2 l0_2.length c0_2, .slice A0_3 l0_3.length c0_3, .slice A0_4 l0_4.length c0_4, .slice A0_5 l0_5.length c0_5, .int .i64 a0_6]) (t := 36) ?hr ?_; (case hd => rfl); (case hg => rfl); (case hr => first | (go_simp; done) | (go_simp; rfl)); intro gb377 hg w4 hbox hb; have n0_ := aM (below_step bQ hb); have n1_ := aM (hbox); have n2_ := aM ((by rw [hg]; exact (below_size bQ) : w.heap.size ≤ gb377)); have n3_ := aM ((by rw [hg]; exact (below_size bQ) : w.heap.size ≤ gb377)); clear HB; have HB := n0_; have BK377 := n1_; have GW377 := n2_; have GE377 := n3_; clear n0_ n1_ n2_ n3_; clear hb hbox hg; have hcz5_0 : w4.cell? ⟨gb377, 0, none⟩ = some (.int .i64 a0_0) := (blk_cell BK377.out 0).trans rfl; have hcz5_1 : w4.cell? ⟨gb377, 1, none⟩ = some (.string a0_1) := (blk_cell BK377.out 1).trans rfl; have hcz5_2 : w4.cell? ⟨gb377, 2, none⟩ = some (.slice A0_2 l0_2.length c0_2) := (blk_cell BK377.out 2).trans rfl; have hcz5_3 : w4.cell? ⟨gb377, 3, none⟩ = some (.slice A0_3 l0_3.length c0_3) := (blk_cell BK377.out 3).trans rfl; have hcz5_4 : w4.cell? ⟨gb377, 4, none⟩ = some (.slice A0_4 l0_4.length c0_4) := (blk_cell BK377.out 4).trans rfl; have hcz5_5 : w4.cell? ⟨gb377, 5, none⟩ = some (.slice A0_5 l0_5.length c0_5) := (blk_cell BK377.out 5).trans rfl; have hcz5_6 : w4.cell? ⟨gb377, 6, none⟩ = some (.int .i64 a0_6) := (blk_cell BK377.out 6).trans rfl; have hfz5_0 := blk_frozen BK377.out 0; have hfz5_1 := blk_frozen BK377.out 1; have hfz5_2 := blk_frozen BK377.out 2; have hfz5_3 := blk_frozen BK377.out 3; have hfz5_4 := blk_frozen BK377.out 4; have hfz5_5 := blk_frozen BK377.out 5; have hfz5_6 := blk_frozen BK377.out 6) | ((with_reducible refine gate_callee (f := 16) rfl ?_); refine goesL_ (some 9) rfl rfl Try.func16 (by kernel_rfl) rfl #[.agg #[.int .i64 a0_0, .string a0_1, .slice A0_2 l0_2.length c0_2, .slice A0_3 l0_3.length c0_3, .slice A0_4 l0_4.length c0_4, .slice A0_5 l0_5.length c0_5, .int .i64 a0_6], .int .i64 1048576] rfl gQ ?_; (with_reducible refine (laws_szFeatureLine.calls k a0_0 a0_1 _ _ l0_2 _ _ l0_3 _ _ l0_4 _ _ l0_5 a0_6 1048576 t378 _ ?side1 ?side2 ?side3 ?side4 ?side5 ?side6 ?side7 ?side8 A2.out).mono ?_); (case side1 => exact cQ HR0_2.out); (case side2 => exact HC0_2.out); (case side3 => exact cQ HR0_3.out); (case side4 => exact HC0_3.out); (case side5 => exact cQ HR0_4.out); (case side6 => exact HC0_4.out); (case side7 => exact cQ HR0_5.out); (case side8 => exact HC0_5.out); rintro e w6 ⟨rfl, hb⟩; refine ⟨_, rfl, ?_⟩; have n0_ := aM (blk_below (g := gb377) (o := .cells #[.int .i64 a0_0, .string a0_1, .slice A0_2 l0_2.length c0_2, .slice A0_3 l0_3.length c0_3, .slice A0_4 l0_4.length c0_4, .slice A0_5 l0_5.length c0_5, .int .i64 a0_6] 36 (0, 0)) (by (with_reducible repeat (first | refine blk_drewN ?_ _ | refine blk_drew ?_ | refine blk_alloc ?_ _)); exact BK377.out) hb); have n1_ := aM (below_step (by repeat (first | (with_reducible first | exact HB.out | apply bA | apply bN | apply bD | refine below_set ?_ GE377.out) | exact HB.out)) hb); clear BK377; clear HB; have BK377 := n0_; have HB := n1_; clear n0_ n1_; (try clear hb); (try clear hb2); (try clear hk); (try clear hi)))
 (try simp only [Act.put, sI, sZ, sS])
 go_cut [] (fun wc => ∃ (kq : Nat), Aside0 (laws_FnExactLineText.j0 kq a0_0 a0_1 l0_2 l0_3 l0_4 l0_5 a0_6 = some r) ∧ Aside0 (kq ≤ k) ∧ Aside0 (wc.heap[gb377]? = some (.cells #[.int .i64 a0_0, .string a0_1, (.slice A0_2 l0_2.length c0_2), (.slice A0_3 l0_3.length c0_3), (.slice A0_4 l0_4.length c0_4), (.slice A0_5 l0_5.length c0_5), .int .i64 a0_6] 36 (0, 0))) ∧ Aside0 (Below w.heap.size w wc))
 case first =>
  have H := HC3.out
  clear HC3
  by_cases c7 : t378 < 0
  ·rw [if_pos c7] at H
   have c7b0 : decide (t378 < 0) = true := decide_eq_true c7
   clear c7
   (first | rw [c7b0] | (simp only [i64_w, i32_w]; rw [c7b0]) | rw [c7b1] | rw [c7b2] | rw [c7b3] | rw [c7b4] | skip)
   obtain rfl := Option.some.inj H
   go_wp2
   go_ret
   exact ⟨eQ, by repeat (first | (with_reducible first | exact HB.out | apply bA | apply bN | apply bD | refine below_set ?_ GE377.out) | exact HB.out)⟩
  ·rw [if_neg c7] at H
   have c7b0 : decide (t378 < 0) = false := decide_eq_false c7
   clear c7
   (first | rw [c7b0] | (simp only [i64_w, i32_w]; rw [c7b0]) | rw [c7b1] | rw [c7b2] | rw [c7b3] | rw [c7b4] | skip)
   have H' := aM H
   clear H
   go_wp2
   go_meet
   case rel => exact ⟨_, H', ⟨by first | omega | exact Nat.le_refl _⟩, ⟨by (with_reducible repeat (first | refine blk_drewN ?_ _ | refine blk_drew ?_ | refine blk_alloc ?_ _)); exact BK377.out⟩, ⟨by repeat (first | (with_reducible first | exact HB.out | apply bA | apply bN | apply bD | refine below_set ?_ GE377.out) | exact HB.out)⟩⟩
 case rest =>
  clear HC3
  try clear c1
  try clear p2
  try clear c4
  try clear c7
  try clear c7b0
  try clear c7b1
  try clear c7b2
  try clear hcz5_0
  try clear hcz5_1
  try clear hcz5_2
  try clear hcz5_3
  try clear hcz5_4
  try clear hcz5_5
  try clear hcz5_6
  try clear hfz5_0
  try clear hfz5_1
  try clear hfz5_2
  try clear hfz5_3
  try clear hfz5_4
  try clear hfz5_5
  try clear hfz5_6
  obtain ⟨kq, HA, HJ2, BK377, HB⟩ := hcut
  cases kq with
  | zero => exact absurd HA.out (by simp [laws_FnExactLineText.j0])
  | succ kj2 =>
   have H := HA.out
   clear HA
   simp only [laws_FnExactLineText.j0] at H
   replace H := Option.bind_eq_some_iff.mp H
   obtain ⟨⟨t379, t380, t381, t384, t387, t390, t393⟩, A80, H⟩ := H
   replace H : ((spec_LineText.f kj2 t379 t380 t381 t384 t387 t390 t393).bind fun t394 => ((laws_toFeatureLine.f kj2 a0_0 a0_1 l0_2 l0_3 l0_4 l0_5 a0_6).bind fun bt395 => ((impl_LineText.f kj2 bt395.1 bt395.2.1 bt395.2.2.1 bt395.2.2.2.1 bt395.2.2.2.2.1 bt395.2.2.2.2.2.1 bt395.2.2.2.2.2.2).bind fun t411 => (if t411.toList = t394.toList then (laws_FnExactLineText.j1 kj2 a0_0 a0_1 l0_2 l0_3 l0_4 l0_5 a0_6 bt395.1 bt395.2.1 bt395.2.2.1 bt395.2.2.2.1 bt395.2.2.2.2.1 bt395.2.2.2.2.2.1 bt395.2.2.2.2.2.2) else (some false))))) = some r := H
   have A8 := aM A80
   clear A80
   replace H := Option.bind_eq_some_iff.mp H
   obtain ⟨t394, A90, H⟩ := H
   replace H : ((laws_toFeatureLine.f kj2 a0_0 a0_1 l0_2 l0_3 l0_4 l0_5 a0_6).bind fun bt395 => ((impl_LineText.f kj2 bt395.1 bt395.2.1 bt395.2.2.1 bt395.2.2.2.1 bt395.2.2.2.2.1 bt395.2.2.2.2.2.1 bt395.2.2.2.2.2.2).bind fun t411 => (if t411.toList = t394.toList then (laws_FnExactLineText.j1 kj2 a0_0 a0_1 l0_2 l0_3 l0_4 l0_5 a0_6 bt395.1 bt395.2.1 bt395.2.2.1 bt395.2.2.2.1 bt395.2.2.2.2.1 bt395.2.2.2.2.2.1 bt395.2.2.2.2.2.2) else (some false)))) = some r := H
   have A9 := aM A90
   clear A90
   replace H := Option.bind_eq_some_iff.mp H
   obtain ⟨⟨t395, t396, t397, t400, t403, t406, t409⟩, A100, H⟩ := H
   replace H : ((impl_LineText.f kj2 t395 t396 t397 t400 t403 t406 t409).bind fun t411 => (if t411.toList = t394.toList then (laws_FnExactLineText.j1 kj2 a0_0 a0_1 l0_2 l0_3 l0_4 l0_5 a0_6 t395 t396 t397 t400 t403 t406 t409) else (some false))) = some r := H
   have A10 := aM A100
   clear A100
   replace H := Option.bind_eq_some_iff.mp H
   obtain ⟨t411, A110, H⟩ := H
   replace H : (if t411.toList = t394.toList then (laws_FnExactLineText.j1 kj2 a0_0 a0_1 l0_2 l0_3 l0_4 l0_5 a0_6 t395 t396 t397 t400 t403 t406 t409) else (some false)) = some r := H
   have A11 := aM A110
   clear A110
   have HC12 := aM H
   clear H
   have hcz13_0 : wc.cell? ⟨gb377, 0, none⟩ = some (.int .i64 a0_0) := (blk_cell BK377.out 0).trans rfl
   have hcz13_1 : wc.cell? ⟨gb377, 1, none⟩ = some (.string a0_1) := (blk_cell BK377.out 1).trans rfl
   have hcz13_2 : wc.cell? ⟨gb377, 2, none⟩ = some (.slice A0_2 l0_2.length c0_2) := (blk_cell BK377.out 2).trans rfl
   have hcz13_3 : wc.cell? ⟨gb377, 3, none⟩ = some (.slice A0_3 l0_3.length c0_3) := (blk_cell BK377.out 3).trans rfl
   have hcz13_4 : wc.cell? ⟨gb377, 4, none⟩ = some (.slice A0_4 l0_4.length c0_4) := (blk_cell BK377.out 4).trans rfl
   have hcz13_5 : wc.cell? ⟨gb377, 5, none⟩ = some (.slice A0_5 l0_5.length c0_5) := (blk_cell BK377.out 5).trans rfl
   have hcz13_6 : wc.cell? ⟨gb377, 6, none⟩ = some (.int .i64 a0_6) := (blk_cell BK377.out 6).trans rfl
   have hfz13_0 := blk_frozen BK377.out 0
   have hfz13_1 := blk_frozen BK377.out 1
   have hfz13_2 := blk_frozen BK377.out 2
   have hfz13_3 := blk_frozen BK377.out 3
   have hfz13_4 := blk_frozen BK377.out 4
   have hfz13_5 := blk_frozen BK377.out 5
   have hfz13_6 := blk_frozen BK377.out 6
   go_upto_if 21 with (first | ((with_reducible refine gate_callee (f := 18) rfl ?_); refine goesL_ (some 13) rfl rfl Try.func18 (by kernel_rfl) rfl #[.agg #[.int .i64 a0_0, .string a0_1, .slice A0_2 l0_2.length c0_2, .slice A0_3 l0_3.length c0_3, .slice A0_4 l0_4.length c0_4, .slice A0_5 l0_5.length c0_5, .int .i64 a0_6]] rfl gQ ?_; (with_reducible refine (laws_toFeatureLine.calls kj2 a0_0 a0_1 _ _ l0_2 _ _ l0_3 _ _ l0_4 _ _ l0_5 a0_6 t379 t380 t381 t384 t387 t390 t393 _ ?side1 ?side2 ?side3 ?side4 ?side5 ?side6 ?side7 ?side8 A8.out).mono ?_); (case side1 => exact cQ HR0_2.out); (case side2 => exact HC0_2.out); (case side3 => exact cQ HR0_3.out); (case side4 => exact HC0_3.out); (case side5 => exact cQ HR0_4.out); (case side6 => exact HC0_4.out); (case side7 => exact cQ HR0_5.out); (case side8 => exact HC0_5.out); rintro e w14 ⟨v382, v385, v388, v391, rfl, ho0, ho1, ho2, ho3, hb⟩; refine ⟨_, rfl, ?_⟩; have n0_ := aM (Kd.R_lower ho0 (below_size (by repeat (first | (with_reducible first | exact HB.out | apply bA | apply bN | apply bD | refine below_set ?_ GE377.out) | exact HB.out)))); have n1_ := aM (Kd.R_lower ho1 (below_size (by repeat (first | (with_reducible first | exact HB.out | apply bA | apply bN | apply bD | refine below_set ?_ GE377.out) | exact HB.out)))); have n2_ := aM (Kd.R_lower ho2 (below_size (by repeat (first | (with_reducible first | exact HB.out | apply bA | apply bN | apply bD | refine below_set ?_ GE377.out) | exact HB.out)))); have n3_ := aM (Kd.R_lower ho3 (below_size (by repeat (first | (with_reducible first | exact HB.out | apply bA | apply bN | apply bD | refine below_set ?_ GE377.out) | exact HB.out)))); have n4_ := aM (blk_below (g := gb377) (o := .cells #[.int .i64 a0_0, .string a0_1, .slice A0_2 l0_2.length c0_2, .slice A0_3 l0_3.length c0_3, .slice A0_4 l0_4.length c0_4, .slice A0_5 l0_5.length c0_5, .int .i64 a0_6] 36 (0, 0)) (by (with_reducible repeat (first | refine blk_drewN ?_ _ | refine blk_drew ?_ | refine blk_alloc ?_ _)); exact BK377.out) hb); have n5_ := aM (below_step (by repeat (first | (with_reducible first | exact HB.out | apply bA | apply bN | apply bD | refine below_set ?_ GE377.out) | exact HB.out)) hb); clear BK377; clear HB; have HO383 := n0_; have HO386 := n1_; have HO389 := n2_; have HO392 := n3_; have BK377 := n4_; have HB := n5_; clear n0_ n1_ n2_ n3_ n4_ n5_; (try clear hb); (try clear hb2); (try clear hk); (try clear hi); (try clear ho0); (try clear ho1); (try clear ho2); (try clear ho3); obtain ⟨Ao15, co15, eo15⟩ := Kd.R_slice HO383.out; subst eo15; obtain ⟨Ao16, co16, eo16⟩ := Kd.R_slice HO386.out; subst eo16; obtain ⟨Ao17, co17, eo17⟩ := Kd.R_slice HO389.out; subst eo17; obtain ⟨Ao18, co18, eo18⟩ := Kd.R_slice HO392.out; subst eo18) | ((with_reducible refine gate_callee (f := 17) rfl ?_); refine goesL_ (some 14) rfl rfl Try.func17 (by kernel_rfl) rfl #[.agg #[.int .i64 t379, .string t380, .slice Ao15 t381.length co15, .slice Ao16 t384.length co16, .slice Ao17 t387.length co17, .slice Ao18 t390.length co18, .int .i64 t393]] rfl gQ ?_; (with_reducible refine (spec_LineText.calls kj2 t379 t380 _ _ t381 _ _ t384 _ _ t387 _ _ t390 t393 t394 _ ?side1 ?side2 ?side3 ?side4 ?side5 ?side6 ?side7 ?side8 A9.out).mono ?_); (case side1 => repeat (first | exact (Kd.R_reads' HO383.out).2.2 | (with_reducible first | refine cA ?_ _ | refine cN ?_ _ | refine cD ?_))); (case side2 => exact (Kd.R_reads' HO383.out).2.1); (case side3 => repeat (first | exact (Kd.R_reads' HO386.out).2.2 | (with_reducible first | refine cA ?_ _ | refine cN ?_ _ | refine cD ?_))); (case side4 => exact (Kd.R_reads' HO386.out).2.1); (case side5 => repeat (first | exact (Kd.R_reads' HO389.out).2.2 | (with_reducible first | refine cA ?_ _ | refine cN ?_ _ | refine cD ?_))); (case side6 => exact (Kd.R_reads' HO389.out).2.1); (case side7 => repeat (first | exact (Kd.R_reads' HO392.out).2.2 | (with_reducible first | refine cA ?_ _ | refine cN ?_ _ | refine cD ?_))); (case side8 => exact (Kd.R_reads' HO392.out).2.1); rintro e w19 ⟨rfl, hb⟩; refine ⟨_, rfl, ?_⟩; have n0_ := aM (Kd.R_below (by (with_reducible repeat (first | apply rA | apply rN | apply rD)); exact HO383.out) hb); have n1_ := aM (Kd.R_below (by (with_reducible repeat (first | apply rA | apply rN | apply rD)); exact HO386.out) hb); have n2_ := aM (Kd.R_below (by (with_reducible repeat (first | apply rA | apply rN | apply rD)); exact HO389.out) hb); have n3_ := aM (Kd.R_below (by (with_reducible repeat (first | apply rA | apply rN | apply rD)); exact HO392.out) hb); have n4_ := aM (blk_below (g := gb377) (o := .cells #[.int .i64 a0_0, .string a0_1, .slice A0_2 l0_2.length c0_2, .slice A0_3 l0_3.length c0_3, .slice A0_4 l0_4.length c0_4, .slice A0_5 l0_5.length c0_5, .int .i64 a0_6] 36 (0, 0)) (by (with_reducible repeat (first | refine blk_drewN ?_ _ | refine blk_drew ?_ | refine blk_alloc ?_ _)); exact BK377.out) hb); have n5_ := aM (below_step (by repeat (first | (with_reducible first | exact HB.out | apply bA | apply bN | apply bD | refine below_set ?_ GE377.out) | exact HB.out)) hb); clear HO383; clear HO386; clear HO389; clear HO392; clear BK377; clear HB; have HO383 := n0_; have HO386 := n1_; have HO389 := n2_; have HO392 := n3_; have BK377 := n4_; have HB := n5_; clear n0_ n1_ n2_ n3_ n4_ n5_; (try clear hb); (try clear hb2); (try clear hk); (try clear hi); have hcz20_0 : w19.cell? ⟨gb377, 0, none⟩ = some (.int .i64 a0_0) := (blk_cell BK377.out 0).trans rfl; have hcz20_1 : w19.cell? ⟨gb377, 1, none⟩ = some (.string a0_1) := (blk_cell BK377.out 1).trans rfl; have hcz20_2 : w19.cell? ⟨gb377, 2, none⟩ = some (.slice A0_2 l0_2.length c0_2) := (blk_cell BK377.out 2).trans rfl; have hcz20_3 : w19.cell? ⟨gb377, 3, none⟩ = some (.slice A0_3 l0_3.length c0_3) := (blk_cell BK377.out 3).trans rfl; have hcz20_4 : w19.cell? ⟨gb377, 4, none⟩ = some (.slice A0_4 l0_4.length c0_4) := (blk_cell BK377.out 4).trans rfl; have hcz20_5 : w19.cell? ⟨gb377, 5, none⟩ = some (.slice A0_5 l0_5.length c0_5) := (blk_cell BK377.out 5).trans rfl; have hcz20_6 : w19.cell? ⟨gb377, 6, none⟩ = some (.int .i64 a0_6) := (blk_cell BK377.out 6).trans rfl; have hfz20_0 := blk_frozen BK377.out 0; have hfz20_1 := blk_frozen BK377.out 1; have hfz20_2 := blk_frozen BK377.out 2; have hfz20_3 := blk_frozen BK377.out 3; have hfz20_4 := blk_frozen BK377.out 4; have hfz20_5 := blk_frozen BK377.out 5; have hfz20_6 := blk_frozen BK377.out 6) | ((with_reducible refine gate_callee (f := 18) rfl ?_); refine goesL_ (some 16) rfl rfl Try.func18 (by kernel_rfl) rfl #[.agg #[.int .i64 a0_0, .string a0_1, .slice A0_2 l0_2.length c0_2, .slice A0_3 l0_3.length c0_3, .slice A0_4 l0_4.length c0_4, .slice A0_5 l0_5.length c0_5, .int .i64 a0_6]] rfl gQ ?_; (with_reducible refine (laws_toFeatureLine.calls kj2 a0_0 a0_1 _ _ l0_2 _ _ l0_3 _ _ l0_4 _ _ l0_5 a0_6 t395 t396 t397 t400 t403 t406 t409 _ ?side1 ?side2 ?side3 ?side4 ?side5 ?side6 ?side7 ?side8 A10.out).mono ?_); (case side1 => exact cQ HR0_2.out); (case side2 => exact HC0_2.out); (case side3 => exact cQ HR0_3.out); (case side4 => exact HC0_3.out); (case side5 => exact cQ HR0_4.out); (case side6 => exact HC0_4.out); (case side7 => exact cQ HR0_5.out); (case side8 => exact HC0_5.out); rintro e w21 ⟨v398, v401, v404, v407, rfl, ho0, ho1, ho2, ho3, hb⟩; refine ⟨_, rfl, ?_⟩; have n0_ := aM (Kd.R_mono (Kd.R_told (Kd.R_told (Kd.R_told (Kd.R_told (Kd.R_old (by (with_reducible repeat (first | apply rA | apply rN | apply rD)); exact HO383.out) hb) (Kd.R_base ho0)) (Kd.R_base ho1)) (Kd.R_base ho2)) (Kd.R_base ho3)) h1_); have n1_ := aM (Kd.R_mono (Kd.R_told (Kd.R_told (Kd.R_told (Kd.R_told (Kd.R_old (by (with_reducible repeat (first | apply rA | apply rN | apply rD)); exact HO386.out) hb) (Kd.R_base ho0)) (Kd.R_base ho1)) (Kd.R_base ho2)) (Kd.R_base ho3)) h1_); have n2_ := aM (Kd.R_mono (Kd.R_told (Kd.R_told (Kd.R_told (Kd.R_told (Kd.R_old (by (with_reducible repeat (first | apply rA | apply rN | apply rD)); exact HO389.out) hb) (Kd.R_base ho0)) (Kd.R_base ho1)) (Kd.R_base ho2)) (Kd.R_base ho3)) h1_); have n3_ := aM (Kd.R_mono (Kd.R_told (Kd.R_told (Kd.R_told (Kd.R_told (Kd.R_old (by (with_reducible repeat (first | apply rA | apply rN | apply rD)); exact HO392.out) hb) (Kd.R_base ho0)) (Kd.R_base ho1)) (Kd.R_base ho2)) (Kd.R_base ho3)) h1_); have n4_ := aM (Kd.R_lower (Kd.R_new' (Kd.R_new' (Kd.R_new' (Kd.R_new' ho0 (Kd.R_lt (by (with_reducible repeat (first | apply rA | apply rN | apply rD)); exact HO383.out))) (Kd.R_lt (by (with_reducible repeat (first | apply rA | apply rN | apply rD)); exact HO386.out))) (Kd.R_lt (by (with_reducible repeat (first | apply rA | apply rN | apply rD)); exact HO389.out))) (Kd.R_lt (by (with_reducible repeat (first | apply rA | apply rN | apply rD)); exact HO392.out))) (below_size (by repeat (first | (with_reducible first | exact HB.out | apply bA | apply bN | apply bD | refine below_set ?_ GE377.out) | exact HB.out)))); have n5_ := aM (Kd.R_lower (Kd.R_new' (Kd.R_new' (Kd.R_new' (Kd.R_new' ho1 (Kd.R_lt (by (with_reducible repeat (first | apply rA | apply rN | apply rD)); exact HO383.out))) (Kd.R_lt (by (with_reducible repeat (first | apply rA | apply rN | apply rD)); exact HO386.out))) (Kd.R_lt (by (with_reducible repeat (first | apply rA | apply rN | apply rD)); exact HO389.out))) (Kd.R_lt (by (with_reducible repeat (first | apply rA | apply rN | apply rD)); exact HO392.out))) (below_size (by repeat (first | (with_reducible first | exact HB.out | apply bA | apply bN | apply bD | refine below_set ?_ GE377.out) | exact HB.out)))); have n6_ := aM (Kd.R_lower (Kd.R_new' (Kd.R_new' (Kd.R_new' (Kd.R_new' ho2 (Kd.R_lt (by (with_reducible repeat (first | apply rA | apply rN | apply rD)); exact HO383.out))) (Kd.R_lt (by (with_reducible repeat (first | apply rA | apply rN | apply rD)); exact HO386.out))) (Kd.R_lt (by (with_reducible repeat (first | apply rA | apply rN | apply rD)); exact HO389.out))) (Kd.R_lt (by (with_reducible repeat (first | apply rA | apply rN | apply rD)); exact HO392.out))) (below_size (by repeat (first | (with_reducible first | exact HB.out | apply bA | apply bN | apply bD | refine below_set ?_ GE377.out) | exact HB.out)))); have n7_ := aM (Kd.R_lower (Kd.R_new' (Kd.R_new' (Kd.R_new' (Kd.R_new' ho3 (Kd.R_lt (by (with_reducible repeat (first | apply rA | apply rN | apply rD)); exact HO383.out))) (Kd.R_lt (by (with_reducible repeat (first | apply rA | apply rN | apply rD)); exact HO386.out))) (Kd.R_lt (by (with_reducible repeat (first | apply rA | apply rN | apply rD)); exact HO389.out))) (Kd.R_lt (by (with_reducible repeat (first | apply rA | apply rN | apply rD)); exact HO392.out))) (below_size (by repeat (first | (with_reducible first | exact HB.out | apply bA | apply bN | apply bD | refine below_set ?_ GE377.out) | exact HB.out)))); have n8_ := aM (blk_below (g := gb377) (o := .cells #[.int .i64 a0_0, .string a0_1, .slice A0_2 l0_2.length c0_2, .slice A0_3 l0_3.length c0_3, .slice A0_4 l0_4.length c0_4, .slice A0_5 l0_5.length c0_5, .int .i64 a0_6] 36 (0, 0)) (by (with_reducible repeat (first | refine blk_drewN ?_ _ | refine blk_drew ?_ | refine blk_alloc ?_ _)); exact BK377.out) hb); have n9_ := aM (below_step (by repeat (first | (with_reducible first | exact HB.out | apply bA | apply bN | apply bD | refine below_set ?_ GE377.out) | exact HB.out)) hb); clear HO383; clear HO386; clear HO389; clear HO392; clear BK377; clear HB; have HO383 := n0_; have HO386 := n1_; have HO389 := n2_; have HO392 := n3_; have HO399 := n4_; have HO402 := n5_; have HO405 := n6_; have HO408 := n7_; have BK377 := n8_; have HB := n9_; clear n0_ n1_ n2_ n3_ n4_ n5_ n6_ n7_ n8_ n9_; (try clear hb); (try clear hb2); (try clear hk); (try clear hi); (try clear ho0); (try clear ho1); (try clear ho2); (try clear ho3)) | ((with_reducible refine gate_dst (N := 5) rfl ?_); refine box_event ?hg (N := 5) ?hd (cs := #[.int .i64 0, .string (⟨#[]⟩ : ByteArray), .slice none 0 0, .slice none 0 0, .slice none 0 0, .slice none 0 0, .int .i64 0]) (t := 39) ?hr ?_; (case hd => rfl); (case hg => rfl); (case hr => first | (go_simp; done) | (go_simp; rfl)); intro gb410 hg w22 hbox hb; have n0_ := aM (Kd.R_below (by (with_reducible repeat (first | apply rA | apply rN | apply rD)); exact HO383.out) hb); have n1_ := aM (Kd.R_below (by (with_reducible repeat (first | apply rA | apply rN | apply rD)); exact HO386.out) hb); have n2_ := aM (Kd.R_below (by (with_reducible repeat (first | apply rA | apply rN | apply rD)); exact HO389.out) hb); have n3_ := aM (Kd.R_below (by (with_reducible repeat (first | apply rA | apply rN | apply rD)); exact HO392.out) hb); have n4_ := aM (Kd.R_below (by (with_reducible repeat (first | apply rA | apply rN | apply rD)); exact HO399.out) hb); have n5_ := aM (Kd.R_below (by (with_reducible repeat (first | apply rA | apply rN | apply rD)); exact HO402.out) hb); have n6_ := aM (Kd.R_below (by (with_reducible repeat (first | apply rA | apply rN | apply rD)); exact HO405.out) hb); have n7_ := aM (Kd.R_below (by (with_reducible repeat (first | apply rA | apply rN | apply rD)); exact HO408.out) hb); have n8_ := aM (blk_below (g := gb377) (o := .cells #[.int .i64 a0_0, .string a0_1, .slice A0_2 l0_2.length c0_2, .slice A0_3 l0_3.length c0_3, .slice A0_4 l0_4.length c0_4, .slice A0_5 l0_5.length c0_5, .int .i64 a0_6] 36 (0, 0)) (by (with_reducible repeat (first | refine blk_drewN ?_ _ | refine blk_drew ?_ | refine blk_alloc ?_ _)); exact BK377.out) hb); have n9_ := aM (below_step (by repeat (first | (with_reducible first | exact HB.out | apply bA | apply bN | apply bD | refine below_set ?_ GE377.out) | exact HB.out)) hb); have n10_ := aM (hbox); have n11_ := aM ((by rw [hg]; exact (below_size (by repeat (first | (with_reducible first | exact HB.out | apply bA | apply bN | apply bD | refine below_set ?_ GE377.out) | exact HB.out))) : w.heap.size ≤ gb410)); have n12_ := aM ((by rw [hg]; exact (below_size (by repeat (first | (with_reducible first | exact HB.out | apply bA | apply bN | apply bD | refine below_set ?_ GE377.out) | exact HB.out))) : w.heap.size ≤ gb410)); have n13_ := aM ((by rw [hg]; exact Nat.ne_of_lt (blk_lt (g := gb377) (o := .cells #[.int .i64 a0_0, .string a0_1, .slice A0_2 l0_2.length c0_2, .slice A0_3 l0_3.length c0_3, .slice A0_4 l0_4.length c0_4, .slice A0_5 l0_5.length c0_5, .int .i64 a0_6] 36 (0, 0)) (by (with_reducible repeat (first | refine blk_drewN ?_ _ | refine blk_drew ?_ | refine blk_alloc ?_ _)); exact BK377.out)) : gb377 ≠ gb410)); have n14_ := aM ((by rw [hg]; exact Nat.ne_of_gt (blk_lt (g := gb377) (o := .cells #[.int .i64 a0_0, .string a0_1, .slice A0_2 l0_2.length c0_2, .slice A0_3 l0_3.length c0_3, .slice A0_4 l0_4.length c0_4, .slice A0_5 l0_5.length c0_5, .int .i64 a0_6] 36 (0, 0)) (by (with_reducible repeat (first | refine blk_drewN ?_ _ | refine blk_drew ?_ | refine blk_alloc ?_ _)); exact BK377.out)) : gb410 ≠ gb377)); clear HO383; clear HO386; clear HO389; clear HO392; clear HO399; clear HO402; clear HO405; clear HO408; clear BK377; clear HB; have HO383 := n0_; have HO386 := n1_; have HO389 := n2_; have HO392 := n3_; have HO399 := n4_; have HO402 := n5_; have HO405 := n6_; have HO408 := n7_; have BK377 := n8_; have HB := n9_; have BK410 := n10_; have GW410 := n11_; have GE410 := n12_; have NB377_410 := n13_; have NB410_377 := n14_; clear n0_ n1_ n2_ n3_ n4_ n5_ n6_ n7_ n8_ n9_ n10_ n11_ n12_ n13_ n14_; clear hb hbox hg; have hnb23 := NB410_377.out; have hnc23 := NB377_410.out; have hcz24_0 : w22.cell? ⟨gb410, 0, none⟩ = some (.int .i64 0) := (blk_cell BK410.out 0).trans rfl; have hcz24_1 : w22.cell? ⟨gb410, 1, none⟩ = some (.string (⟨#[]⟩ : ByteArray)) := (blk_cell BK410.out 1).trans rfl; have hcz24_2 : w22.cell? ⟨gb410, 2, none⟩ = some (.slice none 0 0) := (blk_cell BK410.out 2).trans rfl; have hcz24_3 : w22.cell? ⟨gb410, 3, none⟩ = some (.slice none 0 0) := (blk_cell BK410.out 3).trans rfl; have hcz24_4 : w22.cell? ⟨gb410, 4, none⟩ = some (.slice none 0 0) := (blk_cell BK410.out 4).trans rfl; have hcz24_5 : w22.cell? ⟨gb410, 5, none⟩ = some (.slice none 0 0) := (blk_cell BK410.out 5).trans rfl; have hcz24_6 : w22.cell? ⟨gb410, 6, none⟩ = some (.int .i64 0) := (blk_cell BK410.out 6).trans rfl; have hfz24_0 := blk_frozen BK410.out 0; have hfz24_1 := blk_frozen BK410.out 1; have hfz24_2 := blk_frozen BK410.out 2; have hfz24_3 := blk_frozen BK410.out 3; have hfz24_4 := blk_frozen BK410.out 4; have hfz24_5 := blk_frozen BK410.out 5; have hfz24_6 := blk_frozen BK410.out 6; obtain ⟨Ao25, co25, eo25⟩ := Kd.R_slice HO399.out; subst eo25; obtain ⟨Ao26, co26, eo26⟩ := Kd.R_slice HO402.out; subst eo26; obtain ⟨Ao27, co27, eo27⟩ := Kd.R_slice HO405.out; subst eo27; obtain ⟨Ao28, co28, eo28⟩ := Kd.R_slice HO408.out; subst eo28) | ((with_reducible refine gate_callee (f := 19) rfl ?_); refine goesL_ (some 18) rfl rfl Try.func19 (by kernel_rfl) rfl #[.agg #[.int .i64 t395, .string t396, .slice Ao25 t397.length co25, .slice Ao26 t400.length co26, .slice Ao27 t403.length co27, .slice Ao28 t406.length co28, .int .i64 t409]] rfl gQ ?_; (with_reducible refine (impl_LineText.calls kj2 t395 t396 _ _ t397 _ _ t400 _ _ t403 _ _ t406 t409 t411 _ ?side1 ?side2 ?side3 ?side4 ?side5 ?side6 ?side7 ?side8 A11.out).mono ?_); (case side1 => refine (Kd.R_reads' (e := 9) (base := w.heap.size) (ok := fun k_ => (((((some k_ ≠ (.slice Ao26 t400.length co26 : Value).ownBlock ∧ (some k_ ≠ (.slice Ao27 t403.length co27 : Value).ownBlock ∧ some k_ ≠ (.slice Ao28 t406.length co28 : Value).ownBlock)) ∧ some k_ ≠ (.slice Ao15 t381.length co15 : Value).ownBlock) ∧ some k_ ≠ (.slice Ao16 t384.length co16 : Value).ownBlock) ∧ some k_ ≠ (.slice Ao17 t387.length co17 : Value).ownBlock) ∧ some k_ ≠ (.slice Ao18 t390.length co18 : Value).ownBlock)) (n := t397.length) (c := co25) ?_).2.2; exact (by (with_reducible repeat (first | apply rA | apply rN | apply rD)); exact (Kd.R_mono (Kd.R_far (p := ⟨gb410, 6, none⟩) (Kd.R_far (p := ⟨gb410, 5, none⟩) (Kd.R_far (p := ⟨gb410, 4, none⟩) (Kd.R_far (p := ⟨gb410, 3, none⟩) (Kd.R_far (p := ⟨gb410, 2, none⟩) (Kd.R_far (p := ⟨gb410, 1, none⟩) (Kd.R_far (p := ⟨gb410, 0, none⟩) (Kd.R_types HO399.out BK410.out (by decide)) h2_ (.int .i64 t395)) h2_ (.string t396)) h2_ (.slice Ao25 t397.length co25)) h2_ (.slice Ao26 t400.length co26)) h2_ (.slice Ao27 t403.length co27)) h2_ (.slice Ao28 t406.length co28)) h2_ (.int .i64 t409)) h1_))); (case side2 => exact (Kd.R_reads' HO399.out).2.1); (case side3 => refine (Kd.R_reads' (e := 9) (base := w.heap.size) (ok := fun k_ => (((((some k_ ≠ (.slice Ao25 t397.length co25 : Value).ownBlock ∧ (some k_ ≠ (.slice Ao27 t403.length co27 : Value).ownBlock ∧ some k_ ≠ (.slice Ao28 t406.length co28 : Value).ownBlock)) ∧ some k_ ≠ (.slice Ao15 t381.length co15 : Value).ownBlock) ∧ some k_ ≠ (.slice Ao16 t384.length co16 : Value).ownBlock) ∧ some k_ ≠ (.slice Ao17 t387.length co17 : Value).ownBlock) ∧ some k_ ≠ (.slice Ao18 t390.length co18 : Value).ownBlock)) (n := t400.length) (c := co26) ?_).2.2; exact (by (with_reducible repeat (first | apply rA | apply rN | apply rD)); exact (Kd.R_mono (Kd.R_far (p := ⟨gb410, 6, none⟩) (Kd.R_far (p := ⟨gb410, 5, none⟩) (Kd.R_far (p := ⟨gb410, 4, none⟩) (Kd.R_far (p := ⟨gb410, 3, none⟩) (Kd.R_far (p := ⟨gb410, 2, none⟩) (Kd.R_far (p := ⟨gb410, 1, none⟩) (Kd.R_far (p := ⟨gb410, 0, none⟩) (Kd.R_types HO402.out BK410.out (by decide)) h2_ (.int .i64 t395)) h2_ (.string t396)) h2_ (.slice Ao25 t397.length co25)) h2_ (.slice Ao26 t400.length co26)) h2_ (.slice Ao27 t403.length co27)) h2_ (.slice Ao28 t406.length co28)) h2_ (.int .i64 t409)) h1_))); (case side4 => exact (Kd.R_reads' HO402.out).2.1); (case side5 => refine (Kd.R_reads' (e := 9) (base := w.heap.size) (ok := fun k_ => (((((some k_ ≠ (.slice Ao25 t397.length co25 : Value).ownBlock ∧ (some k_ ≠ (.slice Ao26 t400.length co26 : Value).ownBlock ∧ some k_ ≠ (.slice Ao28 t406.length co28 : Value).ownBlock)) ∧ some k_ ≠ (.slice Ao15 t381.length co15 : Value).ownBlock) ∧ some k_ ≠ (.slice Ao16 t384.length co16 : Value).ownBlock) ∧ some k_ ≠ (.slice Ao17 t387.length co17 : Value).ownBlock) ∧ some k_ ≠ (.slice Ao18 t390.length co18 : Value).ownBlock)) (n := t403.length) (c := co27) ?_).2.2; exact (by (with_reducible repeat (first | apply rA | apply rN | apply rD)); exact (Kd.R_mono (Kd.R_far (p := ⟨gb410, 6, none⟩) (Kd.R_far (p := ⟨gb410, 5, none⟩) (Kd.R_far (p := ⟨gb410, 4, none⟩) (Kd.R_far (p := ⟨gb410, 3, none⟩) (Kd.R_far (p := ⟨gb410, 2, none⟩) (Kd.R_far (p := ⟨gb410, 1, none⟩) (Kd.R_far (p := ⟨gb410, 0, none⟩) (Kd.R_types HO405.out BK410.out (by decide)) h2_ (.int .i64 t395)) h2_ (.string t396)) h2_ (.slice Ao25 t397.length co25)) h2_ (.slice Ao26 t400.length co26)) h2_ (.slice Ao27 t403.length co27)) h2_ (.slice Ao28 t406.length co28)) h2_ (.int .i64 t409)) h1_))); (case side6 => exact (Kd.R_reads' HO405.out).2.1); (case side7 => refine (Kd.R_reads' (e := 9) (base := w.heap.size) (ok := fun k_ => (((((some k_ ≠ (.slice Ao25 t397.length co25 : Value).ownBlock ∧ (some k_ ≠ (.slice Ao26 t400.length co26 : Value).ownBlock ∧ some k_ ≠ (.slice Ao27 t403.length co27 : Value).ownBlock)) ∧ some k_ ≠ (.slice Ao15 t381.length co15 : Value).ownBlock) ∧ some k_ ≠ (.slice Ao16 t384.length co16 : Value).ownBlock) ∧ some k_ ≠ (.slice Ao17 t387.length co17 : Value).ownBlock) ∧ some k_ ≠ (.slice Ao18 t390.length co18 : Value).ownBlock)) (n := t406.length) (c := co28) ?_).2.2; exact (by (with_reducible repeat (first | apply rA | apply rN | apply rD)); exact (Kd.R_mono (Kd.R_far (p := ⟨gb410, 6, none⟩) (Kd.R_far (p := ⟨gb410, 5, none⟩) (Kd.R_far (p := ⟨gb410, 4, none⟩) (Kd.R_far (p := ⟨gb410, 3, none⟩) (Kd.R_far (p := ⟨gb410, 2, none⟩) (Kd.R_far (p := ⟨gb410, 1, none⟩) (Kd.R_far (p := ⟨gb410, 0, none⟩) (Kd.R_types HO408.out BK410.out (by decide)) h2_ (.int .i64 t395)) h2_ (.string t396)) h2_ (.slice Ao25 t397.length co25)) h2_ (.slice Ao26 t400.length co26)) h2_ (.slice Ao27 t403.length co27)) h2_ (.slice Ao28 t406.length co28)) h2_ (.int .i64 t409)) h1_))); (case side8 => exact (Kd.R_reads' HO408.out).2.1); rintro e w29 ⟨rfl, hb⟩; refine ⟨_, rfl, ?_⟩; have n0_ := aM (Kd.R_below (by (with_reducible repeat (first | apply rA | apply rN | apply rD)); exact (Kd.R_mono (Kd.R_far (p := ⟨gb410, 6, none⟩) (Kd.R_far (p := ⟨gb410, 5, none⟩) (Kd.R_far (p := ⟨gb410, 4, none⟩) (Kd.R_far (p := ⟨gb410, 3, none⟩) (Kd.R_far (p := ⟨gb410, 2, none⟩) (Kd.R_far (p := ⟨gb410, 1, none⟩) (Kd.R_far (p := ⟨gb410, 0, none⟩) (Kd.R_types HO383.out BK410.out (by decide)) h2_ (.int .i64 t395)) h2_ (.string t396)) h2_ (.slice Ao25 t397.length co25)) h2_ (.slice Ao26 t400.length co26)) h2_ (.slice Ao27 t403.length co27)) h2_ (.slice Ao28 t406.length co28)) h2_ (.int .i64 t409)) h1_)) hb); have n1_ := aM (Kd.R_below (by (with_reducible repeat (first | apply rA | apply rN | apply rD)); exact (Kd.R_mono (Kd.R_far (p := ⟨gb410, 6, none⟩) (Kd.R_far (p := ⟨gb410, 5, none⟩) (Kd.R_far (p := ⟨gb410, 4, none⟩) (Kd.R_far (p := ⟨gb410, 3, none⟩) (Kd.R_far (p := ⟨gb410, 2, none⟩) (Kd.R_far (p := ⟨gb410, 1, none⟩) (Kd.R_far (p := ⟨gb410, 0, none⟩) (Kd.R_types HO386.out BK410.out (by decide)) h2_ (.int .i64 t395)) h2_ (.string t396)) h2_ (.slice Ao25 t397.length co25)) h2_ (.slice Ao26 t400.length co26)) h2_ (.slice Ao27 t403.length co27)) h2_ (.slice Ao28 t406.length co28)) h2_ (.int .i64 t409)) h1_)) hb); have n2_ := aM (Kd.R_below (by (with_reducible repeat (first | apply rA | apply rN | apply rD)); exact (Kd.R_mono (Kd.R_far (p := ⟨gb410, 6, none⟩) (Kd.R_far (p := ⟨gb410, 5, none⟩) (Kd.R_far (p := ⟨gb410, 4, none⟩) (Kd.R_far (p := ⟨gb410, 3, none⟩) (Kd.R_far (p := ⟨gb410, 2, none⟩) (Kd.R_far (p := ⟨gb410, 1, none⟩) (Kd.R_far (p := ⟨gb410, 0, none⟩) (Kd.R_types HO389.out BK410.out (by decide)) h2_ (.int .i64 t395)) h2_ (.string t396)) h2_ (.slice Ao25 t397.length co25)) h2_ (.slice Ao26 t400.length co26)) h2_ (.slice Ao27 t403.length co27)) h2_ (.slice Ao28 t406.length co28)) h2_ (.int .i64 t409)) h1_)) hb); have n3_ := aM (Kd.R_below (by (with_reducible repeat (first | apply rA | apply rN | apply rD)); exact (Kd.R_mono (Kd.R_far (p := ⟨gb410, 6, none⟩) (Kd.R_far (p := ⟨gb410, 5, none⟩) (Kd.R_far (p := ⟨gb410, 4, none⟩) (Kd.R_far (p := ⟨gb410, 3, none⟩) (Kd.R_far (p := ⟨gb410, 2, none⟩) (Kd.R_far (p := ⟨gb410, 1, none⟩) (Kd.R_far (p := ⟨gb410, 0, none⟩) (Kd.R_types HO392.out BK410.out (by decide)) h2_ (.int .i64 t395)) h2_ (.string t396)) h2_ (.slice Ao25 t397.length co25)) h2_ (.slice Ao26 t400.length co26)) h2_ (.slice Ao27 t403.length co27)) h2_ (.slice Ao28 t406.length co28)) h2_ (.int .i64 t409)) h1_)) hb); have n4_ := aM (Kd.R_below (by (with_reducible repeat (first | apply rA | apply rN | apply rD)); exact (Kd.R_mono (Kd.R_far (p := ⟨gb410, 6, none⟩) (Kd.R_far (p := ⟨gb410, 5, none⟩) (Kd.R_far (p := ⟨gb410, 4, none⟩) (Kd.R_far (p := ⟨gb410, 3, none⟩) (Kd.R_far (p := ⟨gb410, 2, none⟩) (Kd.R_far (p := ⟨gb410, 1, none⟩) (Kd.R_far (p := ⟨gb410, 0, none⟩) (Kd.R_types HO399.out BK410.out (by decide)) h2_ (.int .i64 t395)) h2_ (.string t396)) h2_ (.slice Ao25 t397.length co25)) h2_ (.slice Ao26 t400.length co26)) h2_ (.slice Ao27 t403.length co27)) h2_ (.slice Ao28 t406.length co28)) h2_ (.int .i64 t409)) h1_)) hb); have n5_ := aM (Kd.R_below (by (with_reducible repeat (first | apply rA | apply rN | apply rD)); exact (Kd.R_mono (Kd.R_far (p := ⟨gb410, 6, none⟩) (Kd.R_far (p := ⟨gb410, 5, none⟩) (Kd.R_far (p := ⟨gb410, 4, none⟩) (Kd.R_far (p := ⟨gb410, 3, none⟩) (Kd.R_far (p := ⟨gb410, 2, none⟩) (Kd.R_far (p := ⟨gb410, 1, none⟩) (Kd.R_far (p := ⟨gb410, 0, none⟩) (Kd.R_types HO402.out BK410.out (by decide)) h2_ (.int .i64 t395)) h2_ (.string t396)) h2_ (.slice Ao25 t397.length co25)) h2_ (.slice Ao26 t400.length co26)) h2_ (.slice Ao27 t403.length co27)) h2_ (.slice Ao28 t406.length co28)) h2_ (.int .i64 t409)) h1_)) hb); have n6_ := aM (Kd.R_below (by (with_reducible repeat (first | apply rA | apply rN | apply rD)); exact (Kd.R_mono (Kd.R_far (p := ⟨gb410, 6, none⟩) (Kd.R_far (p := ⟨gb410, 5, none⟩) (Kd.R_far (p := ⟨gb410, 4, none⟩) (Kd.R_far (p := ⟨gb410, 3, none⟩) (Kd.R_far (p := ⟨gb410, 2, none⟩) (Kd.R_far (p := ⟨gb410, 1, none⟩) (Kd.R_far (p := ⟨gb410, 0, none⟩) (Kd.R_types HO405.out BK410.out (by decide)) h2_ (.int .i64 t395)) h2_ (.string t396)) h2_ (.slice Ao25 t397.length co25)) h2_ (.slice Ao26 t400.length co26)) h2_ (.slice Ao27 t403.length co27)) h2_ (.slice Ao28 t406.length co28)) h2_ (.int .i64 t409)) h1_)) hb); have n7_ := aM (Kd.R_below (by (with_reducible repeat (first | apply rA | apply rN | apply rD)); exact (Kd.R_mono (Kd.R_far (p := ⟨gb410, 6, none⟩) (Kd.R_far (p := ⟨gb410, 5, none⟩) (Kd.R_far (p := ⟨gb410, 4, none⟩) (Kd.R_far (p := ⟨gb410, 3, none⟩) (Kd.R_far (p := ⟨gb410, 2, none⟩) (Kd.R_far (p := ⟨gb410, 1, none⟩) (Kd.R_far (p := ⟨gb410, 0, none⟩) (Kd.R_types HO408.out BK410.out (by decide)) h2_ (.int .i64 t395)) h2_ (.string t396)) h2_ (.slice Ao25 t397.length co25)) h2_ (.slice Ao26 t400.length co26)) h2_ (.slice Ao27 t403.length co27)) h2_ (.slice Ao28 t406.length co28)) h2_ (.int .i64 t409)) h1_)) hb); have n8_ := aM (blk_below (g := gb377) (o := .cells #[.int .i64 a0_0, .string a0_1, .slice A0_2 l0_2.length c0_2, .slice A0_3 l0_3.length c0_3, .slice A0_4 l0_4.length c0_4, .slice A0_5 l0_5.length c0_5, .int .i64 a0_6] 36 (0, 0)) (by (with_reducible repeat (first | refine blk_drewN ?_ _ | refine blk_drew ?_ | refine blk_alloc ?_ _)); refine blk_far ?_ NB377_410.out _; (with_reducible repeat (first | refine blk_drewN ?_ _ | refine blk_drew ?_ | refine blk_alloc ?_ _)); refine blk_far ?_ NB377_410.out _; (with_reducible repeat (first | refine blk_drewN ?_ _ | refine blk_drew ?_ | refine blk_alloc ?_ _)); refine blk_far ?_ NB377_410.out _; (with_reducible repeat (first | refine blk_drewN ?_ _ | refine blk_drew ?_ | refine blk_alloc ?_ _)); refine blk_far ?_ NB377_410.out _; (with_reducible repeat (first | refine blk_drewN ?_ _ | refine blk_drew ?_ | refine blk_alloc ?_ _)); refine blk_far ?_ NB377_410.out _; (with_reducible repeat (first | refine blk_drewN ?_ _ | refine blk_drew ?_ | refine blk_alloc ?_ _)); refine blk_far ?_ NB377_410.out _; (with_reducible repeat (first | refine blk_drewN ?_ _ | refine blk_drew ?_ | refine blk_alloc ?_ _)); refine blk_far ?_ NB377_410.out _; (with_reducible repeat (first | refine blk_drewN ?_ _ | refine blk_drew ?_ | refine blk_alloc ?_ _)); exact BK377.out) hb); have n9_ := aM (blk_below (g := gb410) (o := .cells #[.int .i64 t395, .string t396, .slice Ao25 t397.length co25, .slice Ao26 t400.length co26, .slice Ao27 t403.length co27, .slice Ao28 t406.length co28, .int .i64 t409] 39 (0, 0)) (by (with_reducible repeat (first | refine blk_drewN ?_ _ | refine blk_drew ?_ | refine blk_alloc ?_ _)); refine blk_put (cs := #[.int .i64 t395, .string t396, .slice Ao25 t397.length co25, .slice Ao26 t400.length co26, .slice Ao27 t403.length co27, .slice Ao28 t406.length co28, .int .i64 0]) ?_ 6 _ rfl; (with_reducible repeat (first | refine blk_drewN ?_ _ | refine blk_drew ?_ | refine blk_alloc ?_ _)); refine blk_put (cs := #[.int .i64 t395, .string t396, .slice Ao25 t397.length co25, .slice Ao26 t400.length co26, .slice Ao27 t403.length co27, .slice none 0 0, .int .i64 0]) ?_ 5 _ rfl; (with_reducible repeat (first | refine blk_drewN ?_ _ | refine blk_drew ?_ | refine blk_alloc ?_ _)); refine blk_put (cs := #[.int .i64 t395, .string t396, .slice Ao25 t397.length co25, .slice Ao26 t400.length co26, .slice none 0 0, .slice none 0 0, .int .i64 0]) ?_ 4 _ rfl; (with_reducible repeat (first | refine blk_drewN ?_ _ | refine blk_drew ?_ | refine blk_alloc ?_ _)); refine blk_put (cs := #[.int .i64 t395, .string t396, .slice Ao25 t397.length co25, .slice none 0 0, .slice none 0 0, .slice none 0 0, .int .i64 0]) ?_ 3 _ rfl; (with_reducible repeat (first | refine blk_drewN ?_ _ | refine blk_drew ?_ | refine blk_alloc ?_ _)); refine blk_put (cs := #[.int .i64 t395, .string t396, .slice none 0 0, .slice none 0 0, .slice none 0 0, .slice none 0 0, .int .i64 0]) ?_ 2 _ rfl; (with_reducible repeat (first | refine blk_drewN ?_ _ | refine blk_drew ?_ | refine blk_alloc ?_ _)); refine blk_put (cs := #[.int .i64 t395, .string (⟨#[]⟩ : ByteArray), .slice none 0 0, .slice none 0 0, .slice none 0 0, .slice none 0 0, .int .i64 0]) ?_ 1 _ rfl; (with_reducible repeat (first | refine blk_drewN ?_ _ | refine blk_drew ?_ | refine blk_alloc ?_ _)); refine blk_put (cs := #[.int .i64 0, .string (⟨#[]⟩ : ByteArray), .slice none 0 0, .slice none 0 0, .slice none 0 0, .slice none 0 0, .int .i64 0]) ?_ 0 _ rfl; (with_reducible repeat (first | refine blk_drewN ?_ _ | refine blk_drew ?_ | refine blk_alloc ?_ _)); exact BK410.out) hb); have n10_ := aM (below_step (by repeat (first | (with_reducible first | exact HB.out | apply bA | apply bN | apply bD | refine below_set ?_ GE377.out | refine below_set ?_ GE410.out) | exact HB.out)) hb); clear HO383; clear HO386; clear HO389; clear HO392; clear HO399; clear HO402; clear HO405; clear HO408; clear BK377; clear BK410; clear HB; have HO383 := n0_; have HO386 := n1_; have HO389 := n2_; have HO392 := n3_; have HO399 := n4_; have HO402 := n5_; have HO405 := n6_; have HO408 := n7_; have BK377 := n8_; have BK410 := n9_; have HB := n10_; clear n0_ n1_ n2_ n3_ n4_ n5_ n6_ n7_ n8_ n9_ n10_; (try clear hb); (try clear hb2); (try clear hk); (try clear hi)))
   (try simp only [Act.put, sI, sZ, sS])
   go_cut [] (fun wc => ∃ (kq : Nat), Aside0 (laws_FnExactLineText.j1 kq a0_0 a0_1 l0_2 l0_3 l0_4 l0_5 a0_6 t395 t396 t397 t400 t403 t406 t409 = some r) ∧ Aside0 (kq ≤ kj2) ∧ Aside0 (Kd.R Kd.string 9 wc w.heap.size (fun k_ => some k_ ≠ ((.slice Ao26 t400.length co26) : Value).ownBlock ∧ some k_ ≠ ((.slice Ao27 t403.length co27) : Value).ownBlock ∧ some k_ ≠ ((.slice Ao28 t406.length co28) : Value).ownBlock) (.slice Ao25 t397.length co25) t397) ∧ Aside0 (Kd.R Kd.string 9 wc w.heap.size (fun k_ => some k_ ≠ ((.slice Ao25 t397.length co25) : Value).ownBlock ∧ some k_ ≠ ((.slice Ao27 t403.length co27) : Value).ownBlock ∧ some k_ ≠ ((.slice Ao28 t406.length co28) : Value).ownBlock) (.slice Ao26 t400.length co26) t400) ∧ Aside0 (Kd.R Kd.string 9 wc w.heap.size (fun k_ => some k_ ≠ ((.slice Ao25 t397.length co25) : Value).ownBlock ∧ some k_ ≠ ((.slice Ao26 t400.length co26) : Value).ownBlock ∧ some k_ ≠ ((.slice Ao28 t406.length co28) : Value).ownBlock) (.slice Ao27 t403.length co27) t403) ∧ Aside0 (Kd.R Kd.string 9 wc w.heap.size (fun k_ => some k_ ≠ ((.slice Ao25 t397.length co25) : Value).ownBlock ∧ some k_ ≠ ((.slice Ao26 t400.length co26) : Value).ownBlock ∧ some k_ ≠ ((.slice Ao27 t403.length co27) : Value).ownBlock) (.slice Ao28 t406.length co28) t406) ∧ Aside0 (wc.heap[gb377]? = some (.cells #[.int .i64 a0_0, .string a0_1, (.slice A0_2 l0_2.length c0_2), (.slice A0_3 l0_3.length c0_3), (.slice A0_4 l0_4.length c0_4), (.slice A0_5 l0_5.length c0_5), .int .i64 a0_6] 36 (0, 0))) ∧ Aside0 (wc.heap[gb410]? = some (.cells #[.int .i64 t395, .string t396, (.slice Ao25 t397.length co25), (.slice Ao26 t400.length co26), (.slice Ao27 t403.length co27), (.slice Ao28 t406.length co28), .int .i64 t409] 39 (0, 0))) ∧ Aside0 (Below w.heap.size w wc))
   case first =>
    have H := HC12.out
    clear HC12
    by_cases c30 : t411.toList = t394.toList
    ·rw [if_pos c30] at H
     have c30b0 : (t411.toList == t394.toList) = true := beq_iff_eq.mpr c30
     have c30b1 : (t411.toList != t394.toList) = false := bne_eq_false_iff_eq.mpr c30
     clear c30
     (first | rw [c30b0] | (simp only [i64_w, i32_w]; rw [c30b0]) | rw [c30b1] | rw [c30b2] | rw [c30b3] | rw [c30b4] | skip)
     have H' := aM H
     clear H
     go_wp2
     go_meet
     case rel => exact ⟨_, H', ⟨by have := HJ2.out; first | omega | exact Nat.le_refl _⟩, ⟨by (with_reducible repeat (first | apply rA | apply rN | apply rD)); exact Kd.R_mono HO399.out (fun _ hk => ⟨hk.1.1.1.1.1, ⟨hk.1.1.1.1.2.1, hk.1.1.1.1.2.2⟩⟩)⟩, ⟨by (with_reducible repeat (first | apply rA | apply rN | apply rD)); exact Kd.R_mono HO402.out (fun _ hk => ⟨hk.1.1.1.1.1, ⟨hk.1.1.1.1.2.1, hk.1.1.1.1.2.2⟩⟩)⟩, ⟨by (with_reducible repeat (first | apply rA | apply rN | apply rD)); exact Kd.R_mono HO405.out (fun _ hk => ⟨hk.1.1.1.1.1, ⟨hk.1.1.1.1.2.1, hk.1.1.1.1.2.2⟩⟩)⟩, ⟨by (with_reducible repeat (first | apply rA | apply rN | apply rD)); exact Kd.R_mono HO408.out (fun _ hk => ⟨hk.1.1.1.1.1, ⟨hk.1.1.1.1.2.1, hk.1.1.1.1.2.2⟩⟩)⟩, ⟨by (with_reducible repeat (first | refine blk_drewN ?_ _ | refine blk_drew ?_ | refine blk_alloc ?_ _)); exact BK377.out⟩, ⟨by (with_reducible repeat (first | refine blk_drewN ?_ _ | refine blk_drew ?_ | refine blk_alloc ?_ _)); exact BK410.out⟩, ⟨by repeat (first | (with_reducible first | exact HB.out | apply bA | apply bN | apply bD | refine below_set ?_ GE377.out | refine below_set ?_ GE410.out) | exact HB.out)⟩⟩
    ·rw [if_neg c30] at H
     have c30b0 : (t411.toList == t394.toList) = false := beq_eq_false_iff_ne.mpr c30
     have c30b1 : (t411.toList != t394.toList) = true := bne_iff_ne.mpr c30
     (first | rw [c30b0] | (simp only [i64_w, i32_w]; rw [c30b0]) | rw [c30b1] | rw [c30b2] | rw [c30b3] | rw [c30b4] | skip)
     obtain rfl := Option.some.inj H
     go_wp2
     go_ret
     exact ⟨eQ, by repeat (first | (with_reducible first | exact HB.out | apply bA | apply bN | apply bD | refine below_set ?_ GE377.out | refine below_set ?_ GE410.out) | exact HB.out)⟩
   case rest =>
    clear HC12
    try clear c1
    try clear c2
    try clear p2
    try clear c3
    try clear c4
    try clear c7
    try clear c7b0
    try clear c7b1
    try clear c7b2
    try clear c16
    try clear c17
    try clear c18
    try clear c19
    try clear c23
    try clear c30
    try clear c30b0
    try clear c30b1
    try clear c30b2
    try clear hcz13_0
    try clear hcz13_1
    try clear hcz13_2
    try clear hcz13_3
    try clear hcz13_4
    try clear hcz13_5
    try clear hcz13_6
    try clear hcz20_0
    try clear hcz20_1
    try clear hcz20_2
    try clear hcz20_3
    try clear hcz20_4
    try clear hcz20_5
    try clear hcz20_6
    try clear hcz24_0
    try clear hcz24_1
    try clear hcz24_2
    try clear hcz24_3
    try clear hcz24_4
    try clear hcz24_5
    try clear hcz24_6
    try clear hcz5_0
    try clear hcz5_1
    try clear hcz5_2
    try clear hcz5_3
    try clear hcz5_4
    try clear hcz5_5
    try clear hcz5_6
    try clear hfz13_0
    try clear hfz13_1
    try clear hfz13_2
    try clear hfz13_3
    try clear hfz13_4
    try clear hfz13_5
    try clear hfz13_6
    try clear hfz20_0
    try clear hfz20_1
    try clear hfz20_2
    try clear hfz20_3
    try clear hfz20_4
    try clear hfz20_5
    try clear hfz20_6
    try clear hfz24_0
    try clear hfz24_1
    try clear hfz24_2
    try clear hfz24_3
    try clear hfz24_4
    try clear hfz24_5
    try clear hfz24_6
    try clear hfz5_0
    try clear hfz5_1
    try clear hfz5_2
    try clear hfz5_3
    try clear hfz5_4
    try clear hfz5_5
    try clear hfz5_6
    try clear p2
    obtain ⟨kq, HA, HJ11, HO_411002, HO_411003, HO_411004, HO_411005, BK377, BK410, HB⟩ := hcut
    cases kq with
    | zero => exact absurd HA.out (by simp [laws_FnExactLineText.j1])
    | succ kj11 =>
     have H := HA.out
     clear HA
     simp only [laws_FnExactLineText.j1] at H
     replace H := Option.bind_eq_some_iff.mp H
     obtain ⟨⟨t412, t413, t414, t417, t420, t423, t426⟩, A310, H⟩ := H
     replace H : ((laws_eqFeatureLine.f kj11 t395 t396 t397 t400 t403 t406 t409 t412 t413 t414 t417 t420 t423 t426).bind fun t427 => (if t427 = true then (some true) else (some false))) = some r := H
     have A31 := aM A310
     clear A310
     replace H := Option.bind_eq_some_iff.mp H
     obtain ⟨t427, A320, H⟩ := H
     replace H : (if t427 = true then (some true) else (some false)) = some r := H
     have A32 := aM A320
     clear A320
     by_cases c33 : t427 = true
     ·subst c33
      have H1 : (some true) = some r := by rw [if_pos rfl] at H; exact H
      clear H
      have H := H1
      clear H1
      obtain rfl := Option.some.inj H
      try go_wp2
      have n0_ := aM (Kd.R_drew HO_411002.out)
      have n1_ := aM (Kd.R_drew HO_411003.out)
      have n2_ := aM (Kd.R_drew HO_411004.out)
      have n3_ := aM (Kd.R_drew HO_411005.out)
      have n4_ := aM (blk_drew BK377.out)
      have n5_ := aM (blk_drew BK410.out)
      have n6_ := aM (below_drew1 HB.out)
      clear HO_411002
      clear HO_411003
      clear HO_411004
      clear HO_411005
      clear BK377
      clear BK410
      clear HB
      have HO_411002 := n0_
      have HO_411003 := n1_
      have HO_411004 := n2_
      have HO_411005 := n3_
      have BK377 := n4_
      have BK410 := n5_
      have HB := n6_
      clear n0_ n1_ n2_ n3_ n4_ n5_ n6_
      refine start_ (n := 5) (S := fun w' => w'.cell? ⟨gb410, 0, none⟩ = some (.int .i64 t395) ∧ w'.cell? ⟨gb410, 1, none⟩ = some (.string t396) ∧ w'.cell? ⟨gb410, 2, none⟩ = some (.slice Ao25 t397.length co25) ∧ w'.cell? ⟨gb410, 3, none⟩ = some (.slice Ao26 t400.length co26) ∧ w'.cell? ⟨gb410, 4, none⟩ = some (.slice Ao27 t403.length co27) ∧ w'.cell? ⟨gb410, 5, none⟩ = some (.slice Ao28 t406.length co28) ∧ w'.cell? ⟨gb410, 6, none⟩ = some (.int .i64 t409) ∧ w'.cell? ⟨gb377, 0, none⟩ = some (.int .i64 a0_0) ∧ w'.cell? ⟨gb377, 1, none⟩ = some (.string a0_1) ∧ w'.cell? ⟨gb377, 2, none⟩ = some (.slice A0_2 l0_2.length c0_2) ∧ w'.cell? ⟨gb377, 3, none⟩ = some (.slice A0_3 l0_3.length c0_3) ∧ w'.cell? ⟨gb377, 4, none⟩ = some (.slice A0_4 l0_4.length c0_4) ∧ w'.cell? ⟨gb377, 5, none⟩ = some (.slice A0_5 l0_5.length c0_5) ∧ w'.cell? ⟨gb377, 6, none⟩ = some (.int .i64 a0_6)) (ds := []) mklaws_F34_0 (by kernel_rfl) rfl rfl ⟨(blk_cell BK410.out 0).trans rfl, (blk_cell BK410.out 1).trans rfl, (blk_cell BK410.out 2).trans rfl, (blk_cell BK410.out 3).trans rfl, (blk_cell BK410.out 4).trans rfl, (blk_cell BK410.out 5).trans rfl, (blk_cell BK410.out 6).trans rfl, (blk_cell BK377.out 0).trans rfl, (blk_cell BK377.out 1).trans rfl, (blk_cell BK377.out 2).trans rfl, (blk_cell BK377.out 3).trans rfl, (blk_cell BK377.out 4).trans rfl, (blk_cell BK377.out 5).trans rfl, (blk_cell BK377.out 6).trans rfl⟩ (fun hHeld => ?_)
      generalize wc.drew = w34 at HO_411002 HO_411003 HO_411004 HO_411005 BK377 BK410 HB hHeld ⊢
      refine take_ (i := 0) (N := some 22) (v := ?_) (a' := ?_) mklaws_F34_1 rfl rfl (by kernel_rfl) (fun _ _ _ h => h) (Or.inl ⟨by rfl, ?_⟩) hHeld ?_ ?_
      rotate_left
      ·rintro w' ⟨s0, s1, s2, s3, s4, s5, s6, s7, s8, s9, s10, s11, s12, s13⟩
       go_simp
       with_reducible rfl
      rotate_left
      ·simp only [Act.put, sI, sZ, sS, i64_w, i32_w]
       rfl
      refine take_ (i := 1) (N := some 23) (v := ?_) (a' := ?_) mklaws_F34_2 rfl rfl (by kernel_rfl) (fun _ _ _ h => h) (Or.inl ⟨by rfl, ?_⟩) hHeld ?_ ?_
      rotate_left
      ·rintro w' ⟨s0, s1, s2, s3, s4, s5, s6, s7, s8, s9, s10, s11, s12, s13⟩
       go_simp
       with_reducible rfl
      rotate_left
      ·simp only [Act.put, sI, sZ, sS, i64_w, i32_w]
       rfl
      refine one_ (i := 2) (N := some 24) mklaws_F34_3 rfl rfl (by kernel_rfl) (by decide) (fun K hK => ?_)
      refine goes_ Try.func18 (by kernel_rfl) rfl #[.agg #[.int .i64 a0_0, .string a0_1, .slice A0_2 l0_2.length c0_2, .slice A0_3 l0_3.length c0_3, .slice A0_4 l0_4.length c0_4, .slice A0_5 l0_5.length c0_5, .int .i64 a0_6]] (by rfl) rfl rfl gQ ?_
      with_reducible refine (laws_toFeatureLine.calls kj11 a0_0 a0_1 _ _ l0_2 _ _ l0_3 _ _ l0_4 _ _ l0_5 a0_6 t412 t413 t414 t417 t420 t423 t426 _ ?side1 ?side2 ?side3 ?side4 ?side5 ?side6 ?side7 ?side8 A31.out).mono ?_
      (case side1 => exact cQ HR0_2.out)
      (case side2 => exact HC0_2.out)
      (case side3 => exact cQ HR0_3.out)
      (case side4 => exact HC0_3.out)
      (case side5 => exact cQ HR0_4.out)
      (case side6 => exact HC0_4.out)
      (case side7 => exact cQ HR0_5.out)
      (case side8 => exact HC0_5.out)
      rintro e w35 ⟨v415, v418, v421, v424, rfl, ho0, ho1, ho2, ho3, hb⟩
      refine ⟨_, rfl, ?_⟩
      have n0_ := aM (Kd.R_mono (Kd.R_told (Kd.R_told (Kd.R_told (Kd.R_told (Kd.R_old (by (with_reducible repeat (first | apply rA | apply rN | apply rD)); exact HO_411002.out) hb) (Kd.R_base ho0)) (Kd.R_base ho1)) (Kd.R_base ho2)) (Kd.R_base ho3)) h1_)
      have n1_ := aM (Kd.R_mono (Kd.R_told (Kd.R_told (Kd.R_told (Kd.R_told (Kd.R_old (by (with_reducible repeat (first | apply rA | apply rN | apply rD)); exact HO_411003.out) hb) (Kd.R_base ho0)) (Kd.R_base ho1)) (Kd.R_base ho2)) (Kd.R_base ho3)) h1_)
      have n2_ := aM (Kd.R_mono (Kd.R_told (Kd.R_told (Kd.R_told (Kd.R_told (Kd.R_old (by (with_reducible repeat (first | apply rA | apply rN | apply rD)); exact HO_411004.out) hb) (Kd.R_base ho0)) (Kd.R_base ho1)) (Kd.R_base ho2)) (Kd.R_base ho3)) h1_)
      have n3_ := aM (Kd.R_mono (Kd.R_told (Kd.R_told (Kd.R_told (Kd.R_told (Kd.R_old (by (with_reducible repeat (first | apply rA | apply rN | apply rD)); exact HO_411005.out) hb) (Kd.R_base ho0)) (Kd.R_base ho1)) (Kd.R_base ho2)) (Kd.R_base ho3)) h1_)
      have n4_ := aM (Kd.R_lower (Kd.R_new' (Kd.R_new' (Kd.R_new' (Kd.R_new' ho0 (Kd.R_lt (by (with_reducible repeat (first | apply rA | apply rN | apply rD)); exact HO_411002.out))) (Kd.R_lt (by (with_reducible repeat (first | apply rA | apply rN | apply rD)); exact HO_411003.out))) (Kd.R_lt (by (with_reducible repeat (first | apply rA | apply rN | apply rD)); exact HO_411004.out))) (Kd.R_lt (by (with_reducible repeat (first | apply rA | apply rN | apply rD)); exact HO_411005.out))) (below_size (by repeat (first | (with_reducible first | exact HB.out | apply bA | apply bN | apply bD | refine below_set ?_ GE377.out | refine below_set ?_ GE410.out) | exact HB.out))))
      have n5_ := aM (Kd.R_lower (Kd.R_new' (Kd.R_new' (Kd.R_new' (Kd.R_new' ho1 (Kd.R_lt (by (with_reducible repeat (first | apply rA | apply rN | apply rD)); exact HO_411002.out))) (Kd.R_lt (by (with_reducible repeat (first | apply rA | apply rN | apply rD)); exact HO_411003.out))) (Kd.R_lt (by (with_reducible repeat (first | apply rA | apply rN | apply rD)); exact HO_411004.out))) (Kd.R_lt (by (with_reducible repeat (first | apply rA | apply rN | apply rD)); exact HO_411005.out))) (below_size (by repeat (first | (with_reducible first | exact HB.out | apply bA | apply bN | apply bD | refine below_set ?_ GE377.out | refine below_set ?_ GE410.out) | exact HB.out))))
      have n6_ := aM (Kd.R_lower (Kd.R_new' (Kd.R_new' (Kd.R_new' (Kd.R_new' ho2 (Kd.R_lt (by (with_reducible repeat (first | apply rA | apply rN | apply rD)); exact HO_411002.out))) (Kd.R_lt (by (with_reducible repeat (first | apply rA | apply rN | apply rD)); exact HO_411003.out))) (Kd.R_lt (by (with_reducible repeat (first | apply rA | apply rN | apply rD)); exact HO_411004.out))) (Kd.R_lt (by (with_reducible repeat (first | apply rA | apply rN | apply rD)); exact HO_411005.out))) (below_size (by repeat (first | (with_reducible first | exact HB.out | apply bA | apply bN | apply bD | refine below_set ?_ GE377.out | refine below_set ?_ GE410.out) | exact HB.out))))
      have n7_ := aM (Kd.R_lower (Kd.R_new' (Kd.R_new' (Kd.R_new' (Kd.R_new' ho3 (Kd.R_lt (by (with_reducible repeat (first | apply rA | apply rN | apply rD)); exact HO_411002.out))) (Kd.R_lt (by (with_reducible repeat (first | apply rA | apply rN | apply rD)); exact HO_411003.out))) (Kd.R_lt (by (with_reducible repeat (first | apply rA | apply rN | apply rD)); exact HO_411004.out))) (Kd.R_lt (by (with_reducible repeat (first | apply rA | apply rN | apply rD)); exact HO_411005.out))) (below_size (by repeat (first | (with_reducible first | exact HB.out | apply bA | apply bN | apply bD | refine below_set ?_ GE377.out | refine below_set ?_ GE410.out) | exact HB.out))))
      have n8_ := aM (blk_below (g := gb377) (o := .cells #[.int .i64 a0_0, .string a0_1, .slice A0_2 l0_2.length c0_2, .slice A0_3 l0_3.length c0_3, .slice A0_4 l0_4.length c0_4, .slice A0_5 l0_5.length c0_5, .int .i64 a0_6] 36 (0, 0)) (by (with_reducible repeat (first | refine blk_drewN ?_ _ | refine blk_drew ?_ | refine blk_alloc ?_ _)); exact BK377.out) hb)
      have n9_ := aM (blk_below (g := gb410) (o := .cells #[.int .i64 t395, .string t396, .slice Ao25 t397.length co25, .slice Ao26 t400.length co26, .slice Ao27 t403.length co27, .slice Ao28 t406.length co28, .int .i64 t409] 39 (0, 0)) (by (with_reducible repeat (first | refine blk_drewN ?_ _ | refine blk_drew ?_ | refine blk_alloc ?_ _)); exact BK410.out) hb)
      have n10_ := aM (below_step (by repeat (first | (with_reducible first | exact HB.out | apply bA | apply bN | apply bD | refine below_set ?_ GE377.out | refine below_set ?_ GE410.out) | exact HB.out)) hb)
      clear HO_411002
      clear HO_411003
      clear HO_411004
      clear HO_411005
      clear BK377
      clear BK410
      clear HB
      have HO_411002 := n0_
      have HO_411003 := n1_
      have HO_411004 := n2_
      have HO_411005 := n3_
      have HO416 := n4_
      have HO419 := n5_
      have HO422 := n6_
      have HO425 := n7_
      have BK377 := n8_
      have BK410 := n9_
      have HB := n10_
      clear n0_ n1_ n2_ n3_ n4_ n5_ n6_ n7_ n8_ n9_ n10_
      (try clear hb)
      (try clear hb2)
      (try clear hk)
      (try clear hi)
      (try clear ho0)
      (try clear ho1)
      (try clear ho2)
      (try clear ho3)
      obtain ⟨Ao36, co36, eo36⟩ := Kd.R_slice HO416.out
      (first | subst eo36 | (injection eo36 with f1_ f2_ f3_; have f4_ := f1_.symm; have f5_ := f3_.symm; clear f1_ f2_ f3_; subst f4_; subst f5_))
      obtain ⟨Ao37, co37, eo37⟩ := Kd.R_slice HO419.out
      (first | subst eo37 | (injection eo37 with f1_ f2_ f3_; have f4_ := f1_.symm; have f5_ := f3_.symm; clear f1_ f2_ f3_; subst f4_; subst f5_))
      obtain ⟨Ao38, co38, eo38⟩ := Kd.R_slice HO422.out
      (first | subst eo38 | (injection eo38 with f1_ f2_ f3_; have f4_ := f1_.symm; have f5_ := f3_.symm; clear f1_ f2_ f3_; subst f4_; subst f5_))
      obtain ⟨Ao39, co39, eo39⟩ := Kd.R_slice HO425.out
      (first | subst eo39 | (injection eo39 with f1_ f2_ f3_; have f4_ := f1_.symm; have f5_ := f3_.symm; clear f1_ f2_ f3_; subst f4_; subst f5_))
      refine hK.out _ _ ⟨(blk_cell BK410.out 0).trans rfl, (blk_cell BK410.out 1).trans rfl, (blk_cell BK410.out 2).trans rfl, (blk_cell BK410.out 3).trans rfl, (blk_cell BK410.out 4).trans rfl, (blk_cell BK410.out 5).trans rfl, (blk_cell BK410.out 6).trans rfl, (blk_cell BK377.out 0).trans rfl, (blk_cell BK377.out 1).trans rfl, (blk_cell BK377.out 2).trans rfl, (blk_cell BK377.out 3).trans rfl, (blk_cell BK377.out 4).trans rfl, (blk_cell BK377.out 5).trans rfl, (blk_cell BK377.out 6).trans rfl⟩ (fun hHeld => ?_)
      clear hK K
      refine norm_ (a' := ?_) ?_ ?_
      rotate_left
      ·show Act.put _ (some 24) _ = _
       simp only [Act.put, sI, sZ, sS, i64_w, i32_w]
       rfl
      refine one_ (i := 3) (N := some 25) mklaws_F34_4 rfl rfl (by kernel_rfl) (by decide) (fun K hK => ?_)
      refine goes_ Try.func20 (by kernel_rfl) rfl #[.agg #[.int .i64 t395, .string t396, .slice Ao25 t397.length co25, .slice Ao26 t400.length co26, .slice Ao27 t403.length co27, .slice Ao28 t406.length co28, .int .i64 t409], .agg #[.int .i64 t412, .string t413, .slice Ao36 t414.length co36, .slice Ao37 t417.length co37, .slice Ao38 t420.length co38, .slice Ao39 t423.length co39, .int .i64 t426]] (by rfl) rfl rfl gQ ?_
      with_reducible refine (laws_eqFeatureLine.calls kj11 t395 t396 _ _ t397 _ _ t400 _ _ t403 _ _ t406 t409 t412 t413 _ _ t414 _ _ t417 _ _ t420 _ _ t423 t426 true _ ?side1 ?side2 ?side3 ?side4 ?side5 ?side6 ?side7 ?side8 ?side9 ?side10 ?side11 ?side12 ?side13 ?side14 ?side15 ?side16 A32.out).mono ?_
      (case side1 => repeat (first | exact (Kd.R_reads' HO_411002.out).2.2 | (with_reducible first | refine cA ?_ _ | refine cN ?_ _ | refine cD ?_)))
      (case side2 => exact (Kd.R_reads' HO_411002.out).2.1)
      (case side3 => repeat (first | exact (Kd.R_reads' HO_411003.out).2.2 | (with_reducible first | refine cA ?_ _ | refine cN ?_ _ | refine cD ?_)))
      (case side4 => exact (Kd.R_reads' HO_411003.out).2.1)
      (case side5 => repeat (first | exact (Kd.R_reads' HO_411004.out).2.2 | (with_reducible first | refine cA ?_ _ | refine cN ?_ _ | refine cD ?_)))
      (case side6 => exact (Kd.R_reads' HO_411004.out).2.1)
      (case side7 => repeat (first | exact (Kd.R_reads' HO_411005.out).2.2 | (with_reducible first | refine cA ?_ _ | refine cN ?_ _ | refine cD ?_)))
      (case side8 => exact (Kd.R_reads' HO_411005.out).2.1)
      (case side9 => repeat (first | exact (Kd.R_reads' HO416.out).2.2 | (with_reducible first | refine cA ?_ _ | refine cN ?_ _ | refine cD ?_)))
      (case side10 => exact (Kd.R_reads' HO416.out).2.1)
      (case side11 => repeat (first | exact (Kd.R_reads' HO419.out).2.2 | (with_reducible first | refine cA ?_ _ | refine cN ?_ _ | refine cD ?_)))
      (case side12 => exact (Kd.R_reads' HO419.out).2.1)
      (case side13 => repeat (first | exact (Kd.R_reads' HO422.out).2.2 | (with_reducible first | refine cA ?_ _ | refine cN ?_ _ | refine cD ?_)))
      (case side14 => exact (Kd.R_reads' HO422.out).2.1)
      (case side15 => repeat (first | exact (Kd.R_reads' HO425.out).2.2 | (with_reducible first | refine cA ?_ _ | refine cN ?_ _ | refine cD ?_)))
      (case side16 => exact (Kd.R_reads' HO425.out).2.1)
      rintro e w40 ⟨rfl, hb⟩
      refine ⟨_, rfl, ?_⟩
      have n0_ := aM (Kd.R_below (by (with_reducible repeat (first | apply rA | apply rN | apply rD)); exact HO_411002.out) hb)
      have n1_ := aM (Kd.R_below (by (with_reducible repeat (first | apply rA | apply rN | apply rD)); exact HO_411003.out) hb)
      have n2_ := aM (Kd.R_below (by (with_reducible repeat (first | apply rA | apply rN | apply rD)); exact HO_411004.out) hb)
      have n3_ := aM (Kd.R_below (by (with_reducible repeat (first | apply rA | apply rN | apply rD)); exact HO_411005.out) hb)
      have n4_ := aM (Kd.R_below (by (with_reducible repeat (first | apply rA | apply rN | apply rD)); exact HO416.out) hb)
      have n5_ := aM (Kd.R_below (by (with_reducible repeat (first | apply rA | apply rN | apply rD)); exact HO419.out) hb)
      have n6_ := aM (Kd.R_below (by (with_reducible repeat (first | apply rA | apply rN | apply rD)); exact HO422.out) hb)
      have n7_ := aM (Kd.R_below (by (with_reducible repeat (first | apply rA | apply rN | apply rD)); exact HO425.out) hb)
      have n8_ := aM (blk_below (g := gb377) (o := .cells #[.int .i64 a0_0, .string a0_1, .slice A0_2 l0_2.length c0_2, .slice A0_3 l0_3.length c0_3, .slice A0_4 l0_4.length c0_4, .slice A0_5 l0_5.length c0_5, .int .i64 a0_6] 36 (0, 0)) (by (with_reducible repeat (first | refine blk_drewN ?_ _ | refine blk_drew ?_ | refine blk_alloc ?_ _)); exact BK377.out) hb)
      have n9_ := aM (blk_below (g := gb410) (o := .cells #[.int .i64 t395, .string t396, .slice Ao25 t397.length co25, .slice Ao26 t400.length co26, .slice Ao27 t403.length co27, .slice Ao28 t406.length co28, .int .i64 t409] 39 (0, 0)) (by (with_reducible repeat (first | refine blk_drewN ?_ _ | refine blk_drew ?_ | refine blk_alloc ?_ _)); exact BK410.out) hb)
      have n10_ := aM (below_step (by repeat (first | (with_reducible first | exact HB.out | apply bA | apply bN | apply bD | refine below_set ?_ GE377.out | refine below_set ?_ GE410.out) | exact HB.out)) hb)
      clear HO_411002
      clear HO_411003
      clear HO_411004
      clear HO_411005
      clear HO416
      clear HO419
      clear HO422
      clear HO425
      clear BK377
      clear BK410
      clear HB
      have HO_411002 := n0_
      have HO_411003 := n1_
      have HO_411004 := n2_
      have HO_411005 := n3_
      have HO416 := n4_
      have HO419 := n5_
      have HO422 := n6_
      have HO425 := n7_
      have BK377 := n8_
      have BK410 := n9_
      have HB := n10_
      clear n0_ n1_ n2_ n3_ n4_ n5_ n6_ n7_ n8_ n9_ n10_
      (try clear hb)
      (try clear hb2)
      (try clear hk)
      (try clear hi)
      refine hK.out _ _ ⟨(blk_cell BK410.out 0).trans rfl, (blk_cell BK410.out 1).trans rfl, (blk_cell BK410.out 2).trans rfl, (blk_cell BK410.out 3).trans rfl, (blk_cell BK410.out 4).trans rfl, (blk_cell BK410.out 5).trans rfl, (blk_cell BK410.out 6).trans rfl, (blk_cell BK377.out 0).trans rfl, (blk_cell BK377.out 1).trans rfl, (blk_cell BK377.out 2).trans rfl, (blk_cell BK377.out 3).trans rfl, (blk_cell BK377.out 4).trans rfl, (blk_cell BK377.out 5).trans rfl, (blk_cell BK377.out 6).trans rfl⟩ (fun hHeld => ?_)
      clear hK K
      refine norm_ (a' := ?_) ?_ ?_
      rotate_left
      ·show Act.put _ (some 25) _ = _
       simp only [Act.put, sI, sZ, sS, i64_w, i32_w]
       rfl
      refine pure_ (i := 4) (N := some 26) (v := ?_) (a' := ?_) mklaws_F34_5 rfl rfl (by kernel_rfl) (fun _ _ _ h => h) (Or.inl ⟨by rfl, ?_⟩) ?_ ?_
      rotate_left
      ·intro w'
       go_simp
       with_reducible rfl
      rotate_left
      ·simp only [Act.put, sI, sZ, sS, i64_w, i32_w]
       rfl
      refine done_ (by kernel_rfl) ?_
      try go_wp2
      go_ret
      exact ⟨eQ, by repeat (first | (with_reducible first | exact HB.out | apply bA | apply bN | apply bD | refine below_set ?_ GE377.out | refine below_set ?_ GE410.out) | exact HB.out)⟩
     ·replace c33 := Bool.eq_false_iff.mpr c33
      subst c33
      have H1 : (some false) = some r := by rw [if_neg (show ¬ (false = true) by decide)] at H; exact H
      clear H
      have H := H1
      clear H1
      obtain rfl := Option.some.inj H
      try go_wp2
      have n0_ := aM (Kd.R_drew HO_411002.out)
      have n1_ := aM (Kd.R_drew HO_411003.out)
      have n2_ := aM (Kd.R_drew HO_411004.out)
      have n3_ := aM (Kd.R_drew HO_411005.out)
      have n4_ := aM (blk_drew BK377.out)
      have n5_ := aM (blk_drew BK410.out)
      have n6_ := aM (below_drew1 HB.out)
      clear HO_411002
      clear HO_411003
      clear HO_411004
      clear HO_411005
      clear BK377
      clear BK410
      clear HB
      have HO_411002 := n0_
      have HO_411003 := n1_
      have HO_411004 := n2_
      have HO_411005 := n3_
      have BK377 := n4_
      have BK410 := n5_
      have HB := n6_
      clear n0_ n1_ n2_ n3_ n4_ n5_ n6_
      refine start_ (n := 5) (S := fun w' => w'.cell? ⟨gb410, 0, none⟩ = some (.int .i64 t395) ∧ w'.cell? ⟨gb410, 1, none⟩ = some (.string t396) ∧ w'.cell? ⟨gb410, 2, none⟩ = some (.slice Ao25 t397.length co25) ∧ w'.cell? ⟨gb410, 3, none⟩ = some (.slice Ao26 t400.length co26) ∧ w'.cell? ⟨gb410, 4, none⟩ = some (.slice Ao27 t403.length co27) ∧ w'.cell? ⟨gb410, 5, none⟩ = some (.slice Ao28 t406.length co28) ∧ w'.cell? ⟨gb410, 6, none⟩ = some (.int .i64 t409) ∧ w'.cell? ⟨gb377, 0, none⟩ = some (.int .i64 a0_0) ∧ w'.cell? ⟨gb377, 1, none⟩ = some (.string a0_1) ∧ w'.cell? ⟨gb377, 2, none⟩ = some (.slice A0_2 l0_2.length c0_2) ∧ w'.cell? ⟨gb377, 3, none⟩ = some (.slice A0_3 l0_3.length c0_3) ∧ w'.cell? ⟨gb377, 4, none⟩ = some (.slice A0_4 l0_4.length c0_4) ∧ w'.cell? ⟨gb377, 5, none⟩ = some (.slice A0_5 l0_5.length c0_5) ∧ w'.cell? ⟨gb377, 6, none⟩ = some (.int .i64 a0_6)) (ds := []) mklaws_F34_0 (by kernel_rfl) rfl rfl ⟨(blk_cell BK410.out 0).trans rfl, (blk_cell BK410.out 1).trans rfl, (blk_cell BK410.out 2).trans rfl, (blk_cell BK410.out 3).trans rfl, (blk_cell BK410.out 4).trans rfl, (blk_cell BK410.out 5).trans rfl, (blk_cell BK410.out 6).trans rfl, (blk_cell BK377.out 0).trans rfl, (blk_cell BK377.out 1).trans rfl, (blk_cell BK377.out 2).trans rfl, (blk_cell BK377.out 3).trans rfl, (blk_cell BK377.out 4).trans rfl, (blk_cell BK377.out 5).trans rfl, (blk_cell BK377.out 6).trans rfl⟩ (fun hHeld => ?_)
      generalize wc.drew = w41 at HO_411002 HO_411003 HO_411004 HO_411005 BK377 BK410 HB hHeld ⊢
      refine take_ (i := 0) (N := some 22) (v := ?_) (a' := ?_) mklaws_F34_1 rfl rfl (by kernel_rfl) (fun _ _ _ h => h) (Or.inl ⟨by rfl, ?_⟩) hHeld ?_ ?_
      rotate_left
      ·rintro w' ⟨s0, s1, s2, s3, s4, s5, s6, s7, s8, s9, s10, s11, s12, s13⟩
       go_simp
       with_reducible rfl
      rotate_left
      ·simp only [Act.put, sI, sZ, sS, i64_w, i32_w]
       rfl
      refine take_ (i := 1) (N := some 23) (v := ?_) (a' := ?_) mklaws_F34_2 rfl rfl (by kernel_rfl) (fun _ _ _ h => h) (Or.inl ⟨by rfl, ?_⟩) hHeld ?_ ?_
      rotate_left
      ·rintro w' ⟨s0, s1, s2, s3, s4, s5, s6, s7, s8, s9, s10, s11, s12, s13⟩
       go_simp
       with_reducible rfl
      rotate_left
      ·simp only [Act.put, sI, sZ, sS, i64_w, i32_w]
       rfl
      refine one_ (i := 2) (N := some 24) mklaws_F34_3 rfl rfl (by kernel_rfl) (by decide) (fun K hK => ?_)
      refine goes_ Try.func18 (by kernel_rfl) rfl #[.agg #[.int .i64 a0_0, .string a0_1, .slice A0_2 l0_2.length c0_2, .slice A0_3 l0_3.length c0_3, .slice A0_4 l0_4.length c0_4, .slice A0_5 l0_5.length c0_5, .int .i64 a0_6]] (by rfl) rfl rfl gQ ?_
      with_reducible refine (laws_toFeatureLine.calls kj11 a0_0 a0_1 _ _ l0_2 _ _ l0_3 _ _ l0_4 _ _ l0_5 a0_6 t412 t413 t414 t417 t420 t423 t426 _ ?side1 ?side2 ?side3 ?side4 ?side5 ?side6 ?side7 ?side8 A31.out).mono ?_
      (case side1 => exact cQ HR0_2.out)
      (case side2 => exact HC0_2.out)
      (case side3 => exact cQ HR0_3.out)
      (case side4 => exact HC0_3.out)
      (case side5 => exact cQ HR0_4.out)
      (case side6 => exact HC0_4.out)
      (case side7 => exact cQ HR0_5.out)
      (case side8 => exact HC0_5.out)
      rintro e w42 ⟨v415, v418, v421, v424, rfl, ho0, ho1, ho2, ho3, hb⟩
      refine ⟨_, rfl, ?_⟩
      have n0_ := aM (Kd.R_mono (Kd.R_told (Kd.R_told (Kd.R_told (Kd.R_told (Kd.R_old (by (with_reducible repeat (first | apply rA | apply rN | apply rD)); exact HO_411002.out) hb) (Kd.R_base ho0)) (Kd.R_base ho1)) (Kd.R_base ho2)) (Kd.R_base ho3)) h1_)
      have n1_ := aM (Kd.R_mono (Kd.R_told (Kd.R_told (Kd.R_told (Kd.R_told (Kd.R_old (by (with_reducible repeat (first | apply rA | apply rN | apply rD)); exact HO_411003.out) hb) (Kd.R_base ho0)) (Kd.R_base ho1)) (Kd.R_base ho2)) (Kd.R_base ho3)) h1_)
      have n2_ := aM (Kd.R_mono (Kd.R_told (Kd.R_told (Kd.R_told (Kd.R_told (Kd.R_old (by (with_reducible repeat (first | apply rA | apply rN | apply rD)); exact HO_411004.out) hb) (Kd.R_base ho0)) (Kd.R_base ho1)) (Kd.R_base ho2)) (Kd.R_base ho3)) h1_)
      have n3_ := aM (Kd.R_mono (Kd.R_told (Kd.R_told (Kd.R_told (Kd.R_told (Kd.R_old (by (with_reducible repeat (first | apply rA | apply rN | apply rD)); exact HO_411005.out) hb) (Kd.R_base ho0)) (Kd.R_base ho1)) (Kd.R_base ho2)) (Kd.R_base ho3)) h1_)
      have n4_ := aM (Kd.R_lower (Kd.R_new' (Kd.R_new' (Kd.R_new' (Kd.R_new' ho0 (Kd.R_lt (by (with_reducible repeat (first | apply rA | apply rN | apply rD)); exact HO_411002.out))) (Kd.R_lt (by (with_reducible repeat (first | apply rA | apply rN | apply rD)); exact HO_411003.out))) (Kd.R_lt (by (with_reducible repeat (first | apply rA | apply rN | apply rD)); exact HO_411004.out))) (Kd.R_lt (by (with_reducible repeat (first | apply rA | apply rN | apply rD)); exact HO_411005.out))) (below_size (by repeat (first | (with_reducible first | exact HB.out | apply bA | apply bN | apply bD | refine below_set ?_ GE377.out | refine below_set ?_ GE410.out) | exact HB.out))))
      have n5_ := aM (Kd.R_lower (Kd.R_new' (Kd.R_new' (Kd.R_new' (Kd.R_new' ho1 (Kd.R_lt (by (with_reducible repeat (first | apply rA | apply rN | apply rD)); exact HO_411002.out))) (Kd.R_lt (by (with_reducible repeat (first | apply rA | apply rN | apply rD)); exact HO_411003.out))) (Kd.R_lt (by (with_reducible repeat (first | apply rA | apply rN | apply rD)); exact HO_411004.out))) (Kd.R_lt (by (with_reducible repeat (first | apply rA | apply rN | apply rD)); exact HO_411005.out))) (below_size (by repeat (first | (with_reducible first | exact HB.out | apply bA | apply bN | apply bD | refine below_set ?_ GE377.out | refine below_set ?_ GE410.out) | exact HB.out))))
      have n6_ := aM (Kd.R_lower (Kd.R_new' (Kd.R_new' (Kd.R_new' (Kd.R_new' ho2 (Kd.R_lt (by (with_reducible repeat (first | apply rA | apply rN | apply rD)); exact HO_411002.out))) (Kd.R_lt (by (with_reducible repeat (first | apply rA | apply rN | apply rD)); exact HO_411003.out))) (Kd.R_lt (by (with_reducible repeat (first | apply rA | apply rN | apply rD)); exact HO_411004.out))) (Kd.R_lt (by (with_reducible repeat (first | apply rA | apply rN | apply rD)); exact HO_411005.out))) (below_size (by repeat (first | (with_reducible first | exact HB.out | apply bA | apply bN | apply bD | refine below_set ?_ GE377.out | refine below_set ?_ GE410.out) | exact HB.out))))
      have n7_ := aM (Kd.R_lower (Kd.R_new' (Kd.R_new' (Kd.R_new' (Kd.R_new' ho3 (Kd.R_lt (by (with_reducible repeat (first | apply rA | apply rN | apply rD)); exact HO_411002.out))) (Kd.R_lt (by (with_reducible repeat (first | apply rA | apply rN | apply rD)); exact HO_411003.out))) (Kd.R_lt (by (with_reducible repeat (first | apply rA | apply rN | apply rD)); exact HO_411004.out))) (Kd.R_lt (by (with_reducible repeat (first | apply rA | apply rN | apply rD)); exact HO_411005.out))) (below_size (by repeat (first | (with_reducible first | exact HB.out | apply bA | apply bN | apply bD | refine below_set ?_ GE377.out | refine below_set ?_ GE410.out) | exact HB.out))))
      have n8_ := aM (blk_below (g := gb377) (o := .cells #[.int .i64 a0_0, .string a0_1, .slice A0_2 l0_2.length c0_2, .slice A0_3 l0_3.length c0_3, .slice A0_4 l0_4.length c0_4, .slice A0_5 l0_5.length c0_5, .int .i64 a0_6] 36 (0, 0)) (by (with_reducible repeat (first | refine blk_drewN ?_ _ | refine blk_drew ?_ | refine blk_alloc ?_ _)); exact BK377.out) hb)
      have n9_ := aM (blk_below (g := gb410) (o := .cells #[.int .i64 t395, .string t396, .slice Ao25 t397.length co25, .slice Ao26 t400.length co26, .slice Ao27 t403.length co27, .slice Ao28 t406.length co28, .int .i64 t409] 39 (0, 0)) (by (with_reducible repeat (first | refine blk_drewN ?_ _ | refine blk_drew ?_ | refine blk_alloc ?_ _)); exact BK410.out) hb)
      have n10_ := aM (below_step (by repeat (first | (with_reducible first | exact HB.out | apply bA | apply bN | apply bD | refine below_set ?_ GE377.out | refine below_set ?_ GE410.out) | exact HB.out)) hb)
      clear HO_411002
      clear HO_411003
      clear HO_411004
      clear HO_411005
      clear BK377
      clear BK410
      clear HB
      have HO_411002 := n0_
      have HO_411003 := n1_
      have HO_411004 := n2_
      have HO_411005 := n3_
      have HO416 := n4_
      have HO419 := n5_
      have HO422 := n6_
      have HO425 := n7_
      have BK377 := n8_
      have BK410 := n9_
      have HB := n10_
      clear n0_ n1_ n2_ n3_ n4_ n5_ n6_ n7_ n8_ n9_ n10_
      (try clear hb)
      (try clear hb2)
      (try clear hk)
      (try clear hi)
      (try clear ho0)
      (try clear ho1)
      (try clear ho2)
      (try clear ho3)
      obtain ⟨Ao43, co43, eo43⟩ := Kd.R_slice HO416.out
      (first | subst eo43 | (injection eo43 with f1_ f2_ f3_; have f4_ := f1_.symm; have f5_ := f3_.symm; clear f1_ f2_ f3_; subst f4_; subst f5_))
      obtain ⟨Ao44, co44, eo44⟩ := Kd.R_slice HO419.out
      (first | subst eo44 | (injection eo44 with f1_ f2_ f3_; have f4_ := f1_.symm; have f5_ := f3_.symm; clear f1_ f2_ f3_; subst f4_; subst f5_))
      obtain ⟨Ao45, co45, eo45⟩ := Kd.R_slice HO422.out
      (first | subst eo45 | (injection eo45 with f1_ f2_ f3_; have f4_ := f1_.symm; have f5_ := f3_.symm; clear f1_ f2_ f3_; subst f4_; subst f5_))
      obtain ⟨Ao46, co46, eo46⟩ := Kd.R_slice HO425.out
      (first | subst eo46 | (injection eo46 with f1_ f2_ f3_; have f4_ := f1_.symm; have f5_ := f3_.symm; clear f1_ f2_ f3_; subst f4_; subst f5_))
      refine hK.out _ _ ⟨(blk_cell BK410.out 0).trans rfl, (blk_cell BK410.out 1).trans rfl, (blk_cell BK410.out 2).trans rfl, (blk_cell BK410.out 3).trans rfl, (blk_cell BK410.out 4).trans rfl, (blk_cell BK410.out 5).trans rfl, (blk_cell BK410.out 6).trans rfl, (blk_cell BK377.out 0).trans rfl, (blk_cell BK377.out 1).trans rfl, (blk_cell BK377.out 2).trans rfl, (blk_cell BK377.out 3).trans rfl, (blk_cell BK377.out 4).trans rfl, (blk_cell BK377.out 5).trans rfl, (blk_cell BK377.out 6).trans rfl⟩ (fun hHeld => ?_)
      clear hK K
      refine norm_ (a' := ?_) ?_ ?_
      rotate_left
      ·show Act.put _ (some 24) _ = _
       simp only [Act.put, sI, sZ, sS, i64_w, i32_w]
       rfl
      refine one_ (i := 3) (N := some 25) mklaws_F34_4 rfl rfl (by kernel_rfl) (by decide) (fun K hK => ?_)
      refine goes_ Try.func20 (by kernel_rfl) rfl #[.agg #[.int .i64 t395, .string t396, .slice Ao25 t397.length co25, .slice Ao26 t400.length co26, .slice Ao27 t403.length co27, .slice Ao28 t406.length co28, .int .i64 t409], .agg #[.int .i64 t412, .string t413, .slice Ao43 t414.length co43, .slice Ao44 t417.length co44, .slice Ao45 t420.length co45, .slice Ao46 t423.length co46, .int .i64 t426]] (by rfl) rfl rfl gQ ?_
      with_reducible refine (laws_eqFeatureLine.calls kj11 t395 t396 _ _ t397 _ _ t400 _ _ t403 _ _ t406 t409 t412 t413 _ _ t414 _ _ t417 _ _ t420 _ _ t423 t426 false _ ?side1 ?side2 ?side3 ?side4 ?side5 ?side6 ?side7 ?side8 ?side9 ?side10 ?side11 ?side12 ?side13 ?side14 ?side15 ?side16 A32.out).mono ?_
      (case side1 => repeat (first | exact (Kd.R_reads' HO_411002.out).2.2 | (with_reducible first | refine cA ?_ _ | refine cN ?_ _ | refine cD ?_)))
      (case side2 => exact (Kd.R_reads' HO_411002.out).2.1)
      (case side3 => repeat (first | exact (Kd.R_reads' HO_411003.out).2.2 | (with_reducible first | refine cA ?_ _ | refine cN ?_ _ | refine cD ?_)))
      (case side4 => exact (Kd.R_reads' HO_411003.out).2.1)
      (case side5 => repeat (first | exact (Kd.R_reads' HO_411004.out).2.2 | (with_reducible first | refine cA ?_ _ | refine cN ?_ _ | refine cD ?_)))
      (case side6 => exact (Kd.R_reads' HO_411004.out).2.1)
      (case side7 => repeat (first | exact (Kd.R_reads' HO_411005.out).2.2 | (with_reducible first | refine cA ?_ _ | refine cN ?_ _ | refine cD ?_)))
      (case side8 => exact (Kd.R_reads' HO_411005.out).2.1)
      (case side9 => repeat (first | exact (Kd.R_reads' HO416.out).2.2 | (with_reducible first | refine cA ?_ _ | refine cN ?_ _ | refine cD ?_)))
      (case side10 => exact (Kd.R_reads' HO416.out).2.1)
      (case side11 => repeat (first | exact (Kd.R_reads' HO419.out).2.2 | (with_reducible first | refine cA ?_ _ | refine cN ?_ _ | refine cD ?_)))
      (case side12 => exact (Kd.R_reads' HO419.out).2.1)
      (case side13 => repeat (first | exact (Kd.R_reads' HO422.out).2.2 | (with_reducible first | refine cA ?_ _ | refine cN ?_ _ | refine cD ?_)))
      (case side14 => exact (Kd.R_reads' HO422.out).2.1)
      (case side15 => repeat (first | exact (Kd.R_reads' HO425.out).2.2 | (with_reducible first | refine cA ?_ _ | refine cN ?_ _ | refine cD ?_)))
      (case side16 => exact (Kd.R_reads' HO425.out).2.1)
      rintro e w47 ⟨rfl, hb⟩
      refine ⟨_, rfl, ?_⟩
      have n0_ := aM (Kd.R_below (by (with_reducible repeat (first | apply rA | apply rN | apply rD)); exact HO_411002.out) hb)
      have n1_ := aM (Kd.R_below (by (with_reducible repeat (first | apply rA | apply rN | apply rD)); exact HO_411003.out) hb)
      have n2_ := aM (Kd.R_below (by (with_reducible repeat (first | apply rA | apply rN | apply rD)); exact HO_411004.out) hb)
      have n3_ := aM (Kd.R_below (by (with_reducible repeat (first | apply rA | apply rN | apply rD)); exact HO_411005.out) hb)
      have n4_ := aM (Kd.R_below (by (with_reducible repeat (first | apply rA | apply rN | apply rD)); exact HO416.out) hb)
      have n5_ := aM (Kd.R_below (by (with_reducible repeat (first | apply rA | apply rN | apply rD)); exact HO419.out) hb)
      have n6_ := aM (Kd.R_below (by (with_reducible repeat (first | apply rA | apply rN | apply rD)); exact HO422.out) hb)
      have n7_ := aM (Kd.R_below (by (with_reducible repeat (first | apply rA | apply rN | apply rD)); exact HO425.out) hb)
      have n8_ := aM (blk_below (g := gb377) (o := .cells #[.int .i64 a0_0, .string a0_1, .slice A0_2 l0_2.length c0_2, .slice A0_3 l0_3.length c0_3, .slice A0_4 l0_4.length c0_4, .slice A0_5 l0_5.length c0_5, .int .i64 a0_6] 36 (0, 0)) (by (with_reducible repeat (first | refine blk_drewN ?_ _ | refine blk_drew ?_ | refine blk_alloc ?_ _)); exact BK377.out) hb)
      have n9_ := aM (blk_below (g := gb410) (o := .cells #[.int .i64 t395, .string t396, .slice Ao25 t397.length co25, .slice Ao26 t400.length co26, .slice Ao27 t403.length co27, .slice Ao28 t406.length co28, .int .i64 t409] 39 (0, 0)) (by (with_reducible repeat (first | refine blk_drewN ?_ _ | refine blk_drew ?_ | refine blk_alloc ?_ _)); exact BK410.out) hb)
      have n10_ := aM (below_step (by repeat (first | (with_reducible first | exact HB.out | apply bA | apply bN | apply bD | refine below_set ?_ GE377.out | refine below_set ?_ GE410.out) | exact HB.out)) hb)
      clear HO_411002
      clear HO_411003
      clear HO_411004
      clear HO_411005
      clear HO416
      clear HO419
      clear HO422
      clear HO425
      clear BK377
      clear BK410
      clear HB
      have HO_411002 := n0_
      have HO_411003 := n1_
      have HO_411004 := n2_
      have HO_411005 := n3_
      have HO416 := n4_
      have HO419 := n5_
      have HO422 := n6_
      have HO425 := n7_
      have BK377 := n8_
      have BK410 := n9_
      have HB := n10_
      clear n0_ n1_ n2_ n3_ n4_ n5_ n6_ n7_ n8_ n9_ n10_
      (try clear hb)
      (try clear hb2)
      (try clear hk)
      (try clear hi)
      refine hK.out _ _ ⟨(blk_cell BK410.out 0).trans rfl, (blk_cell BK410.out 1).trans rfl, (blk_cell BK410.out 2).trans rfl, (blk_cell BK410.out 3).trans rfl, (blk_cell BK410.out 4).trans rfl, (blk_cell BK410.out 5).trans rfl, (blk_cell BK410.out 6).trans rfl, (blk_cell BK377.out 0).trans rfl, (blk_cell BK377.out 1).trans rfl, (blk_cell BK377.out 2).trans rfl, (blk_cell BK377.out 3).trans rfl, (blk_cell BK377.out 4).trans rfl, (blk_cell BK377.out 5).trans rfl, (blk_cell BK377.out 6).trans rfl⟩ (fun hHeld => ?_)
      clear hK K
      refine norm_ (a' := ?_) ?_ ?_
      rotate_left
      ·show Act.put _ (some 25) _ = _
       simp only [Act.put, sI, sZ, sS, i64_w, i32_w]
       rfl
      refine pure_ (i := 4) (N := some 26) (v := ?_) (a' := ?_) mklaws_F34_5 rfl rfl (by kernel_rfl) (fun _ _ _ h => h) (Or.inl ⟨by rfl, ?_⟩) ?_ ?_
      rotate_left
      ·intro w'
       go_simp
       with_reducible rfl
      rotate_left
      ·simp only [Act.put, sI, sZ, sS, i64_w, i32_w]
       rfl
      refine done_ (by kernel_rfl) ?_
      try go_wp2
      go_ret
      exact ⟨eQ, by repeat (first | (with_reducible first | exact HB.out | apply bA | apply bN | apply bD | refine below_set ?_ GE377.out | refine below_set ?_ GE410.out) | exact HB.out)⟩

end Go.Proofs.Ytfabhfdjabehpaa.QFnExactLineText
