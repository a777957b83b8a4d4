/- What some Go functions answer, each as a Lean function, and that the machine answers so: written by a program of this session out of the translation. -/
import Derived.Test.YtklflfdkkddfdaaQFnExactValidLinex0
import Derived.Test.YtklflfdkkddfdaaQFnExactValidLinex1
import Derived.Test.YtklflfdkkddfdaaQFnExactValidLinex4
import Derived.Test.YtklflfdkkddfdaaQFnExactValidLinex6
import Derived.Test.YtklflfdkkddfdaaQFnExactValidLinex7
namespace Go.Proofs.Ytklflfdkkddfdaa.QFnExactValidLine
open Go.RowKit Go.Proofs.YtklflfdkkddfdaaW.PrintWords Go.Proofs.YtklflfdkkddfdaaW.PrintLast Go.Proofs.YtklflfdkkddfdaaW.PrintMore Go.Proofs.Ytklflfdkkddfdaa.Rp
attribute [local go_sem] max2_int min2_int max_two min_two max_three min_three max_four min_four   -- for this text's walks alone
set_option linter.unusedVariables false
set_option linter.unusedSimpArgs false

/-! ### laws_FnExactValidLine: function 3 -/
mutual
def laws_FnExactValidLine.j0 : Nat → Int → ByteArray → List ByteArray → List ByteArray → List ByteArray → List ByteArray → Int → Option (Bool)
 | 0, _, _, _, _, _, _, _ => none
 | k + 1, x230000, x230001, x230002, x230003, x230004, x230005, x230006 => (laws_toFeatureLine.f k x230000 x230001 x230002 x230003 x230004 x230005 x230006).bind fun bt231 => ((spec_ValidLine.f k bt231.1 bt231.2.1 bt231.2.2.1 bt231.2.2.2.1 bt231.2.2.2.2.1 bt231.2.2.2.2.2.1 bt231.2.2.2.2.2.2).bind fun t246 => ((laws_toFeatureLine.f k x230000 x230001 x230002 x230003 x230004 x230005 x230006).bind fun bt247 => ((impl_ValidLine.f k bt247.1 bt247.2.1 bt247.2.2.1 bt247.2.2.2.1 bt247.2.2.2.2.1 bt247.2.2.2.2.2.1 bt247.2.2.2.2.2.2).bind fun t263 => (if (t263 != t246) = true then (some false) else (laws_FnExactValidLine.j1 k x230000 x230001 x230002 x230003 x230004 x230005 x230006 bt247.1 bt247.2.1 bt247.2.2.1 bt247.2.2.2.1 bt247.2.2.2.2.1 bt247.2.2.2.2.2.1 bt247.2.2.2.2.2.2)))))
def laws_FnExactValidLine.j1 : Nat → Int → ByteArray → List ByteArray → List ByteArray → List ByteArray → List ByteArray → Int → Int → ByteArray → List ByteArray → List ByteArray → List ByteArray → List ByteArray → Int → Option (Bool)
 | 0, _, _, _, _, _, _, _, _, _, _, _, _, _, _ => none
 | k + 1, x230000, x230001, x230002, x230003, x230004, x230005, x230006, x263000, x263001, x263002, x263003, x263004, x263005, x263006 => (laws_toFeatureLine.f k x230000 x230001 x230002 x230003 x230004 x230005 x230006).bind fun bt264 => ((laws_eqFeatureLine.f k x263000 x263001 x263002 x263003 x263004 x263005 x263006 bt264.1 bt264.2.1 bt264.2.2.1 bt264.2.2.2.1 bt264.2.2.2.2.1 bt264.2.2.2.2.2.1 bt264.2.2.2.2.2.2).bind fun t279 => (if t279 = true then (some true) else (some false)))
end
def laws_FnExactValidLine.f (k : Nat) (a0_0 : Int) (a0_1 : ByteArray) (l0_2 : List ByteArray) (l0_3 : List ByteArray) (l0_4 : List ByteArray) (l0_5 : List ByteArray) (a0_6 : Int) : Option (Bool) := (laws_szFeatureLine.f k a0_0 a0_1 l0_2 l0_3 l0_4 l0_5 a0_6 1048576).bind fun t230 => (if t230 < 0 then (some true) else (laws_FnExactValidLine.j0 k a0_0 a0_1 l0_2 l0_3 l0_4 l0_5 a0_6))
theorem laws_FnExactValidLine.mono_l : ∀ k, (∀ y0 y1 y2 y3 y4 y5 y6, LeO (laws_FnExactValidLine.j0 k y0 y1 y2 y3 y4 y5 y6) (laws_FnExactValidLine.j0 (k + 1) y0 y1 y2 y3 y4 y5 y6)) ∧ (∀ y0 y1 y2 y3 y4 y5 y6 y7 y8 y9 y10 y11 y12 y13, LeO (laws_FnExactValidLine.j1 k y0 y1 y2 y3 y4 y5 y6 y7 y8 y9 y10 y11 y12 y13) (laws_FnExactValidLine.j1 (k + 1) y0 y1 y2 y3 y4 y5 y6 y7 y8 y9 y10 y11 y12 y13))
 | 0 => ⟨fun _ _ _ _ _ _ _ r h => by simp [laws_FnExactValidLine.j0] at h, fun _ _ _ _ _ _ _ _ _ _ _ _ _ _ r h => by simp [laws_FnExactValidLine.j1] at h⟩
 | k + 1 => by
  obtain ⟨ih0, ih1⟩ := laws_FnExactValidLine.mono_l k
  refine ⟨?_, ?_⟩
  ·intro y0 y1 y2 y3 y4 y5 y6
   unfold laws_FnExactValidLine.j0
   repeat' first
   | (with_reducible exact ih0 _ _ _ _ _ _ _)
   | (with_reducible exact ih1 _ _ _ _ _ _ _ _ _ _ _ _ _ _)
   | (with_reducible exact impl_ValidLine.mono _ _ _ _ _ _ _ _)
   | (with_reducible exact laws_eqFeatureLine.mono _ _ _ _ _ _ _ _ _ _ _ _ _ _ _)
   | (with_reducible exact laws_szFeatureLine.mono _ _ _ _ _ _ _ _ _)
   | (with_reducible exact laws_toFeatureLine.mono _ _ _ _ _ _ _ _)
   | (with_reducible exact spec_ValidLine.mono _ _ _ _ _ _ _ _)
   | (with_reducible exact LeO.refl _)
   | (with_reducible exact LeO.none _)
   | (with_reducible refine LeO.ite ?_ ?_)
   | (with_reducible refine LeO.bind ?_ (fun _ => ?_))
   | exact ih0 _ _ _ _ _ _ _
   | exact ih1 _ _ _ _ _ _ _ _ _ _ _ _ _ _
   | exact impl_ValidLine.mono _ _ _ _ _ _ _ _
   | exact laws_eqFeatureLine.mono _ _ _ _ _ _ _ _ _ _ _ _ _ _ _
   | exact laws_szFeatureLine.mono _ _ _ _ _ _ _ _ _
   | exact laws_toFeatureLine.mono _ _ _ _ _ _ _ _
   | exact spec_ValidLine.mono _ _ _ _ _ _ _ _
   | exact LeO.none _
   | refine LeO.ite ?_ ?_
   | refine LeO.bind ?_ (fun _ => ?_)
  ·intro y0 y1 y2 y3 y4 y5 y6 y7 y8 y9 y10 y11 y12 y13
   unfold laws_FnExactValidLine.j1
   repeat' first
   | (with_reducible exact ih0 _ _ _ _ _ _ _)
   | (with_reducible exact ih1 _ _ _ _ _ _ _ _ _ _ _ _ _ _)
   | (with_reducible exact impl_ValidLine.mono _ _ _ _ _ _ _ _)
   | (with_reducible exact laws_eqFeatureLine.mono _ _ _ _ _ _ _ _ _ _ _ _ _ _ _)
   | (with_reducible exact laws_szFeatureLine.mono _ _ _ _ _ _ _ _ _)
   | (with_reducible exact laws_toFeatureLine.mono _ _ _ _ _ _ _ _)
   | (with_reducible exact spec_ValidLine.mono _ _ _ _ _ _ _ _)
   | (with_reducible exact LeO.refl _)
   | (with_reducible exact LeO.none _)
   | (with_reducible refine LeO.ite ?_ ?_)
   | (with_reducible refine LeO.bind ?_ (fun _ => ?_))
   | exact ih0 _ _ _ _ _ _ _
   | exact ih1 _ _ _ _ _ _ _ _ _ _ _ _ _ _
   | exact impl_ValidLine.mono _ _ _ _ _ _ _ _
   | exact laws_eqFeatureLine.mono _ _ _ _ _ _ _ _ _ _ _ _ _ _ _
   | exact laws_szFeatureLine.mono _ _ _ _ _ _ _ _ _
   | exact laws_toFeatureLine.mono _ _ _ _ _ _ _ _
   | exact spec_ValidLine.mono _ _ _ _ _ _ _ _
   | exact LeO.none _
   | refine LeO.ite ?_ ?_
   | refine LeO.bind ?_ (fun _ => ?_)
theorem laws_FnExactValidLine.mono : ∀ a0 a1 a2 a3 a4 a5 a6 k, LeO (laws_FnExactValidLine.f k a0 a1 a2 a3 a4 a5 a6) (laws_FnExactValidLine.f (k + 1) a0 a1 a2 a3 a4 a5 a6) := by
 intro a0 a1 a2 a3 a4 a5 a6 k
 obtain ⟨ih0, ih1⟩ := laws_FnExactValidLine.mono_l k
 unfold laws_FnExactValidLine.f
 repeat' first
   | (with_reducible exact ih0 _ _ _ _ _ _ _)
   | (with_reducible exact ih1 _ _ _ _ _ _ _ _ _ _ _ _ _ _)
   | (with_reducible exact impl_ValidLine.mono _ _ _ _ _ _ _ _)
   | (with_reducible exact laws_eqFeatureLine.mono _ _ _ _ _ _ _ _ _ _ _ _ _ _ _)
   | (with_reducible exact laws_szFeatureLine.mono _ _ _ _ _ _ _ _ _)
   | (with_reducible exact laws_toFeatureLine.mono _ _ _ _ _ _ _ _)
   | (with_reducible exact spec_ValidLine.mono _ _ _ _ _ _ _ _)
   | (with_reducible exact LeO.refl _)
   | (with_reducible exact LeO.none _)
   | (with_reducible refine LeO.ite ?_ ?_)
   | (with_reducible refine LeO.bind ?_ (fun _ => ?_))
   | exact ih0 _ _ _ _ _ _ _
   | exact ih1 _ _ _ _ _ _ _ _ _ _ _ _ _ _
   | exact impl_ValidLine.mono _ _ _ _ _ _ _ _
   | exact laws_eqFeatureLine.mono _ _ _ _ _ _ _ _ _ _ _ _ _ _ _
   | exact laws_szFeatureLine.mono _ _ _ _ _ _ _ _ _
   | exact laws_toFeatureLine.mono _ _ _ _ _ _ _ _
   | exact spec_ValidLine.mono _ _ _ _ _ _ _ _
   | exact LeO.none _
   | refine LeO.ite ?_ ?_
   | refine LeO.bind ?_ (fun _ => ?_)
set_option maxHeartbeats 8000000 in
set_option maxRecDepth 100000 in
theorem laws_FnExactValidLine.calls (k : Nat) (a0_0 : Int) (a0_1 : ByteArray) (A0_2 : Option Addr) (c0_2 : Nat) (l0_2 : List ByteArray) (A0_3 : Option Addr) (c0_3 : Nat) (l0_3 : List ByteArray) (A0_4 : Option Addr) (c0_4 : Nat) (l0_4 : List ByteArray) (A0_5 : Option Addr) (c0_5 : Nat) (l0_5 : List ByteArray) (a0_6 : Int) (r : Bool) (w : World) (hr0_2 : Kd.C Kd.string w A0_2 l0_2.length l0_2) (hc0_2 : l0_2.length ≤ c0_2) (hr0_3 : Kd.C Kd.string w A0_3 l0_3.length l0_3) (hc0_3 : l0_3.length ≤ c0_3) (hr0_4 : Kd.C Kd.string w A0_4 l0_4.length l0_4) (hc0_4 : l0_4.length ≤ c0_4) (hr0_5 : Kd.C Kd.string w A0_5 l0_5.length l0_5) (hc0_5 : l0_5.length ≤ c0_5) (h : laws_FnExactValidLine.f k a0_0 a0_1 l0_2 l0_3 l0_4 l0_5 a0_6 = some r) :
  Calls Try.prog 3 #[.agg #[.int .i64 a0_0, .string a0_1, .slice A0_2 l0_2.length c0_2, .slice A0_3 l0_3.length c0_3, .slice A0_4 l0_4.length c0_4, .slice A0_5 l0_5.length c0_5, .int .i64 a0_6]] w fun e w' => e = .returned (.bool r) ∧ Below w.heap.size w w' := by
 have hu24 := Try.underlying24
 have hu27 := Try.underlying27
 have HR0_2 := aM hr0_2
 have HC0_2 := aM hc0_2
 clear hr0_2 hc0_2
 have HR0_3 := aM hr0_3
 have HC0_3 := aM hc0_3
 clear hr0_3 hc0_3
 have HR0_4 := aM hr0_4
 have HC0_4 := aM hc0_4
 clear hr0_4 hc0_4
 have HR0_5 := aM hr0_5
 have HC0_5 := aM hc0_5
 clear hr0_5 hc0_5
 have HB := aM (Below.refl w.heap.size w)
 have H : ((laws_szFeatureLine.f k a0_0 a0_1 l0_2 l0_3 l0_4 l0_5 a0_6 1048576).bind fun t230 => (if t230 < 0 then (some true) else (laws_FnExactValidLine.j0 k a0_0 a0_1 l0_2 l0_3 l0_4 l0_5 a0_6))) = some r := h
 clear h
 replace H := Option.bind_eq_some_iff.mp H
 obtain ⟨t230, A20, H⟩ := H
 replace H : (if t230 < 0 then (some true) else (laws_FnExactValidLine.j0 k a0_0 a0_1 l0_2 l0_3 l0_4 l0_5 a0_6)) = some r := H
 have A2 := aM A20
 clear A20
 have HC3 := aM H
 clear H
 go_enter Try.func3, Try.ntmps3
 go_upto_if 11 with (first | ((with_reducible refine gate_dst (N := 1) rfl ?_); refine box_event ?hg (N := 1) ?hd (cs := #[.int .i64 a0_0, .string a0_1, .slice A0_2 l0_2.length c0_2, .slice A0_3 l0_3.length c0_3, .slice A0_4 l0_4.length c0_4, .slice A0_5 l0_5.length c0_5, .int .i64 a0_6]) (t := 24) ?hr ?_; (case hd => rfl); (case hg => rfl); (case hr => first | (go_simp; done) | (go_simp; rfl)); intro gb229 hg w4 hbox hb; have n0_ := aM (below_step (by repeat (first | (with_reducible first | exact HB.out | apply bA | apply bN | apply bD) | exact HB.out)) hb); have n1_ := aM (hbox); have n2_ := aM ((by rw [hg]; exact (below_size (by repeat (first | (with_reducible first | exact HB.out | apply bA | apply bN | apply bD) | exact HB.out))) : w.heap.size ≤ gb229)); have n3_ := aM ((by rw [hg]; exact (below_size (by repeat (first | (with_reducible first | exact HB.out | apply bA | apply bN | apply bD) | exact HB.out))) : w.heap.size ≤ gb229)); clear HB; have HB := n0_; have BK229 := n1_; have GW229 := n2_; have GE229 := n3_; clear n0_ n1_ n2_ n3_; clear hb hbox hg; have hcz5_0 : w4.cell? ⟨gb229, 0, none⟩ = some (.int .i64 a0_0) := (blk_cell BK229.out 0).trans rfl; have hcz5_1 : w4.cell? ⟨gb229, 1, none⟩ = some (.string a0_1) := (blk_cell BK229.out 1).trans rfl; have hcz5_2 : w4.cell? ⟨gb229, 2, none⟩ = some (.slice A0_2 l0_2.length c0_2) := (blk_cell BK229.out 2).trans rfl; have hcz5_3 : w4.cell? ⟨gb229, 3, none⟩ = some (.slice A0_3 l0_3.length c0_3) := (blk_cell BK229.out 3).trans rfl; have hcz5_4 : w4.cell? ⟨gb229, 4, none⟩ = some (.slice A0_4 l0_4.length c0_4) := (blk_cell BK229.out 4).trans rfl; have hcz5_5 : w4.cell? ⟨gb229, 5, none⟩ = some (.slice A0_5 l0_5.length c0_5) := (blk_cell BK229.out 5).trans rfl; have hcz5_6 : w4.cell? ⟨gb229, 6, none⟩ = some (.int .i64 a0_6) := (blk_cell BK229.out 6).trans rfl; have hfz5_0 := blk_frozen BK229.out 0; have hfz5_1 := blk_frozen BK229.out 1; have hfz5_2 := blk_frozen BK229.out 2; have hfz5_3 := blk_frozen BK229.out 3; have hfz5_4 := blk_frozen BK229.out 4; have hfz5_5 := blk_frozen BK229.out 5; have hfz5_6 := blk_frozen BK229.out 6) | ((with_reducible refine gate_callee (f := 8) rfl ?_); refine goesL_ (some 9) rfl rfl Try.func8 (by kernel_rfl) rfl #[.agg #[.int .i64 a0_0, .string a0_1, .slice A0_2 l0_2.length c0_2, .slice A0_3 l0_3.length c0_3, .slice A0_4 l0_4.length c0_4, .slice A0_5 l0_5.length c0_5, .int .i64 a0_6], .int .i64 1048576] rfl (by (try simp only [List.map_toArray, List.map_cons, List.map_nil]); first | done | rfl | (simp only [List.length_drop, List.length_take]; rfl)) ?_; (with_reducible refine (laws_szFeatureLine.calls k a0_0 a0_1 _ _ l0_2 _ _ l0_3 _ _ l0_4 _ _ l0_5 a0_6 1048576 t230 _ ?side1 ?side2 ?side3 ?side4 ?side5 ?side6 ?side7 ?side8 A2.out).mono ?_); (case side1 => repeat (first | exact (Kd.C_below HR0_2.out HB.out) | (with_reducible first | refine cA ?_ _ | refine cN ?_ _ | refine cD ?_))); (case side2 => exact HC0_2.out); (case side3 => repeat (first | exact (Kd.C_below HR0_3.out HB.out) | (with_reducible first | refine cA ?_ _ | refine cN ?_ _ | refine cD ?_))); (case side4 => exact HC0_3.out); (case side5 => repeat (first | exact (Kd.C_below HR0_4.out HB.out) | (with_reducible first | refine cA ?_ _ | refine cN ?_ _ | refine cD ?_))); (case side6 => exact HC0_4.out); (case side7 => repeat (first | exact (Kd.C_below HR0_5.out HB.out) | (with_reducible first | refine cA ?_ _ | refine cN ?_ _ | refine cD ?_))); (case side8 => exact HC0_5.out); rintro e w6 ⟨rfl, hb⟩; refine ⟨_, rfl, ?_⟩; have n0_ := aM (blk_below (g := gb229) (o := .cells #[.int .i64 a0_0, .string a0_1, .slice A0_2 l0_2.length c0_2, .slice A0_3 l0_3.length c0_3, .slice A0_4 l0_4.length c0_4, .slice A0_5 l0_5.length c0_5, .int .i64 a0_6] 24 (0, 0)) (by (with_reducible repeat (first | refine blk_drewN ?_ _ | refine blk_drew ?_ | refine blk_alloc ?_ _)); exact BK229.out) hb); have n1_ := aM (below_step (by repeat (first | (with_reducible first | exact HB.out | apply bA | apply bN | apply bD | refine below_set ?_ GE229.out) | exact HB.out)) hb); clear BK229; clear HB; have BK229 := n0_; have HB := n1_; clear n0_ n1_; (try clear hb); (try clear hb2); (try clear hk); (try clear hi)))
 (try simp only [Act.put, List.setIfInBounds_toArray, List.set_cons_zero, List.set_cons_succ])
 go_cut [] (fun wc => ∃ (kq : Nat), Aside0 (laws_FnExactValidLine.j0 kq a0_0 a0_1 l0_2 l0_3 l0_4 l0_5 a0_6 = some r) ∧ Aside0 (kq ≤ k) ∧ Aside0 (wc.heap[gb229]? = some (.cells #[.int .i64 a0_0, .string a0_1, (.slice A0_2 l0_2.length c0_2), (.slice A0_3 l0_3.length c0_3), (.slice A0_4 l0_4.length c0_4), (.slice A0_5 l0_5.length c0_5), .int .i64 a0_6] 24 (0, 0))) ∧ Aside0 (Below w.heap.size w wc))
 case first =>
  have H := HC3.out
  clear HC3
  by_cases c7 : t230 < 0
  ·rw [if_pos c7] at H
   have c7b0 : decide (t230 < 0) = true := decide_eq_true c7
   clear c7
   (first | rw [c7b0] | (simp only [i64_w, i32_w]; rw [c7b0]) | rw [c7b1] | rw [c7b2] | rw [c7b3] | rw [c7b4] | skip)
   obtain rfl := Option.some.inj H
   go_wp2
   go_ret
   exact ⟨by first | rfl | (simp [errW_none, errW_some] <;> rfl) | (simp [*, errW_none, errW_some] <;> rfl), by repeat (first | (with_reducible first | exact HB.out | apply bA | apply bN | apply bD | refine below_set ?_ GE229.out) | exact HB.out)⟩
  ·rw [if_neg c7] at H
   have c7b0 : decide (t230 < 0) = false := decide_eq_false c7
   clear c7
   (first | rw [c7b0] | (simp only [i64_w, i32_w]; rw [c7b0]) | rw [c7b1] | rw [c7b2] | rw [c7b3] | rw [c7b4] | skip)
   have H' := aM H
   clear H
   go_wp2
   go_meet
   case rel => exact ⟨_, H', ⟨by first | omega | exact Nat.le_refl _⟩, ⟨by (with_reducible repeat (first | refine blk_drewN ?_ _ | refine blk_drew ?_ | refine blk_alloc ?_ _)); exact BK229.out⟩, ⟨by repeat (first | (with_reducible first | exact HB.out | apply bA | apply bN | apply bD | refine below_set ?_ GE229.out) | exact HB.out)⟩⟩
 case rest =>
  clear HC3
  try clear p2
  try clear c3
  try clear c7
  try clear c7b0
  try clear c7b1
  try clear c7b2
  try clear hcz5_0
  try clear hcz5_1
  try clear hcz5_2
  try clear hcz5_3
  try clear hcz5_4
  try clear hcz5_5
  try clear hcz5_6
  try clear hfz5_0
  try clear hfz5_1
  try clear hfz5_2
  try clear hfz5_3
  try clear hfz5_4
  try clear hfz5_5
  try clear hfz5_6
  obtain ⟨kq, HA, HJ2, BK229, HB⟩ := hcut
  cases kq with
  | zero => exact absurd HA.out (by simp [laws_FnExactValidLine.j0])
  | succ kj2 =>
   have H := HA.out
   clear HA
   simp only [laws_FnExactValidLine.j0] at H
   replace H := Option.bind_eq_some_iff.mp H
   obtain ⟨⟨t231, t232, t233, t236, t239, t242, t245⟩, A80, H⟩ := H
   replace H : ((spec_ValidLine.f kj2 t231 t232 t233 t236 t239 t242 t245).bind fun t246 => ((laws_toFeatureLine.f kj2 a0_0 a0_1 l0_2 l0_3 l0_4 l0_5 a0_6).bind fun bt247 => ((impl_ValidLine.f kj2 bt247.1 bt247.2.1 bt247.2.2.1 bt247.2.2.2.1 bt247.2.2.2.2.1 bt247.2.2.2.2.2.1 bt247.2.2.2.2.2.2).bind fun t263 => (if (t263 != t246) = true then (some false) else (laws_FnExactValidLine.j1 kj2 a0_0 a0_1 l0_2 l0_3 l0_4 l0_5 a0_6 bt247.1 bt247.2.1 bt247.2.2.1 bt247.2.2.2.1 bt247.2.2.2.2.1 bt247.2.2.2.2.2.1 bt247.2.2.2.2.2.2))))) = some r := H
   have A8 := aM A80
   clear A80
   replace H := Option.bind_eq_some_iff.mp H
   obtain ⟨t246, A90, H⟩ := H
   replace H : ((laws_toFeatureLine.f kj2 a0_0 a0_1 l0_2 l0_3 l0_4 l0_5 a0_6).bind fun bt247 => ((impl_ValidLine.f kj2 bt247.1 bt247.2.1 bt247.2.2.1 bt247.2.2.2.1 bt247.2.2.2.2.1 bt247.2.2.2.2.2.1 bt247.2.2.2.2.2.2).bind fun t263 => (if (t263 != t246) = true then (some false) else (laws_FnExactValidLine.j1 kj2 a0_0 a0_1 l0_2 l0_3 l0_4 l0_5 a0_6 bt247.1 bt247.2.1 bt247.2.2.1 bt247.2.2.2.1 bt247.2.2.2.2.1 bt247.2.2.2.2.2.1 bt247.2.2.2.2.2.2)))) = some r := H
   have A9 := aM A90
   clear A90
   replace H := Option.bind_eq_some_iff.mp H
   obtain ⟨⟨t247, t248, t249, t252, t255, t258, t261⟩, A100, H⟩ := H
   replace H : ((impl_ValidLine.f kj2 t247 t248 t249 t252 t255 t258 t261).bind fun t263 => (if (t263 != t246) = true then (some false) else (laws_FnExactValidLine.j1 kj2 a0_0 a0_1 l0_2 l0_3 l0_4 l0_5 a0_6 t247 t248 t249 t252 t255 t258 t261))) = some r := H
   have A10 := aM A100
   clear A100
   replace H := Option.bind_eq_some_iff.mp H
   obtain ⟨t263, A110, H⟩ := H
   replace H : (if (t263 != t246) = true then (some false) else (laws_FnExactValidLine.j1 kj2 a0_0 a0_1 l0_2 l0_3 l0_4 l0_5 a0_6 t247 t248 t249 t252 t255 t258 t261)) = some r := H
   have A11 := aM A110
   clear A110
   have HC12 := aM H
   clear H
   have hcz13_0 : wc.cell? ⟨gb229, 0, none⟩ = some (.int .i64 a0_0) := (blk_cell BK229.out 0).trans rfl
   have hcz13_1 : wc.cell? ⟨gb229, 1, none⟩ = some (.string a0_1) := (blk_cell BK229.out 1).trans rfl
   have hcz13_2 : wc.cell? ⟨gb229, 2, none⟩ = some (.slice A0_2 l0_2.length c0_2) := (blk_cell BK229.out 2).trans rfl
   have hcz13_3 : wc.cell? ⟨gb229, 3, none⟩ = some (.slice A0_3 l0_3.length c0_3) := (blk_cell BK229.out 3).trans rfl
   have hcz13_4 : wc.cell? ⟨gb229, 4, none⟩ = some (.slice A0_4 l0_4.length c0_4) := (blk_cell BK229.out 4).trans rfl
   have hcz13_5 : wc.cell? ⟨gb229, 5, none⟩ = some (.slice A0_5 l0_5.length c0_5) := (blk_cell BK229.out 5).trans rfl
   have hcz13_6 : wc.cell? ⟨gb229, 6, none⟩ = some (.int .i64 a0_6) := (blk_cell BK229.out 6).trans rfl
   have hfz13_0 := blk_frozen BK229.out 0
   have hfz13_1 := blk_frozen BK229.out 1
   have hfz13_2 := blk_frozen BK229.out 2
   have hfz13_3 := blk_frozen BK229.out 3
   have hfz13_4 := blk_frozen BK229.out 4
   have hfz13_5 := blk_frozen BK229.out 5
   have hfz13_6 := blk_frozen BK229.out 6
   go_upto_if 21 with (first | ((with_reducible refine gate_callee (f := 10) rfl ?_); refine goesL_ (some 13) rfl rfl Try.func10 (by kernel_rfl) rfl #[.agg #[.int .i64 a0_0, .string a0_1, .slice A0_2 l0_2.length c0_2, .slice A0_3 l0_3.length c0_3, .slice A0_4 l0_4.length c0_4, .slice A0_5 l0_5.length c0_5, .int .i64 a0_6]] rfl (by (try simp only [List.map_toArray, List.map_cons, List.map_nil]); first | done | rfl | (simp only [List.length_drop, List.length_take]; rfl)) ?_; (with_reducible refine (laws_toFeatureLine.calls kj2 a0_0 a0_1 _ _ l0_2 _ _ l0_3 _ _ l0_4 _ _ l0_5 a0_6 t231 t232 t233 t236 t239 t242 t245 _ ?side1 ?side2 ?side3 ?side4 ?side5 ?side6 ?side7 ?side8 A8.out).mono ?_); (case side1 => repeat (first | exact (Kd.C_below HR0_2.out HB.out) | (with_reducible first | refine cA ?_ _ | refine cN ?_ _ | refine cD ?_))); (case side2 => exact HC0_2.out); (case side3 => repeat (first | exact (Kd.C_below HR0_3.out HB.out) | (with_reducible first | refine cA ?_ _ | refine cN ?_ _ | refine cD ?_))); (case side4 => exact HC0_3.out); (case side5 => repeat (first | exact (Kd.C_below HR0_4.out HB.out) | (with_reducible first | refine cA ?_ _ | refine cN ?_ _ | refine cD ?_))); (case side6 => exact HC0_4.out); (case side7 => repeat (first | exact (Kd.C_below HR0_5.out HB.out) | (with_reducible first | refine cA ?_ _ | refine cN ?_ _ | refine cD ?_))); (case side8 => exact HC0_5.out); rintro e w14 ⟨v234, v237, v240, v243, rfl, ho0, ho1, ho2, ho3, hb⟩; refine ⟨_, rfl, ?_⟩; have n0_ := aM (Kd.R_lower ho0 (below_size (by repeat (first | (with_reducible first | exact HB.out | apply bA | apply bN | apply bD | refine below_set ?_ GE229.out) | exact HB.out)))); have n1_ := aM (Kd.R_lower ho1 (below_size (by repeat (first | (with_reducible first | exact HB.out | apply bA | apply bN | apply bD | refine below_set ?_ GE229.out) | exact HB.out)))); have n2_ := aM (Kd.R_lower ho2 (below_size (by repeat (first | (with_reducible first | exact HB.out | apply bA | apply bN | apply bD | refine below_set ?_ GE229.out) | exact HB.out)))); have n3_ := aM (Kd.R_lower ho3 (below_size (by repeat (first | (with_reducible first | exact HB.out | apply bA | apply bN | apply bD | refine below_set ?_ GE229.out) | exact HB.out)))); have n4_ := aM (blk_below (g := gb229) (o := .cells #[.int .i64 a0_0, .string a0_1, .slice A0_2 l0_2.length c0_2, .slice A0_3 l0_3.length c0_3, .slice A0_4 l0_4.length c0_4, .slice A0_5 l0_5.length c0_5, .int .i64 a0_6] 24 (0, 0)) (by (with_reducible repeat (first | refine blk_drewN ?_ _ | refine blk_drew ?_ | refine blk_alloc ?_ _)); exact BK229.out) hb); have n5_ := aM (below_step (by repeat (first | (with_reducible first | exact HB.out | apply bA | apply bN | apply bD | refine below_set ?_ GE229.out) | exact HB.out)) hb); clear BK229; clear HB; have HO235 := n0_; have HO238 := n1_; have HO241 := n2_; have HO244 := n3_; have BK229 := n4_; have HB := n5_; clear n0_ n1_ n2_ n3_ n4_ n5_; (try clear hb); (try clear hb2); (try clear hk); (try clear hi); (try clear ho0); (try clear ho1); (try clear ho2); (try clear ho3); obtain ⟨Ao15, co15, eo15⟩ := Kd.R_slice HO235.out; subst eo15; obtain ⟨Ao16, co16, eo16⟩ := Kd.R_slice HO238.out; subst eo16; obtain ⟨Ao17, co17, eo17⟩ := Kd.R_slice HO241.out; subst eo17; obtain ⟨Ao18, co18, eo18⟩ := Kd.R_slice HO244.out; subst eo18) | ((with_reducible refine gate_callee (f := 9) rfl ?_); refine goesL_ (some 14) rfl rfl Try.func9 (by kernel_rfl) rfl #[.agg #[.int .i64 t231, .string t232, .slice Ao15 t233.length co15, .slice Ao16 t236.length co16, .slice Ao17 t239.length co17, .slice Ao18 t242.length co18, .int .i64 t245]] rfl (by (try simp only [List.map_toArray, List.map_cons, List.map_nil]); first | done | rfl | (simp only [List.length_drop, List.length_take]; rfl)) ?_; (with_reducible refine (spec_ValidLine.calls kj2 t231 t232 _ _ t233 _ _ t236 _ _ t239 _ _ t242 t245 t246 _ ?side1 ?side2 ?side3 ?side4 ?side5 ?side6 ?side7 ?side8 A9.out).mono ?_); (case side1 => repeat (first | exact (Kd.R_reads' HO235.out).2.2 | (with_reducible first | refine cA ?_ _ | refine cN ?_ _ | refine cD ?_))); (case side2 => exact (Kd.R_reads' HO235.out).2.1); (case side3 => repeat (first | exact (Kd.R_reads' HO238.out).2.2 | (with_reducible first | refine cA ?_ _ | refine cN ?_ _ | refine cD ?_))); (case side4 => exact (Kd.R_reads' HO238.out).2.1); (case side5 => repeat (first | exact (Kd.R_reads' HO241.out).2.2 | (with_reducible first | refine cA ?_ _ | refine cN ?_ _ | refine cD ?_))); (case side6 => exact (Kd.R_reads' HO241.out).2.1); (case side7 => repeat (first | exact (Kd.R_reads' HO244.out).2.2 | (with_reducible first | refine cA ?_ _ | refine cN ?_ _ | refine cD ?_))); (case side8 => exact (Kd.R_reads' HO244.out).2.1); rintro e w19 ⟨rfl, hb⟩; refine ⟨_, rfl, ?_⟩; have n0_ := aM (Kd.R_below (by (with_reducible repeat (first | apply rA | apply rN | apply rD)); exact HO235.out) hb); have n1_ := aM (Kd.R_below (by (with_reducible repeat (first | apply rA | apply rN | apply rD)); exact HO238.out) hb); have n2_ := aM (Kd.R_below (by (with_reducible repeat (first | apply rA | apply rN | apply rD)); exact HO241.out) hb); have n3_ := aM (Kd.R_below (by (with_reducible repeat (first | apply rA | apply rN | apply rD)); exact HO244.out) hb); have n4_ := aM (blk_below (g := gb229) (o := .cells #[.int .i64 a0_0, .string a0_1, .slice A0_2 l0_2.length c0_2, .slice A0_3 l0_3.length c0_3, .slice A0_4 l0_4.length c0_4, .slice A0_5 l0_5.length c0_5, .int .i64 a0_6] 24 (0, 0)) (by (with_reducible repeat (first | refine blk_drewN ?_ _ | refine blk_drew ?_ | refine blk_alloc ?_ _)); exact BK229.out) hb); have n5_ := aM (below_step (by repeat (first | (with_reducible first | exact HB.out | apply bA | apply bN | apply bD | refine below_set ?_ GE229.out) | exact HB.out)) hb); clear HO235; clear HO238; clear HO241; clear HO244; clear BK229; clear HB; have HO235 := n0_; have HO238 := n1_; have HO241 := n2_; have HO244 := n3_; have BK229 := n4_; have HB := n5_; clear n0_ n1_ n2_ n3_ n4_ n5_; (try clear hb); (try clear hb2); (try clear hk); (try clear hi); have hcz20_0 : w19.cell? ⟨gb229, 0, none⟩ = some (.int .i64 a0_0) := (blk_cell BK229.out 0).trans rfl; have hcz20_1 : w19.cell? ⟨gb229, 1, none⟩ = some (.string a0_1) := (blk_cell BK229.out 1).trans rfl; have hcz20_2 : w19.cell? ⟨gb229, 2, none⟩ = some (.slice A0_2 l0_2.length c0_2) := (blk_cell BK229.out 2).trans rfl; have hcz20_3 : w19.cell? ⟨gb229, 3, none⟩ = some (.slice A0_3 l0_3.length c0_3) := (blk_cell BK229.out 3).trans rfl; have hcz20_4 : w19.cell? ⟨gb229, 4, none⟩ = some (.slice A0_4 l0_4.length c0_4) := (blk_cell BK229.out 4).trans rfl; have hcz20_5 : w19.cell? ⟨gb229, 5, none⟩ = some (.slice A0_5 l0_5.length c0_5) := (blk_cell BK229.out 5).trans rfl; have hcz20_6 : w19.cell? ⟨gb229, 6, none⟩ = some (.int .i64 a0_6) := (blk_cell BK229.out 6).trans rfl; have hfz20_0 := blk_frozen BK229.out 0; have hfz20_1 := blk_frozen BK229.out 1; have hfz20_2 := blk_frozen BK229.out 2; have hfz20_3 := blk_frozen BK229.out 3; have hfz20_4 := blk_frozen BK229.out 4; have hfz20_5 := blk_frozen BK229.out 5; have hfz20_6 := blk_frozen BK229.out 6) | ((with_reducible refine gate_callee (f := 10) rfl ?_); refine goesL_ (some 16) rfl rfl Try.func10 (by kernel_rfl) rfl #[.agg #[.int .i64 a0_0, .string a0_1, .slice A0_2 l0_2.length c0_2, .slice A0_3 l0_3.length c0_3, .slice A0_4 l0_4.length c0_4, .slice A0_5 l0_5.length c0_5, .int .i64 a0_6]] rfl (by (try simp only [List.map_toArray, List.map_cons, List.map_nil]); first | done | rfl | (simp only [List.length_drop, List.length_take]; rfl)) ?_; (with_reducible refine (laws_toFeatureLine.calls kj2 a0_0 a0_1 _ _ l0_2 _ _ l0_3 _ _ l0_4 _ _ l0_5 a0_6 t247 t248 t249 t252 t255 t258 t261 _ ?side1 ?side2 ?side3 ?side4 ?side5 ?side6 ?side7 ?side8 A10.out).mono ?_); (case side1 => repeat (first | exact (Kd.C_below HR0_2.out HB.out) | (with_reducible first | refine cA ?_ _ | refine cN ?_ _ | refine cD ?_))); (case side2 => exact HC0_2.out); (case side3 => repeat (first | exact (Kd.C_below HR0_3.out HB.out) | (with_reducible first | refine cA ?_ _ | refine cN ?_ _ | refine cD ?_))); (case side4 => exact HC0_3.out); (case side5 => repeat (first | exact (Kd.C_below HR0_4.out HB.out) | (with_reducible first | refine cA ?_ _ | refine cN ?_ _ | refine cD ?_))); (case side6 => exact HC0_4.out); (case side7 => repeat (first | exact (Kd.C_below HR0_5.out HB.out) | (with_reducible first | refine cA ?_ _ | refine cN ?_ _ | refine cD ?_))); (case side8 => exact HC0_5.out); rintro e w21 ⟨v250, v253, v256, v259, rfl, ho0, ho1, ho2, ho3, hb⟩; refine ⟨_, rfl, ?_⟩; have n0_ := aM (Kd.R_mono (Kd.R_told (Kd.R_told (Kd.R_told (Kd.R_told (Kd.R_old (by (with_reducible repeat (first | apply rA | apply rN | apply rD)); exact HO235.out) hb) (Kd.R_base ho0)) (Kd.R_base ho1)) (Kd.R_base ho2)) (Kd.R_base ho3)) h1_); have n1_ := aM (Kd.R_mono (Kd.R_told (Kd.R_told (Kd.R_told (Kd.R_told (Kd.R_old (by (with_reducible repeat (first | apply rA | apply rN | apply rD)); exact HO238.out) hb) (Kd.R_base ho0)) (Kd.R_base ho1)) (Kd.R_base ho2)) (Kd.R_base ho3)) h1_); have n2_ := aM (Kd.R_mono (Kd.R_told (Kd.R_told (Kd.R_told (Kd.R_told (Kd.R_old (by (with_reducible repeat (first | apply rA | apply rN | apply rD)); exact HO241.out) hb) (Kd.R_base ho0)) (Kd.R_base ho1)) (Kd.R_base ho2)) (Kd.R_base ho3)) h1_); have n3_ := aM (Kd.R_mono (Kd.R_told (Kd.R_told (Kd.R_told (Kd.R_told (Kd.R_old (by (with_reducible repeat (first | apply rA | apply rN | apply rD)); exact HO244.out) hb) (Kd.R_base ho0)) (Kd.R_base ho1)) (Kd.R_base ho2)) (Kd.R_base ho3)) h1_); have n4_ := aM (Kd.R_lower (Kd.R_new' (Kd.R_new' (Kd.R_new' (Kd.R_new' ho0 (Kd.R_lt (by (with_reducible repeat (first | apply rA | apply rN | apply rD)); exact HO235.out))) (Kd.R_lt (by (with_reducible repeat (first | apply rA | apply rN | apply rD)); exact HO238.out))) (Kd.R_lt (by (with_reducible repeat (first | apply rA | apply rN | apply rD)); exact HO241.out))) (Kd.R_lt (by (with_reducible repeat (first | apply rA | apply rN | apply rD)); exact HO244.out))) (below_size (by repeat (first | (with_reducible first | exact HB.out | apply bA | apply bN | apply bD | refine below_set ?_ GE229.out) | exact HB.out)))); have n5_ := aM (Kd.R_lower (Kd.R_new' (Kd.R_new' (Kd.R_new' (Kd.R_new' ho1 (Kd.R_lt (by (with_reducible repeat (first | apply rA | apply rN | apply rD)); exact HO235.out))) (Kd.R_lt (by (with_reducible repeat (first | apply rA | apply rN | apply rD)); exact HO238.out))) (Kd.R_lt (by (with_reducible repeat (first | apply rA | apply rN | apply rD)); exact HO241.out))) (Kd.R_lt (by (with_reducible repeat (first | apply rA | apply rN | apply rD)); exact HO244.out))) (below_size (by repeat (first | (with_reducible first | exact HB.out | apply bA | apply bN | apply bD | refine below_set ?_ GE229.out) | exact HB.out)))); have n6_ := aM (Kd.R_lower (Kd.R_new' (Kd.R_new' (Kd.R_new' (Kd.R_new' ho2 (Kd.R_lt (by (with_reducible repeat (first | apply rA | apply rN | apply rD)); exact HO235.out))) (Kd.R_lt (by (with_reducible repeat (first | apply rA | apply rN | apply rD)); exact HO238.out))) (Kd.R_lt (by (with_reducible repeat (first | apply rA | apply rN | apply rD)); exact HO241.out))) (Kd.R_lt (by (with_reducible repeat (first | apply rA | apply rN | apply rD)); exact HO244.out))) (below_size (by repeat (first | (with_reducible first | exact HB.out | apply bA | apply bN | apply bD | refine below_set ?_ GE229.out) | exact HB.out)))); have n7_ := aM (Kd.R_lower (Kd.R_new' (Kd.R_new' (Kd.R_new' (Kd.R_new' ho3 (Kd.R_lt (by (with_reducible repeat (first | apply rA | apply rN | apply rD)); exact HO235.out))) (Kd.R_lt (by (with_reducible repeat (first | apply rA | apply rN | apply rD)); exact HO238.out))) (Kd.R_lt (by (with_reducible repeat (first | apply rA | apply rN | apply rD)); exact HO241.out))) (Kd.R_lt (by (with_reducible repeat (first | apply rA | apply rN | apply rD)); exact HO244.out))) (below_size (by repeat (first | (with_reducible first | exact HB.out | apply bA | apply bN | apply bD | refine below_set ?_ GE229.out) | exact HB.out)))); have n8_ := aM (blk_below (g := gb229) (o := .cells #[.int .i64 a0_0, .string a0_1, .slice A0_2 l0_2.length c0_2, .slice A0_3 l0_3.length c0_3, .slice A0_4 l0_4.length c0_4, .slice A0_5 l0_5.length c0_5, .int .i64 a0_6] 24 (0, 0)) (by (with_reducible repeat (first | refine blk_drewN ?_ _ | refine blk_drew ?_ | refine blk_alloc ?_ _)); exact BK229.out) hb); have n9_ := aM (below_step (by repeat (first | (with_reducible first | exact HB.out | apply bA | apply bN | apply bD | refine below_set ?_ GE229.out) | exact HB.out)) hb); clear HO235; clear HO238; clear HO241; clear HO244; clear BK229; clear HB; have HO235 := n0_; have HO238 := n1_; have HO241 := n2_; have HO244 := n3_; have HO251 := n4_; have HO254 := n5_; have HO257 := n6_; have HO260 := n7_; have BK229 := n8_; have HB := n9_; clear n0_ n1_ n2_ n3_ n4_ n5_ n6_ n7_ n8_ n9_; (try clear hb); (try clear hb2); (try clear hk); (try clear hi); (try clear ho0); (try clear ho1); (try clear ho2); (try clear ho3)) | ((with_reducible refine gate_dst (N := 5) rfl ?_); refine box_event ?hg (N := 5) ?hd (cs := #[.int .i64 0, .string (⟨#[]⟩ : ByteArray), .slice none 0 0, .slice none 0 0, .slice none 0 0, .slice none 0 0, .int .i64 0]) (t := 27) ?hr ?_; (case hd => rfl); (case hg => rfl); (case hr => first | (go_simp; done) | (go_simp; rfl)); intro gb262 hg w22 hbox hb; have n0_ := aM (Kd.R_below (by (with_reducible repeat (first | apply rA | apply rN | apply rD)); exact HO235.out) hb); have n1_ := aM (Kd.R_below (by (with_reducible repeat (first | apply rA | apply rN | apply rD)); exact HO238.out) hb); have n2_ := aM (Kd.R_below (by (with_reducible repeat (first | apply rA | apply rN | apply rD)); exact HO241.out) hb); have n3_ := aM (Kd.R_below (by (with_reducible repeat (first | apply rA | apply rN | apply rD)); exact HO244.out) hb); have n4_ := aM (Kd.R_below (by (with_reducible repeat (first | apply rA | apply rN | apply rD)); exact HO251.out) hb); have n5_ := aM (Kd.R_below (by (with_reducible repeat (first | apply rA | apply rN | apply rD)); exact HO254.out) hb); have n6_ := aM (Kd.R_below (by (with_reducible repeat (first | apply rA | apply rN | apply rD)); exact HO257.out) hb); have n7_ := aM (Kd.R_below (by (with_reducible repeat (first | apply rA | apply rN | apply rD)); exact HO260.out) hb); have n8_ := aM (blk_below (g := gb229) (o := .cells #[.int .i64 a0_0, .string a0_1, .slice A0_2 l0_2.length c0_2, .slice A0_3 l0_3.length c0_3, .slice A0_4 l0_4.length c0_4, .slice A0_5 l0_5.length c0_5, .int .i64 a0_6] 24 (0, 0)) (by (with_reducible repeat (first | refine blk_drewN ?_ _ | refine blk_drew ?_ | refine blk_alloc ?_ _)); exact BK229.out) hb); have n9_ := aM (below_step (by repeat (first | (with_reducible first | exact HB.out | apply bA | apply bN | apply bD | refine below_set ?_ GE229.out) | exact HB.out)) hb); have n10_ := aM (hbox); have n11_ := aM ((by rw [hg]; exact (below_size (by repeat (first | (with_reducible first | exact HB.out | apply bA | apply bN | apply bD | refine below_set ?_ GE229.out) | exact HB.out))) : w.heap.size ≤ gb262)); have n12_ := aM ((by rw [hg]; exact (below_size (by repeat (first | (with_reducible first | exact HB.out | apply bA | apply bN | apply bD | refine below_set ?_ GE229.out) | exact HB.out))) : w.heap.size ≤ gb262)); have n13_ := aM ((by rw [hg]; exact Nat.ne_of_lt (blk_lt (g := gb229) (o := .cells #[.int .i64 a0_0, .string a0_1, .slice A0_2 l0_2.length c0_2, .slice A0_3 l0_3.length c0_3, .slice A0_4 l0_4.length c0_4, .slice A0_5 l0_5.length c0_5, .int .i64 a0_6] 24 (0, 0)) (by (with_reducible repeat (first | refine blk_drewN ?_ _ | refine blk_drew ?_ | refine blk_alloc ?_ _)); exact BK229.out)) : gb229 ≠ gb262)); have n14_ := aM ((by rw [hg]; exact Nat.ne_of_gt (blk_lt (g := gb229) (o := .cells #[.int .i64 a0_0, .string a0_1, .slice A0_2 l0_2.length c0_2, .slice A0_3 l0_3.length c0_3, .slice A0_4 l0_4.length c0_4, .slice A0_5 l0_5.length c0_5, .int .i64 a0_6] 24 (0, 0)) (by (with_reducible repeat (first | refine blk_drewN ?_ _ | refine blk_drew ?_ | refine blk_alloc ?_ _)); exact BK229.out)) : gb262 ≠ gb229)); clear HO235; clear HO238; clear HO241; clear HO244; clear HO251; clear HO254; clear HO257; clear HO260; clear BK229; clear HB; have HO235 := n0_; have HO238 := n1_; have HO241 := n2_; have HO244 := n3_; have HO251 := n4_; have HO254 := n5_; have HO257 := n6_; have HO260 := n7_; have BK229 := n8_; have HB := n9_; have BK262 := n10_; have GW262 := n11_; have GE262 := n12_; have NB229_262 := n13_; have NB262_229 := n14_; clear n0_ n1_ n2_ n3_ n4_ n5_ n6_ n7_ n8_ n9_ n10_ n11_ n12_ n13_ n14_; clear hb hbox hg; have hnb23 := NB262_229.out; have hnc23 := NB229_262.out; have hcz24_0 : w22.cell? ⟨gb262, 0, none⟩ = some (.int .i64 0) := (blk_cell BK262.out 0).trans rfl; have hcz24_1 : w22.cell? ⟨gb262, 1, none⟩ = some (.string (⟨#[]⟩ : ByteArray)) := (blk_cell BK262.out 1).trans rfl; have hcz24_2 : w22.cell? ⟨gb262, 2, none⟩ = some (.slice none 0 0) := (blk_cell BK262.out 2).trans rfl; have hcz24_3 : w22.cell? ⟨gb262, 3, none⟩ = some (.slice none 0 0) := (blk_cell BK262.out 3).trans rfl; have hcz24_4 : w22.cell? ⟨gb262, 4, none⟩ = some (.slice none 0 0) := (blk_cell BK262.out 4).trans rfl; have hcz24_5 : w22.cell? ⟨gb262, 5, none⟩ = some (.slice none 0 0) := (blk_cell BK262.out 5).trans rfl; have hcz24_6 : w22.cell? ⟨gb262, 6, none⟩ = some (.int .i64 0) := (blk_cell BK262.out 6).trans rfl; have hfz24_0 := blk_frozen BK262.out 0; have hfz24_1 := blk_frozen BK262.out 1; have hfz24_2 := blk_frozen BK262.out 2; have hfz24_3 := blk_frozen BK262.out 3; have hfz24_4 := blk_frozen BK262.out 4; have hfz24_5 := blk_frozen BK262.out 5; have hfz24_6 := blk_frozen BK262.out 6; obtain ⟨Ao25, co25, eo25⟩ := Kd.R_slice HO251.out; subst eo25; obtain ⟨Ao26, co26, eo26⟩ := Kd.R_slice HO254.out; subst eo26; obtain ⟨Ao27, co27, eo27⟩ := Kd.R_slice HO257.out; subst eo27; obtain ⟨Ao28, co28, eo28⟩ := Kd.R_slice HO260.out; subst eo28) | ((with_reducible refine gate_callee (f := 11) rfl ?_); refine goesL_ (some 18) rfl rfl Try.func11 (by kernel_rfl) rfl #[.agg #[.int .i64 t247, .string t248, .slice Ao25 t249.length co25, .slice Ao26 t252.length co26, .slice Ao27 t255.length co27, .slice Ao28 t258.length co28, .int .i64 t261]] rfl (by (try simp only [List.map_toArray, List.map_cons, List.map_nil]); first | done | rfl | (simp only [List.length_drop, List.length_take]; rfl)) ?_; (with_reducible refine (impl_ValidLine.calls kj2 t247 t248 _ _ t249 _ _ t252 _ _ t255 _ _ t258 t261 t263 _ ?side1 ?side2 ?side3 ?side4 ?side5 ?side6 ?side7 ?side8 A11.out).mono ?_); (case side1 => refine (Kd.R_reads' (e := 9) (base := w.heap.size) (ok := fun k_ => (((((some k_ ≠ (.slice Ao26 t252.length co26 : Value).ownBlock ∧ (some k_ ≠ (.slice Ao27 t255.length co27 : Value).ownBlock ∧ some k_ ≠ (.slice Ao28 t258.length co28 : Value).ownBlock)) ∧ some k_ ≠ (.slice Ao15 t233.length co15 : Value).ownBlock) ∧ some k_ ≠ (.slice Ao16 t236.length co16 : Value).ownBlock) ∧ some k_ ≠ (.slice Ao17 t239.length co17 : Value).ownBlock) ∧ some k_ ≠ (.slice Ao18 t242.length co18 : Value).ownBlock)) (n := t249.length) (c := co25) ?_).2.2; exact (by (with_reducible repeat (first | apply rA | apply rN | apply rD)); exact (Kd.R_mono (Kd.R_far (p := ⟨gb262, 6, none⟩) (Kd.R_far (p := ⟨gb262, 5, none⟩) (Kd.R_far (p := ⟨gb262, 4, none⟩) (Kd.R_far (p := ⟨gb262, 3, none⟩) (Kd.R_far (p := ⟨gb262, 2, none⟩) (Kd.R_far (p := ⟨gb262, 1, none⟩) (Kd.R_far (p := ⟨gb262, 0, none⟩) (Kd.R_types HO251.out BK262.out (by decide)) h2_ (.int .i64 t247)) h2_ (.string t248)) h2_ (.slice Ao25 t249.length co25)) h2_ (.slice Ao26 t252.length co26)) h2_ (.slice Ao27 t255.length co27)) h2_ (.slice Ao28 t258.length co28)) h2_ (.int .i64 t261)) h1_))); (case side2 => exact (Kd.R_reads' HO251.out).2.1); (case side3 => refine (Kd.R_reads' (e := 9) (base := w.heap.size) (ok := fun k_ => (((((some k_ ≠ (.slice Ao25 t249.length co25 : Value).ownBlock ∧ (some k_ ≠ (.slice Ao27 t255.length co27 : Value).ownBlock ∧ some k_ ≠ (.slice Ao28 t258.length co28 : Value).ownBlock)) ∧ some k_ ≠ (.slice Ao15 t233.length co15 : Value).ownBlock) ∧ some k_ ≠ (.slice Ao16 t236.length co16 : Value).ownBlock) ∧ some k_ ≠ (.slice Ao17 t239.length co17 : Value).ownBlock) ∧ some k_ ≠ (.slice Ao18 t242.length co18 : Value).ownBlock)) (n := t252.length) (c := co26) ?_).2.2; exact (by (with_reducible repeat (first | apply rA | apply rN | apply rD)); exact (Kd.R_mono (Kd.R_far (p := ⟨gb262, 6, none⟩) (Kd.R_far (p := ⟨gb262, 5, none⟩) (Kd.R_far (p := ⟨gb262, 4, none⟩) (Kd.R_far (p := ⟨gb262, 3, none⟩) (Kd.R_far (p := ⟨gb262, 2, none⟩) (Kd.R_far (p := ⟨gb262, 1, none⟩) (Kd.R_far (p := ⟨gb262, 0, none⟩) (Kd.R_types HO254.out BK262.out (by decide)) h2_ (.int .i64 t247)) h2_ (.string t248)) h2_ (.slice Ao25 t249.length co25)) h2_ (.slice Ao26 t252.length co26)) h2_ (.slice Ao27 t255.length co27)) h2_ (.slice Ao28 t258.length co28)) h2_ (.int .i64 t261)) h1_))); (case side4 => exact (Kd.R_reads' HO254.out).2.1); (case side5 => refine (Kd.R_reads' (e := 9) (base := w.heap.size) (ok := fun k_ => (((((some k_ ≠ (.slice Ao25 t249.length co25 : Value).ownBlock ∧ (some k_ ≠ (.slice Ao26 t252.length co26 : Value).ownBlock ∧ some k_ ≠ (.slice Ao28 t258.length co28 : Value).ownBlock)) ∧ some k_ ≠ (.slice Ao15 t233.length co15 : Value).ownBlock) ∧ some k_ ≠ (.slice Ao16 t236.length co16 : Value).ownBlock) ∧ some k_ ≠ (.slice Ao17 t239.length co17 : Value).ownBlock) ∧ some k_ ≠ (.slice Ao18 t242.length co18 : Value).ownBlock)) (n := t255.length) (c := co27) ?_).2.2; exact (by (with_reducible repeat (first | apply rA | apply rN | apply rD)); exact (Kd.R_mono (Kd.R_far (p := ⟨gb262, 6, none⟩) (Kd.R_far (p := ⟨gb262, 5, none⟩) (Kd.R_far (p := ⟨gb262, 4, none⟩) (Kd.R_far (p := ⟨gb262, 3, none⟩) (Kd.R_far (p := ⟨gb262, 2, none⟩) (Kd.R_far (p := ⟨gb262, 1, none⟩) (Kd.R_far (p := ⟨gb262, 0, none⟩) (Kd.R_types HO257.out BK262.out (by decide)) h2_ (.int .i64 t247)) h2_ (.string t248)) h2_ (.slice Ao25 t249.length co25)) h2_ (.slice Ao26 t252.length co26)) h2_ (.slice Ao27 t255.length co27)) h2_ (.slice Ao28 t258.length co28)) h2_ (.int .i64 t261)) h1_))); (case side6 => exact (Kd.R_reads' HO257.out).2.1); (case side7 => refine (Kd.R_reads' (e := 9) (base := w.heap.size) (ok := fun k_ => (((((some k_ ≠ (.slice Ao25 t249.length co25 : Value).ownBlock ∧ (some k_ ≠ (.slice Ao26 t252.length co26 : Value).ownBlock ∧ some k_ ≠ (.slice Ao27 t255.length co27 : Value).ownBlock)) ∧ some k_ ≠ (.slice Ao15 t233.length co15 : Value).ownBlock) ∧ some k_ ≠ (.slice Ao16 t236.length co16 : Value).ownBlock) ∧ some k_ ≠ (.slice Ao17 t239.length co17 : Value).ownBlock) ∧ some k_ ≠ (.slice Ao18 t242.length co18 : Value).ownBlock)) (n := t258.length) (c := co28) ?_).2.2; exact (by (with_reducible repeat (first | apply rA | apply rN | apply rD)); exact (Kd.R_mono (Kd.R_far (p := ⟨gb262, 6, none⟩) (Kd.R_far (p := ⟨gb262, 5, none⟩) (Kd.R_far (p := ⟨gb262, 4, none⟩) (Kd.R_far (p := ⟨gb262, 3, none⟩) (Kd.R_far (p := ⟨gb262, 2, none⟩) (Kd.R_far (p := ⟨gb262, 1, none⟩) (Kd.R_far (p := ⟨gb262, 0, none⟩) (Kd.R_types HO260.out BK262.out (by decide)) h2_ (.int .i64 t247)) h2_ (.string t248)) h2_ (.slice Ao25 t249.length co25)) h2_ (.slice Ao26 t252.length co26)) h2_ (.slice Ao27 t255.length co27)) h2_ (.slice Ao28 t258.length co28)) h2_ (.int .i64 t261)) h1_))); (case side8 => exact (Kd.R_reads' HO260.out).2.1); rintro e w29 ⟨rfl, hb⟩; refine ⟨_, rfl, ?_⟩; have n0_ := aM (Kd.R_below (by (with_reducible repeat (first | apply rA | apply rN | apply rD)); exact (Kd.R_mono (Kd.R_far (p := ⟨gb262, 6, none⟩) (Kd.R_far (p := ⟨gb262, 5, none⟩) (Kd.R_far (p := ⟨gb262, 4, none⟩) (Kd.R_far (p := ⟨gb262, 3, none⟩) (Kd.R_far (p := ⟨gb262, 2, none⟩) (Kd.R_far (p := ⟨gb262, 1, none⟩) (Kd.R_far (p := ⟨gb262, 0, none⟩) (Kd.R_types HO235.out BK262.out (by decide)) h2_ (.int .i64 t247)) h2_ (.string t248)) h2_ (.slice Ao25 t249.length co25)) h2_ (.slice Ao26 t252.length co26)) h2_ (.slice Ao27 t255.length co27)) h2_ (.slice Ao28 t258.length co28)) h2_ (.int .i64 t261)) h1_)) hb); have n1_ := aM (Kd.R_below (by (with_reducible repeat (first | apply rA | apply rN | apply rD)); exact (Kd.R_mono (Kd.R_far (p := ⟨gb262, 6, none⟩) (Kd.R_far (p := ⟨gb262, 5, none⟩) (Kd.R_far (p := ⟨gb262, 4, none⟩) (Kd.R_far (p := ⟨gb262, 3, none⟩) (Kd.R_far (p := ⟨gb262, 2, none⟩) (Kd.R_far (p := ⟨gb262, 1, none⟩) (Kd.R_far (p := ⟨gb262, 0, none⟩) (Kd.R_types HO238.out BK262.out (by decide)) h2_ (.int .i64 t247)) h2_ (.string t248)) h2_ (.slice Ao25 t249.length co25)) h2_ (.slice Ao26 t252.length co26)) h2_ (.slice Ao27 t255.length co27)) h2_ (.slice Ao28 t258.length co28)) h2_ (.int .i64 t261)) h1_)) hb); have n2_ := aM (Kd.R_below (by (with_reducible repeat (first | apply rA | apply rN | apply rD)); exact (Kd.R_mono (Kd.R_far (p := ⟨gb262, 6, none⟩) (Kd.R_far (p := ⟨gb262, 5, none⟩) (Kd.R_far (p := ⟨gb262, 4, none⟩) (Kd.R_far (p := ⟨gb262, 3, none⟩) (Kd.R_far (p := ⟨gb262, 2, none⟩) (Kd.R_far (p := ⟨gb262, 1, none⟩) (Kd.R_far (p := ⟨gb262, 0, none⟩) (Kd.R_types HO241.out BK262.out (by decide)) h2_ (.int .i64 t247)) h2_ (.string t248)) h2_ (.slice Ao25 t249.length co25)) h2_ (.slice Ao26 t252.length co26)) h2_ (.slice Ao27 t255.length co27)) h2_ (.slice Ao28 t258.length co28)) h2_ (.int .i64 t261)) h1_)) hb); have n3_ := aM (Kd.R_below (by (with_reducible repeat (first | apply rA | apply rN | apply rD)); exact (Kd.R_mono (Kd.R_far (p := ⟨gb262, 6, none⟩) (Kd.R_far (p := ⟨gb262, 5, none⟩) (Kd.R_far (p := ⟨gb262, 4, none⟩) (Kd.R_far (p := ⟨gb262, 3, none⟩) (Kd.R_far (p := ⟨gb262, 2, none⟩) (Kd.R_far (p := ⟨gb262, 1, none⟩) (Kd.R_far (p := ⟨gb262, 0, none⟩) (Kd.R_types HO244.out BK262.out (by decide)) h2_ (.int .i64 t247)) h2_ (.string t248)) h2_ (.slice Ao25 t249.length co25)) h2_ (.slice Ao26 t252.length co26)) h2_ (.slice Ao27 t255.length co27)) h2_ (.slice Ao28 t258.length co28)) h2_ (.int .i64 t261)) h1_)) hb); have n4_ := aM (Kd.R_below (by (with_reducible repeat (first | apply rA | apply rN | apply rD)); exact (Kd.R_mono (Kd.R_far (p := ⟨gb262, 6, none⟩) (Kd.R_far (p := ⟨gb262, 5, none⟩) (Kd.R_far (p := ⟨gb262, 4, none⟩) (Kd.R_far (p := ⟨gb262, 3, none⟩) (Kd.R_far (p := ⟨gb262, 2, none⟩) (Kd.R_far (p := ⟨gb262, 1, none⟩) (Kd.R_far (p := ⟨gb262, 0, none⟩) (Kd.R_types HO251.out BK262.out (by decide)) h2_ (.int .i64 t247)) h2_ (.string t248)) h2_ (.slice Ao25 t249.length co25)) h2_ (.slice Ao26 t252.length co26)) h2_ (.slice Ao27 t255.length co27)) h2_ (.slice Ao28 t258.length co28)) h2_ (.int .i64 t261)) h1_)) hb); have n5_ := aM (Kd.R_below (by (with_reducible repeat (first | apply rA | apply rN | apply rD)); exact (Kd.R_mono (Kd.R_far (p := ⟨gb262, 6, none⟩) (Kd.R_far (p := ⟨gb262, 5, none⟩) (Kd.R_far (p := ⟨gb262, 4, none⟩) (Kd.R_far (p := ⟨gb262, 3, none⟩) (Kd.R_far (p := ⟨gb262, 2, none⟩) (Kd.R_far (p := ⟨gb262, 1, none⟩) (Kd.R_far (p := ⟨gb262, 0, none⟩) (Kd.R_types HO254.out BK262.out (by decide)) h2_ (.int .i64 t247)) h2_ (.string t248)) h2_ (.slice Ao25 t249.length co25)) h2_ (.slice Ao26 t252.length co26)) h2_ (.slice Ao27 t255.length co27)) h2_ (.slice Ao28 t258.length co28)) h2_ (.int .i64 t261)) h1_)) hb); have n6_ := aM (Kd.R_below (by (with_reducible repeat (first | apply rA | apply rN | apply rD)); exact (Kd.R_mono (Kd.R_far (p := ⟨gb262, 6, none⟩) (Kd.R_far (p := ⟨gb262, 5, none⟩) (Kd.R_far (p := ⟨gb262, 4, none⟩) (Kd.R_far (p := ⟨gb262, 3, none⟩) (Kd.R_far (p := ⟨gb262, 2, none⟩) (Kd.R_far (p := ⟨gb262, 1, none⟩) (Kd.R_far (p := ⟨gb262, 0, none⟩) (Kd.R_types HO257.out BK262.out (by decide)) h2_ (.int .i64 t247)) h2_ (.string t248)) h2_ (.slice Ao25 t249.length co25)) h2_ (.slice Ao26 t252.length co26)) h2_ (.slice Ao27 t255.length co27)) h2_ (.slice Ao28 t258.length co28)) h2_ (.int .i64 t261)) h1_)) hb); have n7_ := aM (Kd.R_below (by (with_reducible repeat (first | apply rA | apply rN | apply rD)); exact (Kd.R_mono (Kd.R_far (p := ⟨gb262, 6, none⟩) (Kd.R_far (p := ⟨gb262, 5, none⟩) (Kd.R_far (p := ⟨gb262, 4, none⟩) (Kd.R_far (p := ⟨gb262, 3, none⟩) (Kd.R_far (p := ⟨gb262, 2, none⟩) (Kd.R_far (p := ⟨gb262, 1, none⟩) (Kd.R_far (p := ⟨gb262, 0, none⟩) (Kd.R_types HO260.out BK262.out (by decide)) h2_ (.int .i64 t247)) h2_ (.string t248)) h2_ (.slice Ao25 t249.length co25)) h2_ (.slice Ao26 t252.length co26)) h2_ (.slice Ao27 t255.length co27)) h2_ (.slice Ao28 t258.length co28)) h2_ (.int .i64 t261)) h1_)) hb); have n8_ := aM (blk_below (g := gb229) (o := .cells #[.int .i64 a0_0, .string a0_1, .slice A0_2 l0_2.length c0_2, .slice A0_3 l0_3.length c0_3, .slice A0_4 l0_4.length c0_4, .slice A0_5 l0_5.length c0_5, .int .i64 a0_6] 24 (0, 0)) (by (with_reducible repeat (first | refine blk_drewN ?_ _ | refine blk_drew ?_ | refine blk_alloc ?_ _)); refine blk_far ?_ NB229_262.out _; (with_reducible repeat (first | refine blk_drewN ?_ _ | refine blk_drew ?_ | refine blk_alloc ?_ _)); refine blk_far ?_ NB229_262.out _; (with_reducible repeat (first | refine blk_drewN ?_ _ | refine blk_drew ?_ | refine blk_alloc ?_ _)); refine blk_far ?_ NB229_262.out _; (with_reducible repeat (first | refine blk_drewN ?_ _ | refine blk_drew ?_ | refine blk_alloc ?_ _)); refine blk_far ?_ NB229_262.out _; (with_reducible repeat (first | refine blk_drewN ?_ _ | refine blk_drew ?_ | refine blk_alloc ?_ _)); refine blk_far ?_ NB229_262.out _; (with_reducible repeat (first | refine blk_drewN ?_ _ | refine blk_drew ?_ | refine blk_alloc ?_ _)); refine blk_far ?_ NB229_262.out _; (with_reducible repeat (first | refine blk_drewN ?_ _ | refine blk_drew ?_ | refine blk_alloc ?_ _)); refine blk_far ?_ NB229_262.out _; (with_reducible repeat (first | refine blk_drewN ?_ _ | refine blk_drew ?_ | refine blk_alloc ?_ _)); exact BK229.out) hb); have n9_ := aM (blk_below (g := gb262) (o := .cells #[.int .i64 t247, .string t248, .slice Ao25 t249.length co25, .slice Ao26 t252.length co26, .slice Ao27 t255.length co27, .slice Ao28 t258.length co28, .int .i64 t261] 27 (0, 0)) (by (with_reducible repeat (first | refine blk_drewN ?_ _ | refine blk_drew ?_ | refine blk_alloc ?_ _)); refine blk_put (cs := #[.int .i64 t247, .string t248, .slice Ao25 t249.length co25, .slice Ao26 t252.length co26, .slice Ao27 t255.length co27, .slice Ao28 t258.length co28, .int .i64 0]) ?_ 6 _ rfl; (with_reducible repeat (first | refine blk_drewN ?_ _ | refine blk_drew ?_ | refine blk_alloc ?_ _)); refine blk_put (cs := #[.int .i64 t247, .string t248, .slice Ao25 t249.length co25, .slice Ao26 t252.length co26, .slice Ao27 t255.length co27, .slice none 0 0, .int .i64 0]) ?_ 5 _ rfl; (with_reducible repeat (first | refine blk_drewN ?_ _ | refine blk_drew ?_ | refine blk_alloc ?_ _)); refine blk_put (cs := #[.int .i64 t247, .string t248, .slice Ao25 t249.length co25, .slice Ao26 t252.length co26, .slice none 0 0, .slice none 0 0, .int .i64 0]) ?_ 4 _ rfl; (with_reducible repeat (first | refine blk_drewN ?_ _ | refine blk_drew ?_ | refine blk_alloc ?_ _)); refine blk_put (cs := #[.int .i64 t247, .string t248, .slice Ao25 t249.length co25, .slice none 0 0, .slice none 0 0, .slice none 0 0, .int .i64 0]) ?_ 3 _ rfl; (with_reducible repeat (first | refine blk_drewN ?_ _ | refine blk_drew ?_ | refine blk_alloc ?_ _)); refine blk_put (cs := #[.int .i64 t247, .string t248, .slice none 0 0, .slice none 0 0, .slice none 0 0, .slice none 0 0, .int .i64 0]) ?_ 2 _ rfl; (with_reducible repeat (first | refine blk_drewN ?_ _ | refine blk_drew ?_ | refine blk_alloc ?_ _)); refine blk_put (cs := #[.int .i64 t247, .string (⟨#[]⟩ : ByteArray), .slice none 0 0, .slice none 0 0, .slice none 0 0, .slice none 0 0, .int .i64 0]) ?_ 1 _ rfl; (with_reducible repeat (first | refine blk_drewN ?_ _ | refine blk_drew ?_ | refine blk_alloc ?_ _)); refine blk_put (cs := #[.int .i64 0, .string (⟨#[]⟩ : ByteArray), .slice none 0 0, .slice none 0 0, .slice none 0 0, .slice none 0 0, .int .i64 0]) ?_ 0 _ rfl; (with_reducible repeat (first | refine blk_drewN ?_ _ | refine blk_drew ?_ | refine blk_alloc ?_ _)); exact BK262.out) hb); have n10_ := aM (below_step (by repeat (first | (with_reducible first | exact HB.out | apply bA | apply bN | apply bD | refine below_set ?_ GE229.out | refine below_set ?_ GE262.out) | exact HB.out)) hb); clear HO235; clear HO238; clear HO241; clear HO244; clear HO251; clear HO254; clear HO257; clear HO260; clear BK229; clear BK262; clear HB; have HO235 := n0_; have HO238 := n1_; have HO241 := n2_; have HO244 := n3_; have HO251 := n4_; have HO254 := n5_; have HO257 := n6_; have HO260 := n7_; have BK229 := n8_; have BK262 := n9_; have HB := n10_; clear n0_ n1_ n2_ n3_ n4_ n5_ n6_ n7_ n8_ n9_ n10_; (try clear hb); (try clear hb2); (try clear hk); (try clear hi)))
   (try simp only [Act.put, List.setIfInBounds_toArray, List.set_cons_zero, List.set_cons_succ])
   go_cut [] (fun wc => ∃ (kq : Nat), Aside0 (laws_FnExactValidLine.j1 kq a0_0 a0_1 l0_2 l0_3 l0_4 l0_5 a0_6 t247 t248 t249 t252 t255 t258 t261 = some r) ∧ Aside0 (kq ≤ kj2) ∧ Aside0 (Kd.R Kd.string 9 wc w.heap.size (fun k_ => some k_ ≠ ((.slice Ao26 t252.length co26) : Value).ownBlock ∧ some k_ ≠ ((.slice Ao27 t255.length co27) : Value).ownBlock ∧ some k_ ≠ ((.slice Ao28 t258.length co28) : Value).ownBlock) (.slice Ao25 t249.length co25) t249) ∧ Aside0 (Kd.R Kd.string 9 wc w.heap.size (fun k_ => some k_ ≠ ((.slice Ao25 t249.length co25) : Value).ownBlock ∧ some k_ ≠ ((.slice Ao27 t255.length co27) : Value).ownBlock ∧ some k_ ≠ ((.slice Ao28 t258.length co28) : Value).ownBlock) (.slice Ao26 t252.length co26) t252) ∧ Aside0 (Kd.R Kd.string 9 wc w.heap.size (fun k_ => some k_ ≠ ((.slice Ao25 t249.length co25) : Value).ownBlock ∧ some k_ ≠ ((.slice Ao26 t252.length co26) : Value).ownBlock ∧ some k_ ≠ ((.slice Ao28 t258.length co28) : Value).ownBlock) (.slice Ao27 t255.length co27) t255) ∧ Aside0 (Kd.R Kd.string 9 wc w.heap.size (fun k_ => some k_ ≠ ((.slice Ao25 t249.length co25) : Value).ownBlock ∧ some k_ ≠ ((.slice Ao26 t252.length co26) : Value).ownBlock ∧ some k_ ≠ ((.slice Ao27 t255.length co27) : Value).ownBlock) (.slice Ao28 t258.length co28) t258) ∧ Aside0 (wc.heap[gb229]? = some (.cells #[.int .i64 a0_0, .string a0_1, (.slice A0_2 l0_2.length c0_2), (.slice A0_3 l0_3.length c0_3), (.slice A0_4 l0_4.length c0_4), (.slice A0_5 l0_5.length c0_5), .int .i64 a0_6] 24 (0, 0))) ∧ Aside0 (wc.heap[gb262]? = some (.cells #[.int .i64 t247, .string t248, (.slice Ao25 t249.length co25), (.slice Ao26 t252.length co26), (.slice Ao27 t255.length co27), (.slice Ao28 t258.length co28), .int .i64 t261] 27 (0, 0))) ∧ Aside0 (Below w.heap.size w wc))
   case first =>
    have H := HC12.out
    clear HC12
    by_cases c30 : (t263 != t246) = true
    ·rw [if_pos c30] at H
     have c30b0 : (t263 != t246) = true := c30
     (try (have c30b1 : decide (t263 = t246) = false := by simpa using c30))
     (try (have c30b2 : (t263 == t246) = false := by simpa using c30))
     (try (have c30b3 : ¬ (t263 = t246) := by simpa using c30))
     (try (have c30b4 : (!(t263 == t246)) = true := by simpa using c30))
     clear c30
     (first | rw [c30b0] | (simp only [i64_w, i32_w]; rw [c30b0]) | rw [c30b1] | rw [c30b2] | rw [c30b3] | rw [c30b4] | skip)
     obtain rfl := Option.some.inj H
     go_wp2
     go_ret
     exact ⟨by first | rfl | (simp [errW_none, errW_some] <;> rfl) | (simp [*, errW_none, errW_some] <;> rfl), by repeat (first | (with_reducible first | exact HB.out | apply bA | apply bN | apply bD | refine below_set ?_ GE229.out | refine below_set ?_ GE262.out) | exact HB.out)⟩
    ·rw [if_neg c30] at H
     have c30b0 : (t263 != t246) = false := by simpa using c30
     (try (have c30b1 : decide (t263 = t246) = true := by simpa using c30))
     (try (have c30b2 : (t263 == t246) = true := by simpa using c30))
     (try (have c30b3 : (!(t263 == t246)) = false := by simpa using c30))
     clear c30
     (first | rw [c30b0] | (simp only [i64_w, i32_w]; rw [c30b0]) | rw [c30b1] | rw [c30b2] | rw [c30b3] | rw [c30b4] | skip)
     have H' := aM H
     clear H
     go_wp2
     go_meet
     case rel => exact ⟨_, H', ⟨by have := HJ2.out; first | omega | exact Nat.le_refl _⟩, ⟨by (with_reducible repeat (first | apply rA | apply rN | apply rD)); exact Kd.R_mono HO251.out (fun _ hk => ⟨hk.1.1.1.1.1, ⟨hk.1.1.1.1.2.1, hk.1.1.1.1.2.2⟩⟩)⟩, ⟨by (with_reducible repeat (first | apply rA | apply rN | apply rD)); exact Kd.R_mono HO254.out (fun _ hk => ⟨hk.1.1.1.1.1, ⟨hk.1.1.1.1.2.1, hk.1.1.1.1.2.2⟩⟩)⟩, ⟨by (with_reducible repeat (first | apply rA | apply rN | apply rD)); exact Kd.R_mono HO257.out (fun _ hk => ⟨hk.1.1.1.1.1, ⟨hk.1.1.1.1.2.1, hk.1.1.1.1.2.2⟩⟩)⟩, ⟨by (with_reducible repeat (first | apply rA | apply rN | apply rD)); exact Kd.R_mono HO260.out (fun _ hk => ⟨hk.1.1.1.1.1, ⟨hk.1.1.1.1.2.1, hk.1.1.1.1.2.2⟩⟩)⟩, ⟨by (with_reducible repeat (first | refine blk_drewN ?_ _ | refine blk_drew ?_ | refine blk_alloc ?_ _)); exact BK229.out⟩, ⟨by (with_reducible repeat (first | refine blk_drewN ?_ _ | refine blk_drew ?_ | refine blk_alloc ?_ _)); exact BK262.out⟩, ⟨by repeat (first | (with_reducible first | exact HB.out | apply bA | apply bN | apply bD | refine below_set ?_ GE229.out | refine below_set ?_ GE262.out) | exact HB.out)⟩⟩
   case rest =>
    clear HC12
    try clear c1
    try clear c2
    try clear p2
    try clear c3
    try clear c7
    try clear c7b0
    try clear c7b1
    try clear c7b2
    try clear c8
    try clear c9
    try clear c10
    try clear c11
    try clear c23
    try clear c30
    try clear c30b0
    try clear c30b1
    try clear c30b2
    try clear hcz13_0
    try clear hcz13_1
    try clear hcz13_2
    try clear hcz13_3
    try clear hcz13_4
    try clear hcz13_5
    try clear hcz13_6
    try clear hcz20_0
    try clear hcz20_1
    try clear hcz20_2
    try clear hcz20_3
    try clear hcz20_4
    try clear hcz20_5
    try clear hcz20_6
    try clear hcz24_0
    try clear hcz24_1
    try clear hcz24_2
    try clear hcz24_3
    try clear hcz24_4
    try clear hcz24_5
    try clear hcz24_6
    try clear hcz5_0
    try clear hcz5_1
    try clear hcz5_2
    try clear hcz5_3
    try clear hcz5_4
    try clear hcz5_5
    try clear hcz5_6
    try clear hfz13_0
    try clear hfz13_1
    try clear hfz13_2
    try clear hfz13_3
    try clear hfz13_4
    try clear hfz13_5
    try clear hfz13_6
    try clear hfz20_0
    try clear hfz20_1
    try clear hfz20_2
    try clear hfz20_3
    try clear hfz20_4
    try clear hfz20_5
    try clear hfz20_6
    try clear hfz24_0
    try clear hfz24_1
    try clear hfz24_2
    try clear hfz24_3
    try clear hfz24_4
    try clear hfz24_5
    try clear hfz24_6
    try clear hfz5_0
    try clear hfz5_1
    try clear hfz5_2
    try clear hfz5_3
    try clear hfz5_4
    try clear hfz5_5
    try clear hfz5_6
    try clear p2
    obtain ⟨kq, HA, HJ11, HO_263002, HO_263003, HO_263004, HO_263005, BK229, BK262, HB⟩ := hcut
    cases kq with
    | zero => exact absurd HA.out (by simp [laws_FnExactValidLine.j1])
    | succ kj11 =>
     have H := HA.out
     clear HA
     simp only [laws_FnExactValidLine.j1] at H
     replace H := Option.bind_eq_some_iff.mp H
     obtain ⟨⟨t264, t265, t266, t269, t272, t275, t278⟩, A310, H⟩ := H
     replace H : ((laws_eqFeatureLine.f kj11 t247 t248 t249 t252 t255 t258 t261 t264 t265 t266 t269 t272 t275 t278).bind fun t279 => (if t279 = true then (some true) else (some false))) = some r := H
     have A31 := aM A310
     clear A310
     replace H := Option.bind_eq_some_iff.mp H
     obtain ⟨t279, A320, H⟩ := H
     replace H : (if t279 = true then (some true) else (some false)) = some r := H
     have A32 := aM A320
     clear A320
     by_cases c33 : t279 = true
     ·subst c33
      have H1 : (some true) = some r := by rw [if_pos rfl] at H; exact H
      clear H
      have H := H1
      clear H1
      obtain rfl := Option.some.inj H
      try go_wp2
      have n0_ := aM (Kd.R_drew HO_263002.out)
      have n1_ := aM (Kd.R_drew HO_263003.out)
      have n2_ := aM (Kd.R_drew HO_263004.out)
      have n3_ := aM (Kd.R_drew HO_263005.out)
      have n4_ := aM (blk_drew BK229.out)
      have n5_ := aM (blk_drew BK262.out)
      have n6_ := aM (below_drew1 HB.out)
      clear HO_263002
      clear HO_263003
      clear HO_263004
      clear HO_263005
      clear BK229
      clear BK262
      clear HB
      have HO_263002 := n0_
      have HO_263003 := n1_
      have HO_263004 := n2_
      have HO_263005 := n3_
      have BK229 := n4_
      have BK262 := n5_
      have HB := n6_
      clear n0_ n1_ n2_ n3_ n4_ n5_ n6_
      refine start_ (n := 5) (S := fun w' => w'.cell? ⟨gb262, 0, none⟩ = some (.int .i64 t247) ∧ w'.cell? ⟨gb262, 1, none⟩ = some (.string t248) ∧ w'.cell? ⟨gb262, 2, none⟩ = some (.slice Ao25 t249.length co25) ∧ w'.cell? ⟨gb262, 3, none⟩ = some (.slice Ao26 t252.length co26) ∧ w'.cell? ⟨gb262, 4, none⟩ = some (.slice Ao27 t255.length co27) ∧ w'.cell? ⟨gb262, 5, none⟩ = some (.slice Ao28 t258.length co28) ∧ w'.cell? ⟨gb262, 6, none⟩ = some (.int .i64 t261) ∧ w'.cell? ⟨gb229, 0, none⟩ = some (.int .i64 a0_0) ∧ w'.cell? ⟨gb229, 1, none⟩ = some (.string a0_1) ∧ w'.cell? ⟨gb229, 2, none⟩ = some (.slice A0_2 l0_2.length c0_2) ∧ w'.cell? ⟨gb229, 3, none⟩ = some (.slice A0_3 l0_3.length c0_3) ∧ w'.cell? ⟨gb229, 4, none⟩ = some (.slice A0_4 l0_4.length c0_4) ∧ w'.cell? ⟨gb229, 5, none⟩ = some (.slice A0_5 l0_5.length c0_5) ∧ w'.cell? ⟨gb229, 6, none⟩ = some (.int .i64 a0_6)) (ds := []) #[false, false, false, false, false] (by kernel_rfl) rfl rfl ⟨(blk_cell BK262.out 0).trans rfl, (blk_cell BK262.out 1).trans rfl, (blk_cell BK262.out 2).trans rfl, (blk_cell BK262.out 3).trans rfl, (blk_cell BK262.out 4).trans rfl, (blk_cell BK262.out 5).trans rfl, (blk_cell BK262.out 6).trans rfl, (blk_cell BK229.out 0).trans rfl, (blk_cell BK229.out 1).trans rfl, (blk_cell BK229.out 2).trans rfl, (blk_cell BK229.out 3).trans rfl, (blk_cell BK229.out 4).trans rfl, (blk_cell BK229.out 5).trans rfl, (blk_cell BK229.out 6).trans rfl⟩ (fun hHeld => ?_)
      generalize wc.drew = w34 at HO_263002 HO_263003 HO_263004 HO_263005 BK229 BK262 HB hHeld ⊢
      refine take_ (i := 0) (N := some 22) (v := ?_) (a' := ?_) #[true, false, false, false, false] rfl rfl (by kernel_rfl) (fun _ _ _ h => h) (Or.inl ⟨by rfl, ?_⟩) hHeld ?_ ?_
      rotate_left
      ·rintro w' ⟨s0, s1, s2, s3, s4, s5, s6, s7, s8, s9, s10, s11, s12, s13⟩
       go_simp
       with_reducible rfl
      rotate_left
      ·simp only [Act.put, List.setIfInBounds_toArray, List.set_cons_zero, List.set_cons_succ, i64_w, i32_w]
       rfl
      refine take_ (i := 1) (N := some 23) (v := ?_) (a' := ?_) #[true, true, false, false, false] rfl rfl (by kernel_rfl) (fun _ _ _ h => h) (Or.inl ⟨by rfl, ?_⟩) hHeld ?_ ?_
      rotate_left
      ·rintro w' ⟨s0, s1, s2, s3, s4, s5, s6, s7, s8, s9, s10, s11, s12, s13⟩
       go_simp
       with_reducible rfl
      rotate_left
      ·simp only [Act.put, List.setIfInBounds_toArray, List.set_cons_zero, List.set_cons_succ, i64_w, i32_w]
       rfl
      refine one_ (i := 2) (N := some 24) #[true, true, true, false, false] rfl rfl (by kernel_rfl) (by decide) (fun K hK => ?_)
      refine goes_ Try.func10 (by kernel_rfl) rfl #[.agg #[.int .i64 a0_0, .string a0_1, .slice A0_2 l0_2.length c0_2, .slice A0_3 l0_3.length c0_3, .slice A0_4 l0_4.length c0_4, .slice A0_5 l0_5.length c0_5, .int .i64 a0_6]] (by rfl) rfl rfl (by (try simp only [List.map_toArray, List.map_cons, List.map_nil]); first | done | rfl | (simp only [List.length_drop, List.length_take]; rfl)) ?_
      with_reducible refine (laws_toFeatureLine.calls kj11 a0_0 a0_1 _ _ l0_2 _ _ l0_3 _ _ l0_4 _ _ l0_5 a0_6 t264 t265 t266 t269 t272 t275 t278 _ ?side1 ?side2 ?side3 ?side4 ?side5 ?side6 ?side7 ?side8 A31.out).mono ?_
      (case side1 => repeat (first | exact (Kd.C_below HR0_2.out HB.out) | (with_reducible first | refine cA ?_ _ | refine cN ?_ _ | refine cD ?_)))
      (case side2 => exact HC0_2.out)
      (case side3 => repeat (first | exact (Kd.C_below HR0_3.out HB.out) | (with_reducible first | refine cA ?_ _ | refine cN ?_ _ | refine cD ?_)))
      (case side4 => exact HC0_3.out)
      (case side5 => repeat (first | exact (Kd.C_below HR0_4.out HB.out) | (with_reducible first | refine cA ?_ _ | refine cN ?_ _ | refine cD ?_)))
      (case side6 => exact HC0_4.out)
      (case side7 => repeat (first | exact (Kd.C_below HR0_5.out HB.out) | (with_reducible first | refine cA ?_ _ | refine cN ?_ _ | refine cD ?_)))
      (case side8 => exact HC0_5.out)
      rintro e w35 ⟨v267, v270, v273, v276, rfl, ho0, ho1, ho2, ho3, hb⟩
      refine ⟨_, rfl, ?_⟩
      have n0_ := aM (Kd.R_mono (Kd.R_told (Kd.R_told (Kd.R_told (Kd.R_told (Kd.R_old (by (with_reducible repeat (first | apply rA | apply rN | apply rD)); exact HO_263002.out) hb) (Kd.R_base ho0)) (Kd.R_base ho1)) (Kd.R_base ho2)) (Kd.R_base ho3)) h1_)
      have n1_ := aM (Kd.R_mono (Kd.R_told (Kd.R_told (Kd.R_told (Kd.R_told (Kd.R_old (by (with_reducible repeat (first | apply rA | apply rN | apply rD)); exact HO_263003.out) hb) (Kd.R_base ho0)) (Kd.R_base ho1)) (Kd.R_base ho2)) (Kd.R_base ho3)) h1_)
      have n2_ := aM (Kd.R_mono (Kd.R_told (Kd.R_told (Kd.R_told (Kd.R_told (Kd.R_old (by (with_reducible repeat (first | apply rA | apply rN | apply rD)); exact HO_263004.out) hb) (Kd.R_base ho0)) (Kd.R_base ho1)) (Kd.R_base ho2)) (Kd.R_base ho3)) h1_)
      have n3_ := aM (Kd.R_mono (Kd.R_told (Kd.R_told (Kd.R_told (Kd.R_told (Kd.R_old (by (with_reducible repeat (first | apply rA | apply rN | apply rD)); exact HO_263005.out) hb) (Kd.R_base ho0)) (Kd.R_base ho1)) (Kd.R_base ho2)) (Kd.R_base ho3)) h1_)
      have n4_ := aM (Kd.R_lower (Kd.R_new' (Kd.R_new' (Kd.R_new' (Kd.R_new' ho0 (Kd.R_lt (by (with_reducible repeat (first | apply rA | apply rN | apply rD)); exact HO_263002.out))) (Kd.R_lt (by (with_reducible repeat (first | apply rA | apply rN | apply rD)); exact HO_263003.out))) (Kd.R_lt (by (with_reducible repeat (first | apply rA | apply rN | apply rD)); exact HO_263004.out))) (Kd.R_lt (by (with_reducible repeat (first | apply rA | apply rN | apply rD)); exact HO_263005.out))) (below_size (by repeat (first | (with_reducible first | exact HB.out | apply bA | apply bN | apply bD | refine below_set ?_ GE229.out | refine below_set ?_ GE262.out) | exact HB.out))))
      have n5_ := aM (Kd.R_lower (Kd.R_new' (Kd.R_new' (Kd.R_new' (Kd.R_new' ho1 (Kd.R_lt (by (with_reducible repeat (first | apply rA | apply rN | apply rD)); exact HO_263002.out))) (Kd.R_lt (by (with_reducible repeat (first | apply rA | apply rN | apply rD)); exact HO_263003.out))) (Kd.R_lt (by (with_reducible repeat (first | apply rA | apply rN | apply rD)); exact HO_263004.out))) (Kd.R_lt (by (with_reducible repeat (first | apply rA | apply rN | apply rD)); exact HO_263005.out))) (below_size (by repeat (first | (with_reducible first | exact HB.out | apply bA | apply bN | apply bD | refine below_set ?_ GE229.out | refine below_set ?_ GE262.out) | exact HB.out))))
      have n6_ := aM (Kd.R_lower (Kd.R_new' (Kd.R_new' (Kd.R_new' (Kd.R_new' ho2 (Kd.R_lt (by (with_reducible repeat (first | apply rA | apply rN | apply rD)); exact HO_263002.out))) (Kd.R_lt (by (with_reducible repeat (first | apply rA | apply rN | apply rD)); exact HO_263003.out))) (Kd.R_lt (by (with_reducible repeat (first | apply rA | apply rN | apply rD)); exact HO_263004.out))) (Kd.R_lt (by (with_reducible repeat (first | apply rA | apply rN | apply rD)); exact HO_263005.out))) (below_size (by repeat (first | (with_reducible first | exact HB.out | apply bA | apply bN | apply bD | refine below_set ?_ GE229.out | refine below_set ?_ GE262.out) | exact HB.out))))
      have n7_ := aM (Kd.R_lower (Kd.R_new' (Kd.R_new' (Kd.R_new' (Kd.R_new' ho3 (Kd.R_lt (by (with_reducible repeat (first | apply rA | apply rN | apply rD)); exact HO_263002.out))) (Kd.R_lt (by (with_reducible repeat (first | apply rA | apply rN | apply rD)); exact HO_263003.out))) (Kd.R_lt (by (with_reducible repeat (first | apply rA | apply rN | apply rD)); exact HO_263004.out))) (Kd.R_lt (by (with_reducible repeat (first | apply rA | apply rN | apply rD)); exact HO_263005.out))) (below_size (by repeat (first | (with_reducible first | exact HB.out | apply bA | apply bN | apply bD | refine below_set ?_ GE229.out | refine below_set ?_ GE262.out) | exact HB.out))))
      have n8_ := aM (blk_below (g := gb229) (o := .cells #[.int .i64 a0_0, .string a0_1, .slice A0_2 l0_2.length c0_2, .slice A0_3 l0_3.length c0_3, .slice A0_4 l0_4.length c0_4, .slice A0_5 l0_5.length c0_5, .int .i64 a0_6] 24 (0, 0)) (by (with_reducible repeat (first | refine blk_drewN ?_ _ | refine blk_drew ?_ | refine blk_alloc ?_ _)); exact BK229.out) hb)
      have n9_ := aM (blk_below (g := gb262) (o := .cells #[.int .i64 t247, .string t248, .slice Ao25 t249.length co25, .slice Ao26 t252.length co26, .slice Ao27 t255.length co27, .slice Ao28 t258.length co28, .int .i64 t261] 27 (0, 0)) (by (with_reducible repeat (first | refine blk_drewN ?_ _ | refine blk_drew ?_ | refine blk_alloc ?_ _)); exact BK262.out) hb)
      have n10_ := aM (below_step (by repeat (first | (with_reducible first | exact HB.out | apply bA | apply bN | apply bD | refine below_set ?_ GE229.out | refine below_set ?_ GE262.out) | exact HB.out)) hb)
      clear HO_263002
      clear HO_263003
      clear HO_263004
      clear HO_263005
      clear BK229
      clear BK262
      clear HB
      have HO_263002 := n0_
      have HO_263003 := n1_
      have HO_263004 := n2_
      have HO_263005 := n3_
      have HO268 := n4_
      have HO271 := n5_
      have HO274 := n6_
      have HO277 := n7_
      have BK229 := n8_
      have BK262 := n9_
      have HB := n10_
      clear n0_ n1_ n2_ n3_ n4_ n5_ n6_ n7_ n8_ n9_ n10_
      (try clear hb)
      (try clear hb2)
      (try clear hk)
      (try clear hi)
      (try clear ho0)
      (try clear ho1)
      (try clear ho2)
      (try clear ho3)
      obtain ⟨Ao36, co36, eo36⟩ := Kd.R_slice HO268.out
      (first | subst eo36 | (injection eo36 with f1_ f2_ f3_; have f4_ := f1_.symm; have f5_ := f3_.symm; clear f1_ f2_ f3_; subst f4_; subst f5_))
      obtain ⟨Ao37, co37, eo37⟩ := Kd.R_slice HO271.out
      (first | subst eo37 | (injection eo37 with f1_ f2_ f3_; have f4_ := f1_.symm; have f5_ := f3_.symm; clear f1_ f2_ f3_; subst f4_; subst f5_))
      obtain ⟨Ao38, co38, eo38⟩ := Kd.R_slice HO274.out
      (first | subst eo38 | (injection eo38 with f1_ f2_ f3_; have f4_ := f1_.symm; have f5_ := f3_.symm; clear f1_ f2_ f3_; subst f4_; subst f5_))
      obtain ⟨Ao39, co39, eo39⟩ := Kd.R_slice HO277.out
      (first | subst eo39 | (injection eo39 with f1_ f2_ f3_; have f4_ := f1_.symm; have f5_ := f3_.symm; clear f1_ f2_ f3_; subst f4_; subst f5_))
      refine hK.out _ _ ⟨(blk_cell BK262.out 0).trans rfl, (blk_cell BK262.out 1).trans rfl, (blk_cell BK262.out 2).trans rfl, (blk_cell BK262.out 3).trans rfl, (blk_cell BK262.out 4).trans rfl, (blk_cell BK262.out 5).trans rfl, (blk_cell BK262.out 6).trans rfl, (blk_cell BK229.out 0).trans rfl, (blk_cell BK229.out 1).trans rfl, (blk_cell BK229.out 2).trans rfl, (blk_cell BK229.out 3).trans rfl, (blk_cell BK229.out 4).trans rfl, (blk_cell BK229.out 5).trans rfl, (blk_cell BK229.out 6).trans rfl⟩ (fun hHeld => ?_)
      clear hK K
      refine norm_ (a' := ?_) ?_ ?_
      rotate_left
      ·show Act.put _ (some 24) _ = _
       simp only [Act.put, List.setIfInBounds_toArray, List.set_cons_zero, List.set_cons_succ, i64_w, i32_w]
       rfl
      refine one_ (i := 3) (N := some 25) #[true, true, true, true, false] rfl rfl (by kernel_rfl) (by decide) (fun K hK => ?_)
      refine goes_ Try.func12 (by kernel_rfl) rfl #[.agg #[.int .i64 t247, .string t248, .slice Ao25 t249.length co25, .slice Ao26 t252.length co26, .slice Ao27 t255.length co27, .slice Ao28 t258.length co28, .int .i64 t261], .agg #[.int .i64 t264, .string t265, .slice Ao36 t266.length co36, .slice Ao37 t269.length co37, .slice Ao38 t272.length co38, .slice Ao39 t275.length co39, .int .i64 t278]] (by rfl) rfl rfl (by (try simp only [List.map_toArray, List.map_cons, List.map_nil]); first | done | rfl | (simp only [List.length_drop, List.length_take]; rfl)) ?_
      with_reducible refine (laws_eqFeatureLine.calls kj11 t247 t248 _ _ t249 _ _ t252 _ _ t255 _ _ t258 t261 t264 t265 _ _ t266 _ _ t269 _ _ t272 _ _ t275 t278 true _ ?side1 ?side2 ?side3 ?side4 ?side5 ?side6 ?side7 ?side8 ?side9 ?side10 ?side11 ?side12 ?side13 ?side14 ?side15 ?side16 A32.out).mono ?_
      (case side1 => repeat (first | exact (Kd.R_reads' HO_263002.out).2.2 | (with_reducible first | refine cA ?_ _ | refine cN ?_ _ | refine cD ?_)))
      (case side2 => exact (Kd.R_reads' HO_263002.out).2.1)
      (case side3 => repeat (first | exact (Kd.R_reads' HO_263003.out).2.2 | (with_reducible first | refine cA ?_ _ | refine cN ?_ _ | refine cD ?_)))
      (case side4 => exact (Kd.R_reads' HO_263003.out).2.1)
      (case side5 => repeat (first | exact (Kd.R_reads' HO_263004.out).2.2 | (with_reducible first | refine cA ?_ _ | refine cN ?_ _ | refine cD ?_)))
      (case side6 => exact (Kd.R_reads' HO_263004.out).2.1)
      (case side7 => repeat (first | exact (Kd.R_reads' HO_263005.out).2.2 | (with_reducible first | refine cA ?_ _ | refine cN ?_ _ | refine cD ?_)))
      (case side8 => exact (Kd.R_reads' HO_263005.out).2.1)
      (case side9 => repeat (first | exact (Kd.R_reads' HO268.out).2.2 | (with_reducible first | refine cA ?_ _ | refine cN ?_ _ | refine cD ?_)))
      (case side10 => exact (Kd.R_reads' HO268.out).2.1)
      (case side11 => repeat (first | exact (Kd.R_reads' HO271.out).2.2 | (with_reducible first | refine cA ?_ _ | refine cN ?_ _ | refine cD ?_)))
      (case side12 => exact (Kd.R_reads' HO271.out).2.1)
      (case side13 => repeat (first | exact (Kd.R_reads' HO274.out).2.2 | (with_reducible first | refine cA ?_ _ | refine cN ?_ _ | refine cD ?_)))
      (case side14 => exact (Kd.R_reads' HO274.out).2.1)
      (case side15 => repeat (first | exact (Kd.R_reads' HO277.out).2.2 | (with_reducible first | refine cA ?_ _ | refine cN ?_ _ | refine cD ?_)))
      (case side16 => exact (Kd.R_reads' HO277.out).2.1)
      rintro e w40 ⟨rfl, hb⟩
      refine ⟨_, rfl, ?_⟩
      have n0_ := aM (Kd.R_below (by (with_reducible repeat (first | apply rA | apply rN | apply rD)); exact HO_263002.out) hb)
      have n1_ := aM (Kd.R_below (by (with_reducible repeat (first | apply rA | apply rN | apply rD)); exact HO_263003.out) hb)
      have n2_ := aM (Kd.R_below (by (with_reducible repeat (first | apply rA | apply rN | apply rD)); exact HO_263004.out) hb)
      have n3_ := aM (Kd.R_below (by (with_reducible repeat (first | apply rA | apply rN | apply rD)); exact HO_263005.out) hb)
      have n4_ := aM (Kd.R_below (by (with_reducible repeat (first | apply rA | apply rN | apply rD)); exact HO268.out) hb)
      have n5_ := aM (Kd.R_below (by (with_reducible repeat (first | apply rA | apply rN | apply rD)); exact HO271.out) hb)
      have n6_ := aM (Kd.R_below (by (with_reducible repeat (first | apply rA | apply rN | apply rD)); exact HO274.out) hb)
      have n7_ := aM (Kd.R_below (by (with_reducible repeat (first | apply rA | apply rN | apply rD)); exact HO277.out) hb)
      have n8_ := aM (blk_below (g := gb229) (o := .cells #[.int .i64 a0_0, .string a0_1, .slice A0_2 l0_2.length c0_2, .slice A0_3 l0_3.length c0_3, .slice A0_4 l0_4.length c0_4, .slice A0_5 l0_5.length c0_5, .int .i64 a0_6] 24 (0, 0)) (by (with_reducible repeat (first | refine blk_drewN ?_ _ | refine blk_drew ?_ | refine blk_alloc ?_ _)); exact BK229.out) hb)
      have n9_ := aM (blk_below (g := gb262) (o := .cells #[.int .i64 t247, .string t248, .slice Ao25 t249.length co25, .slice Ao26 t252.length co26, .slice Ao27 t255.length co27, .slice Ao28 t258.length co28, .int .i64 t261] 27 (0, 0)) (by (with_reducible repeat (first | refine blk_drewN ?_ _ | refine blk_drew ?_ | refine blk_alloc ?_ _)); exact BK262.out) hb)
      have n10_ := aM (below_step (by repeat (first | (with_reducible first | exact HB.out | apply bA | apply bN | apply bD | refine below_set ?_ GE229.out | refine below_set ?_ GE262.out) | exact HB.out)) hb)
      clear HO_263002
      clear HO_263003
      clear HO_263004
      clear HO_263005
      clear HO268
      clear HO271
      clear HO274
      clear HO277
      clear BK229
      clear BK262
      clear HB
      have HO_263002 := n0_
      have HO_263003 := n1_
      have HO_263004 := n2_
      have HO_263005 := n3_
      have HO268 := n4_
      have HO271 := n5_
      have HO274 := n6_
      have HO277 := n7_
      have BK229 := n8_
      have BK262 := n9_
      have HB := n10_
      clear n0_ n1_ n2_ n3_ n4_ n5_ n6_ n7_ n8_ n9_ n10_
      (try clear hb)
      (try clear hb2)
      (try clear hk)
      (try clear hi)
      refine hK.out _ _ ⟨(blk_cell BK262.out 0).trans rfl, (blk_cell BK262.out 1).trans rfl, (blk_cell BK262.out 2).trans rfl, (blk_cell BK262.out 3).trans rfl, (blk_cell BK262.out 4).trans rfl, (blk_cell BK262.out 5).trans rfl, (blk_cell BK262.out 6).trans rfl, (blk_cell BK229.out 0).trans rfl, (blk_cell BK229.out 1).trans rfl, (blk_cell BK229.out 2).trans rfl, (blk_cell BK229.out 3).trans rfl, (blk_cell BK229.out 4).trans rfl, (blk_cell BK229.out 5).trans rfl, (blk_cell BK229.out 6).trans rfl⟩ (fun hHeld => ?_)
      clear hK K
      refine norm_ (a' := ?_) ?_ ?_
      rotate_left
      ·show Act.put _ (some 25) _ = _
       simp only [Act.put, List.setIfInBounds_toArray, List.set_cons_zero, List.set_cons_succ, i64_w, i32_w]
       rfl
      refine pure_ (i := 4) (N := some 26) (v := ?_) (a' := ?_) #[true, true, true, true, true] rfl rfl (by kernel_rfl) (fun _ _ _ h => h) (Or.inl ⟨by rfl, ?_⟩) ?_ ?_
      rotate_left
      ·intro w'
       go_simp
       with_reducible rfl
      rotate_left
      ·simp only [Act.put, List.setIfInBounds_toArray, List.set_cons_zero, List.set_cons_succ, i64_w, i32_w]
       rfl
      refine done_ (by kernel_rfl) ?_
      try go_wp2
      go_ret
      exact ⟨by first | rfl | (simp [errW_none, errW_some] <;> rfl) | (simp [*, errW_none, errW_some] <;> rfl), by repeat (first | (with_reducible first | exact HB.out | apply bA | apply bN | apply bD | refine below_set ?_ GE229.out | refine below_set ?_ GE262.out) | exact HB.out)⟩
     ·replace c33 := Bool.eq_false_iff.mpr c33
      subst c33
      have H1 : (some false) = some r := by rw [if_neg (show ¬ (false = true) by decide)] at H; exact H
      clear H
      have H := H1
      clear H1
      obtain rfl := Option.some.inj H
      try go_wp2
      have n0_ := aM (Kd.R_drew HO_263002.out)
      have n1_ := aM (Kd.R_drew HO_263003.out)
      have n2_ := aM (Kd.R_drew HO_263004.out)
      have n3_ := aM (Kd.R_drew HO_263005.out)
      have n4_ := aM (blk_drew BK229.out)
      have n5_ := aM (blk_drew BK262.out)
      have n6_ := aM (below_drew1 HB.out)
      clear HO_263002
      clear HO_263003
      clear HO_263004
      clear HO_263005
      clear BK229
      clear BK262
      clear HB
      have HO_263002 := n0_
      have HO_263003 := n1_
      have HO_263004 := n2_
      have HO_263005 := n3_
      have BK229 := n4_
      have BK262 := n5_
      have HB := n6_
      clear n0_ n1_ n2_ n3_ n4_ n5_ n6_
      refine start_ (n := 5) (S := fun w' => w'.cell? ⟨gb262, 0, none⟩ = some (.int .i64 t247) ∧ w'.cell? ⟨gb262, 1, none⟩ = some (.string t248) ∧ w'.cell? ⟨gb262, 2, none⟩ = some (.slice Ao25 t249.length co25) ∧ w'.cell? ⟨gb262, 3, none⟩ = some (.slice Ao26 t252.length co26) ∧ w'.cell? ⟨gb262, 4, none⟩ = some (.slice Ao27 t255.length co27) ∧ w'.cell? ⟨gb262, 5, none⟩ = some (.slice Ao28 t258.length co28) ∧ w'.cell? ⟨gb262, 6, none⟩ = some (.int .i64 t261) ∧ w'.cell? ⟨gb229, 0, none⟩ = some (.int .i64 a0_0) ∧ w'.cell? ⟨gb229, 1, none⟩ = some (.string a0_1) ∧ w'.cell? ⟨gb229, 2, none⟩ = some (.slice A0_2 l0_2.length c0_2) ∧ w'.cell? ⟨gb229, 3, none⟩ = some (.slice A0_3 l0_3.length c0_3) ∧ w'.cell? ⟨gb229, 4, none⟩ = some (.slice A0_4 l0_4.length c0_4) ∧ w'.cell? ⟨gb229, 5, none⟩ = some (.slice A0_5 l0_5.length c0_5) ∧ w'.cell? ⟨gb229, 6, none⟩ = some (.int .i64 a0_6)) (ds := []) #[false, false, false, false, false] (by kernel_rfl) rfl rfl ⟨(blk_cell BK262.out 0).trans rfl, (blk_cell BK262.out 1).trans rfl, (blk_cell BK262.out 2).trans rfl, (blk_cell BK262.out 3).trans rfl, (blk_cell BK262.out 4).trans rfl, (blk_cell BK262.out 5).trans rfl, (blk_cell BK262.out 6).trans rfl, (blk_cell BK229.out 0).trans rfl, (blk_cell BK229.out 1).trans rfl, (blk_cell BK229.out 2).trans rfl, (blk_cell BK229.out 3).trans rfl, (blk_cell BK229.out 4).trans rfl, (blk_cell BK229.out 5).trans rfl, (blk_cell BK229.out 6).trans rfl⟩ (fun hHeld => ?_)
      generalize wc.drew = w41 at HO_263002 HO_263003 HO_263004 HO_263005 BK229 BK262 HB hHeld ⊢
      refine take_ (i := 0) (N := some 22) (v := ?_) (a' := ?_) #[true, false, false, false, false] rfl rfl (by kernel_rfl) (fun _ _ _ h => h) (Or.inl ⟨by rfl, ?_⟩) hHeld ?_ ?_
      rotate_left
      ·rintro w' ⟨s0, s1, s2, s3, s4, s5, s6, s7, s8, s9, s10, s11, s12, s13⟩
       go_simp
       with_reducible rfl
      rotate_left
      ·simp only [Act.put, List.setIfInBounds_toArray, List.set_cons_zero, List.set_cons_succ, i64_w, i32_w]
       rfl
      refine take_ (i := 1) (N := some 23) (v := ?_) (a' := ?_) #[true, true, false, false, false] rfl rfl (by kernel_rfl) (fun _ _ _ h => h) (Or.inl ⟨by rfl, ?_⟩) hHeld ?_ ?_
      rotate_left
      ·rintro w' ⟨s0, s1, s2, s3, s4, s5, s6, s7, s8, s9, s10, s11, s12, s13⟩
       go_simp
       with_reducible rfl
      rotate_left
      ·simp only [Act.put, List.setIfInBounds_toArray, List.set_cons_zero, List.set_cons_succ, i64_w, i32_w]
       rfl
      refine one_ (i := 2) (N := some 24) #[true, true, true, false, false] rfl rfl (by kernel_rfl) (by decide) (fun K hK => ?_)
      refine goes_ Try.func10 (by kernel_rfl) rfl #[.agg #[.int .i64 a0_0, .string a0_1, .slice A0_2 l0_2.length c0_2, .slice A0_3 l0_3.length c0_3, .slice A0_4 l0_4.length c0_4, .slice A0_5 l0_5.length c0_5, .int .i64 a0_6]] (by rfl) rfl rfl (by (try simp only [List.map_toArray, List.map_cons, List.map_nil]); first | done | rfl | (simp only [List.length_drop, List.length_take]; rfl)) ?_
      with_reducible refine (laws_toFeatureLine.calls kj11 a0_0 a0_1 _ _ l0_2 _ _ l0_3 _ _ l0_4 _ _ l0_5 a0_6 t264 t265 t266 t269 t272 t275 t278 _ ?side1 ?side2 ?side3 ?side4 ?side5 ?side6 ?side7 ?side8 A31.out).mono ?_
      (case side1 => repeat (first | exact (Kd.C_below HR0_2.out HB.out) | (with_reducible first | refine cA ?_ _ | refine cN ?_ _ | refine cD ?_)))
      (case side2 => exact HC0_2.out)
      (case side3 => repeat (first | exact (Kd.C_below HR0_3.out HB.out) | (with_reducible first | refine cA ?_ _ | refine cN ?_ _ | refine cD ?_)))
      (case side4 => exact HC0_3.out)
      (case side5 => repeat (first | exact (Kd.C_below HR0_4.out HB.out) | (with_reducible first | refine cA ?_ _ | refine cN ?_ _ | refine cD ?_)))
      (case side6 => exact HC0_4.out)
      (case side7 => repeat (first | exact (Kd.C_below HR0_5.out HB.out) | (with_reducible first | refine cA ?_ _ | refine cN ?_ _ | refine cD ?_)))
      (case side8 => exact HC0_5.out)
      rintro e w42 ⟨v267, v270, v273, v276, rfl, ho0, ho1, ho2, ho3, hb⟩
      refine ⟨_, rfl, ?_⟩
      have n0_ := aM (Kd.R_mono (Kd.R_told (Kd.R_told (Kd.R_told (Kd.R_told (Kd.R_old (by (with_reducible repeat (first | apply rA | apply rN | apply rD)); exact HO_263002.out) hb) (Kd.R_base ho0)) (Kd.R_base ho1)) (Kd.R_base ho2)) (Kd.R_base ho3)) h1_)
      have n1_ := aM (Kd.R_mono (Kd.R_told (Kd.R_told (Kd.R_told (Kd.R_told (Kd.R_old (by (with_reducible repeat (first | apply rA | apply rN | apply rD)); exact HO_263003.out) hb) (Kd.R_base ho0)) (Kd.R_base ho1)) (Kd.R_base ho2)) (Kd.R_base ho3)) h1_)
      have n2_ := aM (Kd.R_mono (Kd.R_told (Kd.R_told (Kd.R_told (Kd.R_told (Kd.R_old (by (with_reducible repeat (first | apply rA | apply rN | apply rD)); exact HO_263004.out) hb) (Kd.R_base ho0)) (Kd.R_base ho1)) (Kd.R_base ho2)) (Kd.R_base ho3)) h1_)
      have n3_ := aM (Kd.R_mono (Kd.R_told (Kd.R_told (Kd.R_told (Kd.R_told (Kd.R_old (by (with_reducible repeat (first | apply rA | apply rN | apply rD)); exact HO_263005.out) hb) (Kd.R_base ho0)) (Kd.R_base ho1)) (Kd.R_base ho2)) (Kd.R_base ho3)) h1_)
      have n4_ := aM (Kd.R_lower (Kd.R_new' (Kd.R_new' (Kd.R_new' (Kd.R_new' ho0 (Kd.R_lt (by (with_reducible repeat (first | apply rA | apply rN | apply rD)); exact HO_263002.out))) (Kd.R_lt (by (with_reducible repeat (first | apply rA | apply rN | apply rD)); exact HO_263003.out))) (Kd.R_lt (by (with_reducible repeat (first | apply rA | apply rN | apply rD)); exact HO_263004.out))) (Kd.R_lt (by (with_reducible repeat (first | apply rA | apply rN | apply rD)); exact HO_263005.out))) (below_size (by repeat (first | (with_reducible first | exact HB.out | apply bA | apply bN | apply bD | refine below_set ?_ GE229.out | refine below_set ?_ GE262.out) | exact HB.out))))
      have n5_ := aM (Kd.R_lower (Kd.R_new' (Kd.R_new' (Kd.R_new' (Kd.R_new' ho1 (Kd.R_lt (by (with_reducible repeat (first | apply rA | apply rN | apply rD)); exact HO_263002.out))) (Kd.R_lt (by (with_reducible repeat (first | apply rA | apply rN | apply rD)); exact HO_263003.out))) (Kd.R_lt (by (with_reducible repeat (first | apply rA | apply rN | apply rD)); exact HO_263004.out))) (Kd.R_lt (by (with_reducible repeat (first | apply rA | apply rN | apply rD)); exact HO_263005.out))) (below_size (by repeat (first | (with_reducible first | exact HB.out | apply bA | apply bN | apply bD | refine below_set ?_ GE229.out | refine below_set ?_ GE262.out) | exact HB.out))))
      have n6_ := aM (Kd.R_lower (Kd.R_new' (Kd.R_new' (Kd.R_new' (Kd.R_new' ho2 (Kd.R_lt (by (with_reducible repeat (first | apply rA | apply rN | apply rD)); exact HO_263002.out))) (Kd.R_lt (by (with_reducible repeat (first | apply rA | apply rN | apply rD)); exact HO_263003.out))) (Kd.R_lt (by (with_reducible repeat (first | apply rA | apply rN | apply rD)); exact HO_263004.out))) (Kd.R_lt (by (with_reducible repeat (first | apply rA | apply rN | apply rD)); exact HO_263005.out))) (below_size (by repeat (first | (with_reducible first | exact HB.out | apply bA | apply bN | apply bD | refine below_set ?_ GE229.out | refine below_set ?_ GE262.out) | exact HB.out))))
      have n7_ := aM (Kd.R_lower (Kd.R_new' (Kd.R_new' (Kd.R_new' (Kd.R_new' ho3 (Kd.R_lt (by (with_reducible repeat (first | apply rA | apply rN | apply rD)); exact HO_263002.out))) (Kd.R_lt (by (with_reducible repeat (first | apply rA | apply rN | apply rD)); exact HO_263003.out))) (Kd.R_lt (by (with_reducible repeat (first | apply rA | apply rN | apply rD)); exact HO_263004.out))) (Kd.R_lt (by (with_reducible repeat (first | apply rA | apply rN | apply rD)); exact HO_263005.out))) (below_size (by repeat (first | (with_reducible first | exact HB.out | apply bA | apply bN | apply bD | refine below_set ?_ GE229.out | refine below_set ?_ GE262.out) | exact HB.out))))
      have n8_ := aM (blk_below (g := gb229) (o := .cells #[.int .i64 a0_0, .string a0_1, .slice A0_2 l0_2.length c0_2, .slice A0_3 l0_3.length c0_3, .slice A0_4 l0_4.length c0_4, .slice A0_5 l0_5.length c0_5, .int .i64 a0_6] 24 (0, 0)) (by (with_reducible repeat (first | refine blk_drewN ?_ _ | refine blk_drew ?_ | refine blk_alloc ?_ _)); exact BK229.out) hb)
      have n9_ := aM (blk_below (g := gb262) (o := .cells #[.int .i64 t247, .string t248, .slice Ao25 t249.length co25, .slice Ao26 t252.length co26, .slice Ao27 t255.length co27, .slice Ao28 t258.length co28, .int .i64 t261] 27 (0, 0)) (by (with_reducible repeat (first | refine blk_drewN ?_ _ | refine blk_drew ?_ | refine blk_alloc ?_ _)); exact BK262.out) hb)
      have n10_ := aM (below_step (by repeat (first | (with_reducible first | exact HB.out | apply bA | apply bN | apply bD | refine below_set ?_ GE229.out | refine below_set ?_ GE262.out) | exact HB.out)) hb)
      clear HO_263002
      clear HO_263003
      clear HO_263004
      clear HO_263005
      clear BK229
      clear BK262
      clear HB
      have HO_263002 := n0_
      have HO_263003 := n1_
      have HO_263004 := n2_
      have HO_263005 := n3_
      have HO268 := n4_
      have HO271 := n5_
      have HO274 := n6_
      have HO277 := n7_
      have BK229 := n8_
      have BK262 := n9_
      have HB := n10_
      clear n0_ n1_ n2_ n3_ n4_ n5_ n6_ n7_ n8_ n9_ n10_
      (try clear hb)
      (try clear hb2)
      (try clear hk)
      (try clear hi)
      (try clear ho0)
      (try clear ho1)
      (try clear ho2)
      (try clear ho3)
      obtain ⟨Ao43, co43, eo43⟩ := Kd.R_slice HO268.out
      (first | subst eo43 | (injection eo43 with f1_ f2_ f3_; have f4_ := f1_.symm; have f5_ := f3_.symm; clear f1_ f2_ f3_; subst f4_; subst f5_))
      obtain ⟨Ao44, co44, eo44⟩ := Kd.R_slice HO271.out
      (first | subst eo44 | (injection eo44 with f1_ f2_ f3_; have f4_ := f1_.symm; have f5_ := f3_.symm; clear f1_ f2_ f3_; subst f4_; subst f5_))
      obtain ⟨Ao45, co45, eo45⟩ := Kd.R_slice HO274.out
      (first | subst eo45 | (injection eo45 with f1_ f2_ f3_; have f4_ := f1_.symm; have f5_ := f3_.symm; clear f1_ f2_ f3_; subst f4_; subst f5_))
      obtain ⟨Ao46, co46, eo46⟩ := Kd.R_slice HO277.out
      (first | subst eo46 | (injection eo46 with f1_ f2_ f3_; have f4_ := f1_.symm; have f5_ := f3_.symm; clear f1_ f2_ f3_; subst f4_; subst f5_))
      refine hK.out _ _ ⟨(blk_cell BK262.out 0).trans rfl, (blk_cell BK262.out 1).trans rfl, (blk_cell BK262.out 2).trans rfl, (blk_cell BK262.out 3).trans rfl, (blk_cell BK262.out 4).trans rfl, (blk_cell BK262.out 5).trans rfl, (blk_cell BK262.out 6).trans rfl, (blk_cell BK229.out 0).trans rfl, (blk_cell BK229.out 1).trans rfl, (blk_cell BK229.out 2).trans rfl, (blk_cell BK229.out 3).trans rfl, (blk_cell BK229.out 4).trans rfl, (blk_cell BK229.out 5).trans rfl, (blk_cell BK229.out 6).trans rfl⟩ (fun hHeld => ?_)
      clear hK K
      refine norm_ (a' := ?_) ?_ ?_
      rotate_left
      ·show Act.put _ (some 24) _ = _
       simp only [Act.put, List.setIfInBounds_toArray, List.set_cons_zero, List.set_cons_succ, i64_w, i32_w]
       rfl
      refine one_ (i := 3) (N := some 25) #[true, true, true, true, false] rfl rfl (by kernel_rfl) (by decide) (fun K hK => ?_)
      refine goes_ Try.func12 (by kernel_rfl) rfl #[.agg #[.int .i64 t247, .string t248, .slice Ao25 t249.length co25, .slice Ao26 t252.length co26, .slice Ao27 t255.length co27, .slice Ao28 t258.length co28, .int .i64 t261], .agg #[.int .i64 t264, .string t265, .slice Ao43 t266.length co43, .slice Ao44 t269.length co44, .slice Ao45 t272.length co45, .slice Ao46 t275.length co46, .int .i64 t278]] (by rfl) rfl rfl (by (try simp only [List.map_toArray, List.map_cons, List.map_nil]); first | done | rfl | (simp only [List.length_drop, List.length_take]; rfl)) ?_
      with_reducible refine (laws_eqFeatureLine.calls kj11 t247 t248 _ _ t249 _ _ t252 _ _ t255 _ _ t258 t261 t264 t265 _ _ t266 _ _ t269 _ _ t272 _ _ t275 t278 false _ ?side1 ?side2 ?side3 ?side4 ?side5 ?side6 ?side7 ?side8 ?side9 ?side10 ?side11 ?side12 ?side13 ?side14 ?side15 ?side16 A32.out).mono ?_
      (case side1 => repeat (first | exact (Kd.R_reads' HO_263002.out).2.2 | (with_reducible first | refine cA ?_ _ | refine cN ?_ _ | refine cD ?_)))
      (case side2 => exact (Kd.R_reads' HO_263002.out).2.1)
      (case side3 => repeat (first | exact (Kd.R_reads' HO_263003.out).2.2 | (with_reducible first | refine cA ?_ _ | refine cN ?_ _ | refine cD ?_)))
      (case side4 => exact (Kd.R_reads' HO_263003.out).2.1)
      (case side5 => repeat (first | exact (Kd.R_reads' HO_263004.out).2.2 | (with_reducible first | refine cA ?_ _ | refine cN ?_ _ | refine cD ?_)))
      (case side6 => exact (Kd.R_reads' HO_263004.out).2.1)
      (case side7 => repeat (first | exact (Kd.R_reads' HO_263005.out).2.2 | (with_reducible first | refine cA ?_ _ | refine cN ?_ _ | refine cD ?_)))
      (case side8 => exact (Kd.R_reads' HO_263005.out).2.1)
      (case side9 => repeat (first | exact (Kd.R_reads' HO268.out).2.2 | (with_reducible first | refine cA ?_ _ | refine cN ?_ _ | refine cD ?_)))
      (case side10 => exact (Kd.R_reads' HO268.out).2.1)
      (case side11 => repeat (first | exact (Kd.R_reads' HO271.out).2.2 | (with_reducible first | refine cA ?_ _ | refine cN ?_ _ | refine cD ?_)))
      (case side12 => exact (Kd.R_reads' HO271.out).2.1)
      (case side13 => repeat (first | exact (Kd.R_reads' HO274.out).2.2 | (with_reducible first | refine cA ?_ _ | refine cN ?_ _ | refine cD ?_)))
      (case side14 => exact (Kd.R_reads' HO274.out).2.1)
      (case side15 => repeat (first | exact (Kd.R_reads' HO277.out).2.2 | (with_reducible first | refine cA ?_ _ | refine cN ?_ _ | refine cD ?_)))
      (case side16 => exact (Kd.R_reads' HO277.out).2.1)
      rintro e w47 ⟨rfl, hb⟩
      refine ⟨_, rfl, ?_⟩
      have n0_ := aM (Kd.R_below (by (with_reducible repeat (first | apply rA | apply rN | apply rD)); exact HO_263002.out) hb)
      have n1_ := aM (Kd.R_below (by (with_reducible repeat (first | apply rA | apply rN | apply rD)); exact HO_263003.out) hb)
      have n2_ := aM (Kd.R_below (by (with_reducible repeat (first | apply rA | apply rN | apply rD)); exact HO_263004.out) hb)
      have n3_ := aM (Kd.R_below (by (with_reducible repeat (first | apply rA | apply rN | apply rD)); exact HO_263005.out) hb)
      have n4_ := aM (Kd.R_below (by (with_reducible repeat (first | apply rA | apply rN | apply rD)); exact HO268.out) hb)
      have n5_ := aM (Kd.R_below (by (with_reducible repeat (first | apply rA | apply rN | apply rD)); exact HO271.out) hb)
      have n6_ := aM (Kd.R_below (by (with_reducible repeat (first | apply rA | apply rN | apply rD)); exact HO274.out) hb)
      have n7_ := aM (Kd.R_below (by (with_reducible repeat (first | apply rA | apply rN | apply rD)); exact HO277.out) hb)
      have n8_ := aM (blk_below (g := gb229) (o := .cells #[.int .i64 a0_0, .string a0_1, .slice A0_2 l0_2.length c0_2, .slice A0_3 l0_3.length c0_3, .slice A0_4 l0_4.length c0_4, .slice A0_5 l0_5.length c0_5, .int .i64 a0_6] 24 (0, 0)) (by (with_reducible repeat (first | refine blk_drewN ?_ _ | refine blk_drew ?_ | refine blk_alloc ?_ _)); exact BK229.out) hb)
      have n9_ := aM (blk_below (g := gb262) (o := .cells #[.int .i64 t247, .string t248, .slice Ao25 t249.length co25, .slice Ao26 t252.length co26, .slice Ao27 t255.length co27, .slice Ao28 t258.length co28, .int .i64 t261] 27 (0, 0)) (by (with_reducible repeat (first | refine blk_drewN ?_ _ | refine blk_drew ?_ | refine blk_alloc ?_ _)); exact BK262.out) hb)
      have n10_ := aM (below_step (by repeat (first | (with_reducible first | exact HB.out | apply bA | apply bN | apply bD | refine below_set ?_ GE229.out | refine below_set ?_ GE262.out) | exact HB.out)) hb)
      clear HO_263002
      clear HO_263003
      clear HO_263004
      clear HO_263005
      clear HO268
      clear HO271
      clear HO274
      clear HO277
      clear BK229
      clear BK262
      clear HB
      have HO_263002 := n0_
      have HO_263003 := n1_
      have HO_263004 := n2_
      have HO_263005 := n3_
      have HO268 := n4_
      have HO271 := n5_
      have HO274 := n6_
      have HO277 := n7_
      have BK229 := n8_
      have BK262 := n9_
      have HB := n10_
      clear n0_ n1_ n2_ n3_ n4_ n5_ n6_ n7_ n8_ n9_ n10_
      (try clear hb)
      (try clear hb2)
      (try clear hk)
      (try clear hi)
      refine hK.out _ _ ⟨(blk_cell BK262.out 0).trans rfl, (blk_cell BK262.out 1).trans rfl, (blk_cell BK262.out 2).trans rfl, (blk_cell BK262.out 3).trans rfl, (blk_cell BK262.out 4).trans rfl, (blk_cell BK262.out 5).trans rfl, (blk_cell BK262.out 6).trans rfl, (blk_cell BK229.out 0).trans rfl, (blk_cell BK229.out 1).trans rfl, (blk_cell BK229.out 2).trans rfl, (blk_cell BK229.out 3).trans rfl, (blk_cell BK229.out 4).trans rfl, (blk_cell BK229.out 5).trans rfl, (blk_cell BK229.out 6).trans rfl⟩ (fun hHeld => ?_)
      clear hK K
      refine norm_ (a' := ?_) ?_ ?_
      rotate_left
      ·show Act.put _ (some 25) _ = _
       simp only [Act.put, List.setIfInBounds_toArray, List.set_cons_zero, List.set_cons_succ, i64_w, i32_w]
       rfl
      refine pure_ (i := 4) (N := some 26) (v := ?_) (a' := ?_) #[true, true, true, true, true] rfl rfl (by kernel_rfl) (fun _ _ _ h => h) (Or.inl ⟨by rfl, ?_⟩) ?_ ?_
      rotate_left
      ·intro w'
       go_simp
       with_reducible rfl
      rotate_left
      ·simp only [Act.put, List.setIfInBounds_toArray, List.set_cons_zero, List.set_cons_succ, i64_w, i32_w]
       rfl
      refine done_ (by kernel_rfl) ?_
      try go_wp2
      go_ret
      exact ⟨by first | rfl | (simp [errW_none, errW_some] <;> rfl) | (simp [*, errW_none, errW_some] <;> rfl), by repeat (first | (with_reducible first | exact HB.out | apply bA | apply bN | apply bD | refine below_set ?_ GE229.out | refine below_set ?_ GE262.out) | exact HB.out)⟩

end Go.Proofs.Ytklflfdkkddfdaa.QFnExactValidLine
