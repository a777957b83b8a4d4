/- What some Go functions answer, each as a Lean function, and that the machine answers so: written by a program of this session out of the translation. -/
import Derived.Test.YtfabhfdjabehpaaQFnExactLineTextx0
import Derived.Test.YtfabhfdjabehpaaQFnExactLineTextx5
import Derived.Test.YtfabhfdjabehpaaQFnExactLineTextx6
namespace Go.Proofs.Ytfabhfdjabehpaa.QFnExactLineText
open Go.RowKit Go.Proofs.YtfabhfdjabehpaaW.PrintWords Go.Proofs.YtfabhfdjabehpaaW.PrintLast Go.Proofs.YtfabhfdjabehpaaW.PrintMore Go.Proofs.Ytfabhfdjabehpaa.Rp
attribute [local go_sem] max2_int min2_int max_two min_two max_three min_three max_four min_four   -- for this text's walks alone
set_option linter.unusedVariables false
set_option linter.unusedSimpArgs false

/-! ### impl_ValidLine: function 36 -/
mutual
def impl_ValidLine.j0 : Nat → Bool → Int → ByteArray → List ByteArray → List ByteArray → List ByteArray → List ByteArray → Int → Option (Bool)
 | 0, _, _, _, _, _, _, _, _ => none
 | k + 1, x3, x279000, x279001, x279002, x279003, x279004, x279005, x279006 => if x279000 < 1 then (impl_ValidLine.j1 k true x279000 x279001 x279002 x279003 x279004 x279005 x279006) else (if x279000 > 7 then (impl_ValidLine.j1 k true x279000 x279001 x279002 x279003 x279004 x279005 x279006) else (if x279001.toList = ([] : List UInt8) then (if x3 = true then (impl_ValidLine.j1 k true x279000 x279001 x279002 x279003 x279004 x279005 x279006) else (impl_ValidLine.j1 k false x279000 x279001 x279002 x279003 x279004 x279005 x279006)) else (if x3 = true then ((impl_IsName.f k x279001).bind fun t279 => (impl_ValidLine.j1 k (!t279) x279000 x279001 x279002 x279003 x279004 x279005 x279006)) else (impl_ValidLine.j1 k true x279000 x279001 x279002 x279003 x279004 x279005 x279006))))
def impl_ValidLine.j1 : Nat → Bool → Int → ByteArray → List ByteArray → List ByteArray → List ByteArray → List ByteArray → Int → Option (Bool)
 | 0, _, _, _, _, _, _, _, _ => none
 | k + 1, x40, x279000, x279001, x279002, x279003, x279004, x279005, x279006 => if x40 = true then (some false) else (if x279000 = 3 then (if x279000 = 5 then (impl_ValidLine.j2 k false x279000 x279001 x279002 x279003 x279004 x279005 x279006) else (if x279000 = 7 then (impl_ValidLine.j2 k false x279000 x279001 x279002 x279003 x279004 x279005 x279006) else (impl_ValidLine.j2 k (x279006 != 0) x279000 x279001 x279002 x279003 x279004 x279005 x279006))) else (if (wrap64 ((x279002.length : Int) + (x279004.length : Int))) > 0 then (impl_ValidLine.j2 k true x279000 x279001 x279002 x279003 x279004 x279005 x279006) else (if x279000 = 5 then (impl_ValidLine.j2 k false x279000 x279001 x279002 x279003 x279004 x279005 x279006) else (if x279000 = 7 then (impl_ValidLine.j2 k false x279000 x279001 x279002 x279003 x279004 x279005 x279006) else (impl_ValidLine.j2 k (x279006 != 0) x279000 x279001 x279002 x279003 x279004 x279005 x279006)))))
def impl_ValidLine.j2 : Nat → Bool → Int → ByteArray → List ByteArray → List ByteArray → List ByteArray → List ByteArray → Int → Option (Bool)
 | 0, _, _, _, _, _, _, _, _ => none
 | k + 1, x68, x279000, x279001, x279002, x279003, x279004, x279005, x279006 => if x68 = true then (some false) else (if x279000 = 3 then (impl_ValidLine.j3 k false x279000 x279001 x279002 x279003 x279004 x279005 x279006) else (if x279000 = 7 then (impl_ValidLine.j3 k false x279000 x279001 x279002 x279003 x279004 x279005 x279006) else (impl_ValidLine.j3 k (decide ((x279005.length : Int) > 0)) x279000 x279001 x279002 x279003 x279004 x279005 x279006)))
def impl_ValidLine.j3 : Nat → Bool → Int → ByteArray → List ByteArray → List ByteArray → List ByteArray → List ByteArray → Int → Option (Bool)
 | 0, _, _, _, _, _, _, _, _ => none
 | k + 1, x82, x279000, x279001, x279002, x279003, x279004, x279005, x279006 => if x82 = true then (some false) else (if x279000 = 1 then ((impl_areItems.f k x279003 1 20).bind fun t280 => (some t280)) else (if x279000 = 3 then ((impl_areItems.f k x279002 0 4).bind fun t281 => (if t281 = true then ((impl_areItems.f k x279003 1 4).bind fun t282 => (if t282 = true then ((impl_areItems.f k x279004 0 4).bind fun t283 => (if t283 = true then ((impl_areItems.f k x279005 0 4).bind fun t284 => (some t284)) else (some false))) else (some false))) else (some false))) else (if x279000 = 5 then ((impl_areItems.f k x279003 2 2).bind fun t285 => (if t285 = true then (if x279006 ≥ (-262144) then (some (decide (x279006 ≤ 262144))) else (some false)) else (some false))) else (if x279000 = 6 then ((impl_areItems.f k x279003 2 2).bind fun t286 => (some t286)) else (if x279000 = 7 then (if (x279003.length : Int) = 0 then ((impl_validJoinLine.f k x279000 x279001 x279002 x279003 x279004 x279005 x279006).bind fun t287 => (some t287)) else (some false)) else (some ((x279003.length : Int) == 0)))))))
end
def impl_ValidLine.f (k : Nat) (a0_0 : Int) (a0_1 : ByteArray) (l0_2 : List ByteArray) (l0_3 : List ByteArray) (l0_4 : List ByteArray) (l0_5 : List ByteArray) (a0_6 : Int) : Option (Bool) := if a0_0 = 3 then (impl_ValidLine.j0 k false a0_0 a0_1 l0_2 l0_3 l0_4 l0_5 a0_6) else (if a0_0 = 4 then (impl_ValidLine.j0 k false a0_0 a0_1 l0_2 l0_3 l0_4 l0_5 a0_6) else (impl_ValidLine.j0 k (a0_0 != 5) a0_0 a0_1 l0_2 l0_3 l0_4 l0_5 a0_6))
theorem impl_ValidLine.mono_l : ∀ k, (∀ y0 y1 y2 y3 y4 y5 y6 y7, LeO (impl_ValidLine.j0 k y0 y1 y2 y3 y4 y5 y6 y7) (impl_ValidLine.j0 (k + 1) y0 y1 y2 y3 y4 y5 y6 y7)) ∧ (∀ y0 y1 y2 y3 y4 y5 y6 y7, LeO (impl_ValidLine.j1 k y0 y1 y2 y3 y4 y5 y6 y7) (impl_ValidLine.j1 (k + 1) y0 y1 y2 y3 y4 y5 y6 y7)) ∧ (∀ y0 y1 y2 y3 y4 y5 y6 y7, LeO (impl_ValidLine.j2 k y0 y1 y2 y3 y4 y5 y6 y7) (impl_ValidLine.j2 (k + 1) y0 y1 y2 y3 y4 y5 y6 y7)) ∧ (∀ y0 y1 y2 y3 y4 y5 y6 y7, LeO (impl_ValidLine.j3 k y0 y1 y2 y3 y4 y5 y6 y7) (impl_ValidLine.j3 (k + 1) y0 y1 y2 y3 y4 y5 y6 y7))
 | 0 => ⟨fun _ _ _ _ _ _ _ _ r h => by simp [impl_ValidLine.j0] at h, fun _ _ _ _ _ _ _ _ r h => by simp [impl_ValidLine.j1] at h, fun _ _ _ _ _ _ _ _ r h => by simp [impl_ValidLine.j2] at h, fun _ _ _ _ _ _ _ _ r h => by simp [impl_ValidLine.j3] at h⟩
 | k + 1 => by
  obtain ⟨ih0, ih1, ih2, ih3⟩ := impl_ValidLine.mono_l k
  refine ⟨?_, ?_, ?_, ?_⟩
  ·intro y0 y1 y2 y3 y4 y5 y6 y7
   unfold impl_ValidLine.j0
   repeat' first
   | (with_reducible exact ih0 _ _ _ _ _ _ _ _)
   | (with_reducible exact ih1 _ _ _ _ _ _ _ _)
   | (with_reducible exact ih2 _ _ _ _ _ _ _ _)
   | (with_reducible exact ih3 _ _ _ _ _ _ _ _)
   | (with_reducible exact impl_IsName.mono _ _)
   | (with_reducible exact impl_areItems.mono _ _ _ _)
   | (with_reducible exact impl_validJoinLine.mono _ _ _ _ _ _ _ _)
   | (with_reducible exact LeO.refl _)
   | (with_reducible exact LeO.none _)
   | (with_reducible refine LeO.ite ?_ ?_)
   | (with_reducible refine LeO.bind ?_ (fun _ => ?_))
   | exact ih0 _ _ _ _ _ _ _ _
   | exact ih1 _ _ _ _ _ _ _ _
   | exact ih2 _ _ _ _ _ _ _ _
   | exact ih3 _ _ _ _ _ _ _ _
   | exact impl_IsName.mono _ _
   | exact impl_areItems.mono _ _ _ _
   | exact impl_validJoinLine.mono _ _ _ _ _ _ _ _
   | exact LeO.none _
   | refine LeO.ite ?_ ?_
   | refine LeO.bind ?_ (fun _ => ?_)
  ·intro y0 y1 y2 y3 y4 y5 y6 y7
   unfold impl_ValidLine.j1
   repeat' first
   | (with_reducible exact ih0 _ _ _ _ _ _ _ _)
   | (with_reducible exact ih1 _ _ _ _ _ _ _ _)
   | (with_reducible exact ih2 _ _ _ _ _ _ _ _)
   | (with_reducible exact ih3 _ _ _ _ _ _ _ _)
   | (with_reducible exact impl_IsName.mono _ _)
   | (with_reducible exact impl_areItems.mono _ _ _ _)
   | (with_reducible exact impl_validJoinLine.mono _ _ _ _ _ _ _ _)
   | (with_reducible exact LeO.refl _)
   | (with_reducible exact LeO.none _)
   | (with_reducible refine LeO.ite ?_ ?_)
   | (with_reducible refine LeO.bind ?_ (fun _ => ?_))
   | exact ih0 _ _ _ _ _ _ _ _
   | exact ih1 _ _ _ _ _ _ _ _
   | exact ih2 _ _ _ _ _ _ _ _
   | exact ih3 _ _ _ _ _ _ _ _
   | exact impl_IsName.mono _ _
   | exact impl_areItems.mono _ _ _ _
   | exact impl_validJoinLine.mono _ _ _ _ _ _ _ _
   | exact LeO.none _
   | refine LeO.ite ?_ ?_
   | refine LeO.bind ?_ (fun _ => ?_)
  ·intro y0 y1 y2 y3 y4 y5 y6 y7
   unfold impl_ValidLine.j2
   repeat' first
   | (with_reducible exact ih0 _ _ _ _ _ _ _ _)
   | (with_reducible exact ih1 _ _ _ _ _ _ _ _)
   | (with_reducible exact ih2 _ _ _ _ _ _ _ _)
   | (with_reducible exact ih3 _ _ _ _ _ _ _ _)
   | (with_reducible exact impl_IsName.mono _ _)
   | (with_reducible exact impl_areItems.mono _ _ _ _)
   | (with_reducible exact impl_validJoinLine.mono _ _ _ _ _ _ _ _)
   | (with_reducible exact LeO.refl _)
   | (with_reducible exact LeO.none _)
   | (with_reducible refine LeO.ite ?_ ?_)
   | (with_reducible refine LeO.bind ?_ (fun _ => ?_))
   | exact ih0 _ _ _ _ _ _ _ _
   | exact ih1 _ _ _ _ _ _ _ _
   | exact ih2 _ _ _ _ _ _ _ _
   | exact ih3 _ _ _ _ _ _ _ _
   | exact impl_IsName.mono _ _
   | exact impl_areItems.mono _ _ _ _
   | exact impl_validJoinLine.mono _ _ _ _ _ _ _ _
   | exact LeO.none _
   | refine LeO.ite ?_ ?_
   | refine LeO.bind ?_ (fun _ => ?_)
  ·intro y0 y1 y2 y3 y4 y5 y6 y7
   unfold impl_ValidLine.j3
   repeat' first
   | (with_reducible exact ih0 _ _ _ _ _ _ _ _)
   | (with_reducible exact ih1 _ _ _ _ _ _ _ _)
   | (with_reducible exact ih2 _ _ _ _ _ _ _ _)
   | (with_reducible exact ih3 _ _ _ _ _ _ _ _)
   | (with_reducible exact impl_IsName.mono _ _)
   | (with_reducible exact impl_areItems.mono _ _ _ _)
   | (with_reducible exact impl_validJoinLine.mono _ _ _ _ _ _ _ _)
   | (with_reducible exact LeO.refl _)
   | (with_reducible exact LeO.none _)
   | (with_reducible refine LeO.ite ?_ ?_)
   | (with_reducible refine LeO.bind ?_ (fun _ => ?_))
   | exact ih0 _ _ _ _ _ _ _ _
   | exact ih1 _ _ _ _ _ _ _ _
   | exact ih2 _ _ _ _ _ _ _ _
   | exact ih3 _ _ _ _ _ _ _ _
   | exact impl_IsName.mono _ _
   | exact impl_areItems.mono _ _ _ _
   | exact impl_validJoinLine.mono _ _ _ _ _ _ _ _
   | exact LeO.none _
   | refine LeO.ite ?_ ?_
   | refine LeO.bind ?_ (fun _ => ?_)
theorem impl_ValidLine.mono : ∀ a0 a1 a2 a3 a4 a5 a6 k, LeO (impl_ValidLine.f k a0 a1 a2 a3 a4 a5 a6) (impl_ValidLine.f (k + 1) a0 a1 a2 a3 a4 a5 a6) := by
 intro a0 a1 a2 a3 a4 a5 a6 k
 obtain ⟨ih0, ih1, ih2, ih3⟩ := impl_ValidLine.mono_l k
 unfold impl_ValidLine.f
 repeat' first
   | (with_reducible exact ih0 _ _ _ _ _ _ _ _)
   | (with_reducible exact ih1 _ _ _ _ _ _ _ _)
   | (with_reducible exact ih2 _ _ _ _ _ _ _ _)
   | (with_reducible exact ih3 _ _ _ _ _ _ _ _)
   | (with_reducible exact impl_IsName.mono _ _)
   | (with_reducible exact impl_areItems.mono _ _ _ _)
   | (with_reducible exact impl_validJoinLine.mono _ _ _ _ _ _ _ _)
   | (with_reducible exact LeO.refl _)
   | (with_reducible exact LeO.none _)
   | (with_reducible refine LeO.ite ?_ ?_)
   | (with_reducible refine LeO.bind ?_ (fun _ => ?_))
   | exact ih0 _ _ _ _ _ _ _ _
   | exact ih1 _ _ _ _ _ _ _ _
   | exact ih2 _ _ _ _ _ _ _ _
   | exact ih3 _ _ _ _ _ _ _ _
   | exact impl_IsName.mono _ _
   | exact impl_areItems.mono _ _ _ _
   | exact impl_validJoinLine.mono _ _ _ _ _ _ _ _
   | exact LeO.none _
   | refine LeO.ite ?_ ?_
   | refine LeO.bind ?_ (fun _ => ?_)
set_option maxHeartbeats 8000000 in
set_option maxRecDepth 100000 in
theorem impl_ValidLine.calls (k : Nat) (a0_0 : Int) (a0_1 : ByteArray) (A0_2 : Option Addr) (c0_2 : Nat) (l0_2 : List ByteArray) (A0_3 : Option Addr) (c0_3 : Nat) (l0_3 : List ByteArray) (A0_4 : Option Addr) (c0_4 : Nat) (l0_4 : List ByteArray) (A0_5 : Option Addr) (c0_5 : Nat) (l0_5 : List ByteArray) (a0_6 : Int) (r : Bool) (w : World) (hr0_2 : Kd.C Kd.string w A0_2 l0_2.length l0_2) (hc0_2 : l0_2.length ≤ c0_2) (hr0_3 : Kd.C Kd.string w A0_3 l0_3.length l0_3) (hc0_3 : l0_3.length ≤ c0_3) (hr0_4 : Kd.C Kd.string w A0_4 l0_4.length l0_4) (hc0_4 : l0_4.length ≤ c0_4) (hr0_5 : Kd.C Kd.string w A0_5 l0_5.length l0_5) (hc0_5 : l0_5.length ≤ c0_5) (h : impl_ValidLine.f k a0_0 a0_1 l0_2 l0_3 l0_4 l0_5 a0_6 = some r) :
  Calls Try.prog 36 #[.agg #[.int .i64 a0_0, .string a0_1, .slice A0_2 l0_2.length c0_2, .slice A0_3 l0_3.length c0_3, .slice A0_4 l0_4.length c0_4, .slice A0_5 l0_5.length c0_5, .int .i64 a0_6]] w fun e w' => e = .returned (.bool r) ∧ Below w.heap.size w w' := by
 have hu39 := Try.underlying39
 have HR0_2 := aM hr0_2
 have HC0_2 := aM hc0_2
 clear hr0_2 hc0_2
 have HR0_3 := aM hr0_3
 have HC0_3 := aM hc0_3
 clear hr0_3 hc0_3
 have HR0_4 := aM hr0_4
 have HC0_4 := aM hc0_4
 clear hr0_4 hc0_4
 have HR0_5 := aM hr0_5
 have HC0_5 := aM hc0_5
 clear hr0_5 hc0_5
 have HB := aM (Below.refl w.heap.size w)
 have H : (if a0_0 = 3 then (impl_ValidLine.j0 k false a0_0 a0_1 l0_2 l0_3 l0_4 l0_5 a0_6) else (if a0_0 = 4 then (impl_ValidLine.j0 k false a0_0 a0_1 l0_2 l0_3 l0_4 l0_5 a0_6) else (impl_ValidLine.j0 k (a0_0 != 5) a0_0 a0_1 l0_2 l0_3 l0_4 l0_5 a0_6))) = some r := h
 clear h
 have HC2 := aM H
 clear H
 go_enter Try.func36, Try.ntmps36
 go_upto_region 1 with (first | ((with_reducible refine gate_dst (N := 1) rfl ?_); (try (refine gate_guard (by rfl) ?_; dsimp only)); refine box_event ?hg (N := 1) ?hd (cs := #[.int .i64 a0_0, .string a0_1, .slice A0_2 l0_2.length c0_2, .slice A0_3 l0_3.length c0_3, .slice A0_4 l0_4.length c0_4, .slice A0_5 l0_5.length c0_5, .int .i64 a0_6]) (t := 39) ?hr ?_; (case hd => rfl); (case hg => rfl); (case hr => first | (go_simp; done) | (go_simp; rfl)); intro gb278 hg w3 hbox hb; have n0_ := aM (below_step bQ hb); have n1_ := aM (hbox); have n2_ := aM ((by rw [hg]; exact (below_size bQ) : w.heap.size ≤ gb278)); have n3_ := aM ((by rw [hg]; exact (below_size bQ) : w.heap.size ≤ gb278)); clear HB; have HB := n0_; have BK278 := n1_; have GW278 := n2_; have GE278 := n3_; clear n0_ n1_ n2_ n3_; clear hb hbox hg))
 (try simp only [Act.put, sI, sZ, sS])
 go_cut [3] (fun v3 wc => ∃ (kq : Nat) (x3_1 : Bool), v3 = .bool x3_1 ∧ Aside0 (impl_ValidLine.j0 kq x3_1 a0_0 a0_1 l0_2 l0_3 l0_4 l0_5 a0_6 = some r) ∧ Aside0 (kq ≤ k) ∧ Aside0 (wc.heap[gb278]? = some (.cells #[.int .i64 a0_0, .string a0_1, (.slice A0_2 l0_2.length c0_2), (.slice A0_3 l0_3.length c0_3), (.slice A0_4 l0_4.length c0_4), (.slice A0_5 l0_5.length c0_5), .int .i64 a0_6] 39 (0, 0))) ∧ Aside0 (Below w.heap.size w wc))
 case first =>
  have H := HC2.out
  clear HC2
  by_cases c4 : a0_0 = 3
  ·rw [if_pos c4] at H
   have c4b0 : (a0_0 == 3) = true := beq_iff_eq.mpr c4
   have c4b1 : (a0_0 != 3) = false := bne_eq_false_iff_eq.mpr c4
   clear c4
   (first | rw [c4b0] | (simp only [i64_w, i32_w]; rw [c4b0]) | rw [c4b1] | rw [c4b2] | rw [c4b3] | rw [c4b4] | skip)
   have H' := aM H
   clear H
   have hcz5_0 : w3.cell? ⟨gb278, 0, none⟩ = some (.int .i64 a0_0) := (blk_cell BK278.out 0).trans rfl
   have hcz5_1 : w3.cell? ⟨gb278, 1, none⟩ = some (.string a0_1) := (blk_cell BK278.out 1).trans rfl
   have hcz5_2 : w3.cell? ⟨gb278, 2, none⟩ = some (.slice A0_2 l0_2.length c0_2) := (blk_cell BK278.out 2).trans rfl
   have hcz5_3 : w3.cell? ⟨gb278, 3, none⟩ = some (.slice A0_3 l0_3.length c0_3) := (blk_cell BK278.out 3).trans rfl
   have hcz5_4 : w3.cell? ⟨gb278, 4, none⟩ = some (.slice A0_4 l0_4.length c0_4) := (blk_cell BK278.out 4).trans rfl
   have hcz5_5 : w3.cell? ⟨gb278, 5, none⟩ = some (.slice A0_5 l0_5.length c0_5) := (blk_cell BK278.out 5).trans rfl
   have hcz5_6 : w3.cell? ⟨gb278, 6, none⟩ = some (.int .i64 a0_6) := (blk_cell BK278.out 6).trans rfl
   have hfz5_0 := blk_frozen BK278.out 0
   have hfz5_1 := blk_frozen BK278.out 1
   have hfz5_2 := blk_frozen BK278.out 2
   have hfz5_3 := blk_frozen BK278.out 3
   have hfz5_4 := blk_frozen BK278.out 4
   have hfz5_5 := blk_frozen BK278.out 5
   have hfz5_6 := blk_frozen BK278.out 6
   go_wp2
   go_meet
   case rel => exact ⟨_, (false), rQ, H', ⟨by first | omega | exact Nat.le_refl _⟩, ⟨by (with_reducible repeat (first | refine blk_drewN ?_ _ | refine blk_drew ?_ | refine blk_alloc ?_ _)); exact BK278.out⟩, ⟨by repeat (first | (with_reducible first | exact HB.out | apply bA | apply bN | apply bD | refine below_set ?_ GE278.out) | exact HB.out)⟩⟩
  ·rw [if_neg c4] at H
   have c4b0 : (a0_0 == 3) = false := beq_eq_false_iff_ne.mpr c4
   have c4b1 : (a0_0 != 3) = true := bne_iff_ne.mpr c4
   (first | rw [c4b0] | (simp only [i64_w, i32_w]; rw [c4b0]) | rw [c4b1] | rw [c4b2] | rw [c4b3] | rw [c4b4] | skip)
   by_cases c6 : a0_0 = 4
   ·rw [if_pos c6] at H
    have c6b0 : (a0_0 == 4) = true := beq_iff_eq.mpr c6
    have c6b1 : (a0_0 != 4) = false := bne_eq_false_iff_eq.mpr c6
    clear c6
    have H' := aM H
    clear H
    have hcz7_0 : w3.cell? ⟨gb278, 0, none⟩ = some (.int .i64 a0_0) := (blk_cell BK278.out 0).trans rfl
    have hcz7_1 : w3.cell? ⟨gb278, 1, none⟩ = some (.string a0_1) := (blk_cell BK278.out 1).trans rfl
    have hcz7_2 : w3.cell? ⟨gb278, 2, none⟩ = some (.slice A0_2 l0_2.length c0_2) := (blk_cell BK278.out 2).trans rfl
    have hcz7_3 : w3.cell? ⟨gb278, 3, none⟩ = some (.slice A0_3 l0_3.length c0_3) := (blk_cell BK278.out 3).trans rfl
    have hcz7_4 : w3.cell? ⟨gb278, 4, none⟩ = some (.slice A0_4 l0_4.length c0_4) := (blk_cell BK278.out 4).trans rfl
    have hcz7_5 : w3.cell? ⟨gb278, 5, none⟩ = some (.slice A0_5 l0_5.length c0_5) := (blk_cell BK278.out 5).trans rfl
    have hcz7_6 : w3.cell? ⟨gb278, 6, none⟩ = some (.int .i64 a0_6) := (blk_cell BK278.out 6).trans rfl
    have hfz7_0 := blk_frozen BK278.out 0
    have hfz7_1 := blk_frozen BK278.out 1
    have hfz7_2 := blk_frozen BK278.out 2
    have hfz7_3 := blk_frozen BK278.out 3
    have hfz7_4 := blk_frozen BK278.out 4
    have hfz7_5 := blk_frozen BK278.out 5
    have hfz7_6 := blk_frozen BK278.out 6
    go_wp2
    go_meet
    case rel => exact ⟨_, (false), rQ, H', ⟨by first | omega | exact Nat.le_refl _⟩, ⟨by (with_reducible repeat (first | refine blk_drewN ?_ _ | refine blk_drew ?_ | refine blk_alloc ?_ _)); exact BK278.out⟩, ⟨by repeat (first | (with_reducible first | exact HB.out | apply bA | apply bN | apply bD | refine below_set ?_ GE278.out) | exact HB.out)⟩⟩
   ·rw [if_neg c6] at H
    have c6b0 : (a0_0 == 4) = false := beq_eq_false_iff_ne.mpr c6
    have c6b1 : (a0_0 != 4) = true := bne_iff_ne.mpr c6
    have H' := aM H
    clear H
    have hcz8_0 : w3.cell? ⟨gb278, 0, none⟩ = some (.int .i64 a0_0) := (blk_cell BK278.out 0).trans rfl
    have hcz8_1 : w3.cell? ⟨gb278, 1, none⟩ = some (.string a0_1) := (blk_cell BK278.out 1).trans rfl
    have hcz8_2 : w3.cell? ⟨gb278, 2, none⟩ = some (.slice A0_2 l0_2.length c0_2) := (blk_cell BK278.out 2).trans rfl
    have hcz8_3 : w3.cell? ⟨gb278, 3, none⟩ = some (.slice A0_3 l0_3.length c0_3) := (blk_cell BK278.out 3).trans rfl
    have hcz8_4 : w3.cell? ⟨gb278, 4, none⟩ = some (.slice A0_4 l0_4.length c0_4) := (blk_cell BK278.out 4).trans rfl
    have hcz8_5 : w3.cell? ⟨gb278, 5, none⟩ = some (.slice A0_5 l0_5.length c0_5) := (blk_cell BK278.out 5).trans rfl
    have hcz8_6 : w3.cell? ⟨gb278, 6, none⟩ = some (.int .i64 a0_6) := (blk_cell BK278.out 6).trans rfl
    have hfz8_0 := blk_frozen BK278.out 0
    have hfz8_1 := blk_frozen BK278.out 1
    have hfz8_2 := blk_frozen BK278.out 2
    have hfz8_3 := blk_frozen BK278.out 3
    have hfz8_4 := blk_frozen BK278.out 4
    have hfz8_5 := blk_frozen BK278.out 5
    have hfz8_6 := blk_frozen BK278.out 6
    go_wp2
    go_meet
    case rel => exact ⟨_, ((a0_0 != 5)), rQ, H', ⟨by first | omega | exact Nat.le_refl _⟩, ⟨by (with_reducible repeat (first | refine blk_drewN ?_ _ | refine blk_drew ?_ | refine blk_alloc ?_ _)); exact BK278.out⟩, ⟨by repeat (first | (with_reducible first | exact HB.out | apply bA | apply bN | apply bD | refine below_set ?_ GE278.out) | exact HB.out)⟩⟩
 case rest =>
  clear HC2
  try clear p2
  try clear c3
  try clear c4
  try clear c4b0
  try clear c4b1
  try clear c4b2
  try clear c6
  try clear c6b0
  try clear c6b1
  try clear hcz5_0
  try clear hcz5_1
  try clear hcz5_2
  try clear hcz5_3
  try clear hcz5_4
  try clear hcz5_5
  try clear hcz5_6
  try clear hcz7_0
  try clear hcz7_1
  try clear hcz7_2
  try clear hcz7_3
  try clear hcz7_4
  try clear hcz7_5
  try clear hcz7_6
  try clear hcz8_0
  try clear hcz8_1
  try clear hcz8_2
  try clear hcz8_3
  try clear hcz8_4
  try clear hcz8_5
  try clear hcz8_6
  try clear hfz5_0
  try clear hfz5_1
  try clear hfz5_2
  try clear hfz5_3
  try clear hfz5_4
  try clear hfz5_5
  try clear hfz5_6
  try clear hfz7_0
  try clear hfz7_1
  try clear hfz7_2
  try clear hfz7_3
  try clear hfz7_4
  try clear hfz7_5
  try clear hfz7_6
  try clear hfz8_0
  try clear hfz8_1
  try clear hfz8_2
  try clear hfz8_3
  try clear hfz8_4
  try clear hfz8_5
  try clear hfz8_6
  obtain ⟨kq, x3_1, rfl, HA, HJ1, BK278, HB⟩ := hcut
  cases kq with
  | zero => exact absurd HA.out (by simp [impl_ValidLine.j0])
  | succ kj1 =>
   have H := HA.out
   clear HA
   simp only [impl_ValidLine.j0] at H
   have HC9 := aM H
   clear H
   go_upto_region 2 with (fail)
   go_cut [40] (fun v40 wc => ∃ (kq : Nat) (x40_8 : Bool), v40 = .bool x40_8 ∧ Aside0 (impl_ValidLine.j1 kq x40_8 a0_0 a0_1 l0_2 l0_3 l0_4 l0_5 a0_6 = some r) ∧ Aside0 (kq ≤ kj1) ∧ Aside0 (wc.heap[gb278]? = some (.cells #[.int .i64 a0_0, .string a0_1, (.slice A0_2 l0_2.length c0_2), (.slice A0_3 l0_3.length c0_3), (.slice A0_4 l0_4.length c0_4), (.slice A0_5 l0_5.length c0_5), .int .i64 a0_6] 39 (0, 0))) ∧ Aside0 (Below w.heap.size w wc))
   case first =>
    have H := HC9.out
    clear HC9
    by_cases c10 : a0_0 < 1
    ·rw [if_pos c10] at H
     have c10b0 : decide (a0_0 < 1) = true := decide_eq_true c10
     clear c10
     (first | rw [c10b0] | (simp only [i64_w, i32_w]; rw [c10b0]) | rw [c10b1] | rw [c10b2] | rw [c10b3] | rw [c10b4] | skip)
     have H' := aM H
     clear H
     have hcz11_0 : wc.cell? ⟨gb278, 0, none⟩ = some (.int .i64 a0_0) := (blk_cell BK278.out 0).trans rfl
     have hcz11_1 : wc.cell? ⟨gb278, 1, none⟩ = some (.string a0_1) := (blk_cell BK278.out 1).trans rfl
     have hcz11_2 : wc.cell? ⟨gb278, 2, none⟩ = some (.slice A0_2 l0_2.length c0_2) := (blk_cell BK278.out 2).trans rfl
     have hcz11_3 : wc.cell? ⟨gb278, 3, none⟩ = some (.slice A0_3 l0_3.length c0_3) := (blk_cell BK278.out 3).trans rfl
     have hcz11_4 : wc.cell? ⟨gb278, 4, none⟩ = some (.slice A0_4 l0_4.length c0_4) := (blk_cell BK278.out 4).trans rfl
     have hcz11_5 : wc.cell? ⟨gb278, 5, none⟩ = some (.slice A0_5 l0_5.length c0_5) := (blk_cell BK278.out 5).trans rfl
     have hcz11_6 : wc.cell? ⟨gb278, 6, none⟩ = some (.int .i64 a0_6) := (blk_cell BK278.out 6).trans rfl
     have hfz11_0 := blk_frozen BK278.out 0
     have hfz11_1 := blk_frozen BK278.out 1
     have hfz11_2 := blk_frozen BK278.out 2
     have hfz11_3 := blk_frozen BK278.out 3
     have hfz11_4 := blk_frozen BK278.out 4
     have hfz11_5 := blk_frozen BK278.out 5
     have hfz11_6 := blk_frozen BK278.out 6
     go_wp2
     go_meet
     case rel => exact ⟨_, (true), rQ, H', ⟨by have := HJ1.out; first | omega | exact Nat.le_refl _⟩, ⟨by (with_reducible repeat (first | refine blk_drewN ?_ _ | refine blk_drew ?_ | refine blk_alloc ?_ _)); exact BK278.out⟩, ⟨by repeat (first | (with_reducible first | exact HB.out | apply bA | apply bN | apply bD | refine below_set ?_ GE278.out) | exact HB.out)⟩⟩
    ·rw [if_neg c10] at H
     have c10b0 : decide (a0_0 < 1) = false := decide_eq_false c10
     clear c10
     (first | rw [c10b0] | (simp only [i64_w, i32_w]; rw [c10b0]) | rw [c10b1] | rw [c10b2] | rw [c10b3] | rw [c10b4] | skip)
     by_cases c12 : a0_0 > 7
     ·rw [if_pos c12] at H
      have c12b0 : decide (7 < a0_0) = true := decide_eq_true c12
      clear c12
      have H' := aM H
      clear H
      have hcz13_0 : wc.cell? ⟨gb278, 0, none⟩ = some (.int .i64 a0_0) := (blk_cell BK278.out 0).trans rfl
      have hcz13_1 : wc.cell? ⟨gb278, 1, none⟩ = some (.string a0_1) := (blk_cell BK278.out 1).trans rfl
      have hcz13_2 : wc.cell? ⟨gb278, 2, none⟩ = some (.slice A0_2 l0_2.length c0_2) := (blk_cell BK278.out 2).trans rfl
      have hcz13_3 : wc.cell? ⟨gb278, 3, none⟩ = some (.slice A0_3 l0_3.length c0_3) := (blk_cell BK278.out 3).trans rfl
      have hcz13_4 : wc.cell? ⟨gb278, 4, none⟩ = some (.slice A0_4 l0_4.length c0_4) := (blk_cell BK278.out 4).trans rfl
      have hcz13_5 : wc.cell? ⟨gb278, 5, none⟩ = some (.slice A0_5 l0_5.length c0_5) := (blk_cell BK278.out 5).trans rfl
      have hcz13_6 : wc.cell? ⟨gb278, 6, none⟩ = some (.int .i64 a0_6) := (blk_cell BK278.out 6).trans rfl
      have hfz13_0 := blk_frozen BK278.out 0
      have hfz13_1 := blk_frozen BK278.out 1
      have hfz13_2 := blk_frozen BK278.out 2
      have hfz13_3 := blk_frozen BK278.out 3
      have hfz13_4 := blk_frozen BK278.out 4
      have hfz13_5 := blk_frozen BK278.out 5
      have hfz13_6 := blk_frozen BK278.out 6
      go_wp2
      go_meet
      case rel => exact ⟨_, (true), rQ, H', ⟨by have := HJ1.out; first | omega | exact Nat.le_refl _⟩, ⟨by (with_reducible repeat (first | refine blk_drewN ?_ _ | refine blk_drew ?_ | refine blk_alloc ?_ _)); exact BK278.out⟩, ⟨by repeat (first | (with_reducible first | exact HB.out | apply bA | apply bN | apply bD | refine below_set ?_ GE278.out) | exact HB.out)⟩⟩
     ·rw [if_neg c12] at H
      have c12b0 : decide (7 < a0_0) = false := decide_eq_false c12
      clear c12
      by_cases c14 : a0_1.toList = ([] : List UInt8)
      ·rw [if_pos c14] at H
       have c14b0 : (a0_1.toList == ([] : List UInt8)) = true := beq_iff_eq.mpr c14
       have c14b1 : (a0_1.toList != ([] : List UInt8)) = false := bne_eq_false_iff_eq.mpr c14
       clear c14
       by_cases c15 : x3_1 = true
       ·subst c15
        have H1 : (impl_ValidLine.j1 kj1 true a0_0 a0_1 l0_2 l0_3 l0_4 l0_5 a0_6) = some r := by rw [if_pos rfl] at H; exact H
        clear H
        have H := H1
        clear H1
        have H' := aM H
        clear H
        have hcz16_0 : wc.cell? ⟨gb278, 0, none⟩ = some (.int .i64 a0_0) := (blk_cell BK278.out 0).trans rfl
        have hcz16_1 : wc.cell? ⟨gb278, 1, none⟩ = some (.string a0_1) := (blk_cell BK278.out 1).trans rfl
        have hcz16_2 : wc.cell? ⟨gb278, 2, none⟩ = some (.slice A0_2 l0_2.length c0_2) := (blk_cell BK278.out 2).trans rfl
        have hcz16_3 : wc.cell? ⟨gb278, 3, none⟩ = some (.slice A0_3 l0_3.length c0_3) := (blk_cell BK278.out 3).trans rfl
        have hcz16_4 : wc.cell? ⟨gb278, 4, none⟩ = some (.slice A0_4 l0_4.length c0_4) := (blk_cell BK278.out 4).trans rfl
        have hcz16_5 : wc.cell? ⟨gb278, 5, none⟩ = some (.slice A0_5 l0_5.length c0_5) := (blk_cell BK278.out 5).trans rfl
        have hcz16_6 : wc.cell? ⟨gb278, 6, none⟩ = some (.int .i64 a0_6) := (blk_cell BK278.out 6).trans rfl
        have hfz16_0 := blk_frozen BK278.out 0
        have hfz16_1 := blk_frozen BK278.out 1
        have hfz16_2 := blk_frozen BK278.out 2
        have hfz16_3 := blk_frozen BK278.out 3
        have hfz16_4 := blk_frozen BK278.out 4
        have hfz16_5 := blk_frozen BK278.out 5
        have hfz16_6 := blk_frozen BK278.out 6
        go_wp2
        go_meet
        case rel => exact ⟨_, (true), rQ, H', ⟨by have := HJ1.out; first | omega | exact Nat.le_refl _⟩, ⟨by (with_reducible repeat (first | refine blk_drewN ?_ _ | refine blk_drew ?_ | refine blk_alloc ?_ _)); exact BK278.out⟩, ⟨by repeat (first | (with_reducible first | exact HB.out | apply bA | apply bN | apply bD | refine below_set ?_ GE278.out) | exact HB.out)⟩⟩
       ·replace c15 := Bool.eq_false_iff.mpr c15
        subst c15
        have H1 : (impl_ValidLine.j1 kj1 false a0_0 a0_1 l0_2 l0_3 l0_4 l0_5 a0_6) = some r := by rw [if_neg (show ¬ (false = true) by decide)] at H; exact H
        clear H
        have H := H1
        clear H1
        have H' := aM H
        clear H
        have hcz17_0 : wc.cell? ⟨gb278, 0, none⟩ = some (.int .i64 a0_0) := (blk_cell BK278.out 0).trans rfl
        have hcz17_1 : wc.cell? ⟨gb278, 1, none⟩ = some (.string a0_1) := (blk_cell BK278.out 1).trans rfl
        have hcz17_2 : wc.cell? ⟨gb278, 2, none⟩ = some (.slice A0_2 l0_2.length c0_2) := (blk_cell BK278.out 2).trans rfl
        have hcz17_3 : wc.cell? ⟨gb278, 3, none⟩ = some (.slice A0_3 l0_3.length c0_3) := (blk_cell BK278.out 3).trans rfl
        have hcz17_4 : wc.cell? ⟨gb278, 4, none⟩ = some (.slice A0_4 l0_4.length c0_4) := (blk_cell BK278.out 4).trans rfl
        have hcz17_5 : wc.cell? ⟨gb278, 5, none⟩ = some (.slice A0_5 l0_5.length c0_5) := (blk_cell BK278.out 5).trans rfl
        have hcz17_6 : wc.cell? ⟨gb278, 6, none⟩ = some (.int .i64 a0_6) := (blk_cell BK278.out 6).trans rfl
        have hfz17_0 := blk_frozen BK278.out 0
        have hfz17_1 := blk_frozen BK278.out 1
        have hfz17_2 := blk_frozen BK278.out 2
        have hfz17_3 := blk_frozen BK278.out 3
        have hfz17_4 := blk_frozen BK278.out 4
        have hfz17_5 := blk_frozen BK278.out 5
        have hfz17_6 := blk_frozen BK278.out 6
        go_wp2
        go_meet
        case rel => exact ⟨_, (false), rQ, H', ⟨by have := HJ1.out; first | omega | exact Nat.le_refl _⟩, ⟨by (with_reducible repeat (first | refine blk_drewN ?_ _ | refine blk_drew ?_ | refine blk_alloc ?_ _)); exact BK278.out⟩, ⟨by repeat (first | (with_reducible first | exact HB.out | apply bA | apply bN | apply bD | refine below_set ?_ GE278.out) | exact HB.out)⟩⟩
      ·rw [if_neg c14] at H
       have c14b0 : (a0_1.toList == ([] : List UInt8)) = false := beq_eq_false_iff_ne.mpr c14
       have c14b1 : (a0_1.toList != ([] : List UInt8)) = true := bne_iff_ne.mpr c14
       by_cases c18 : x3_1 = true
       ·subst c18
        have H1 : ((impl_IsName.f kj1 a0_1).bind fun t279 => (impl_ValidLine.j1 kj1 (!t279) a0_0 a0_1 l0_2 l0_3 l0_4 l0_5 a0_6)) = some r := by rw [if_pos rfl] at H; exact H
        clear H
        have H := H1
        clear H1
        replace H := Option.bind_eq_some_iff.mp H
        obtain ⟨t279, A190, H⟩ := H
        replace H : (impl_ValidLine.j1 kj1 (!t279) a0_0 a0_1 l0_2 l0_3 l0_4 l0_5 a0_6) = some r := H
        have A19 := aM A190
        clear A190
        have H' := aM H
        clear H
        have hcz20_0 : wc.cell? ⟨gb278, 0, none⟩ = some (.int .i64 a0_0) := (blk_cell BK278.out 0).trans rfl
        have hcz20_1 : wc.cell? ⟨gb278, 1, none⟩ = some (.string a0_1) := (blk_cell BK278.out 1).trans rfl
        have hcz20_2 : wc.cell? ⟨gb278, 2, none⟩ = some (.slice A0_2 l0_2.length c0_2) := (blk_cell BK278.out 2).trans rfl
        have hcz20_3 : wc.cell? ⟨gb278, 3, none⟩ = some (.slice A0_3 l0_3.length c0_3) := (blk_cell BK278.out 3).trans rfl
        have hcz20_4 : wc.cell? ⟨gb278, 4, none⟩ = some (.slice A0_4 l0_4.length c0_4) := (blk_cell BK278.out 4).trans rfl
        have hcz20_5 : wc.cell? ⟨gb278, 5, none⟩ = some (.slice A0_5 l0_5.length c0_5) := (blk_cell BK278.out 5).trans rfl
        have hcz20_6 : wc.cell? ⟨gb278, 6, none⟩ = some (.int .i64 a0_6) := (blk_cell BK278.out 6).trans rfl
        have hfz20_0 := blk_frozen BK278.out 0
        have hfz20_1 := blk_frozen BK278.out 1
        have hfz20_2 := blk_frozen BK278.out 2
        have hfz20_3 := blk_frozen BK278.out 3
        have hfz20_4 := blk_frozen BK278.out 4
        have hfz20_5 := blk_frozen BK278.out 5
        have hfz20_6 := blk_frozen BK278.out 6
        go_wp2_with (first | (go_at_call 59; (with_reducible refine (impl_IsName.calls kj1 a0_1 t279 _ A19.out).mono ?_); rintro e w' ⟨rfl, ⟨nd, rfl⟩⟩))
        go_meet
        case rel => exact ⟨_, (!t279), rQ, H', ⟨by have := HJ1.out; first | omega | exact Nat.le_refl _⟩, ⟨by (with_reducible repeat (first | refine blk_drewN ?_ _ | refine blk_drew ?_ | refine blk_alloc ?_ _)); exact BK278.out⟩, ⟨by repeat (first | (with_reducible first | exact HB.out | apply bA | apply bN | apply bD | refine below_set ?_ GE278.out) | exact HB.out)⟩⟩
       ·replace c18 := Bool.eq_false_iff.mpr c18
        subst c18
        have H1 : (impl_ValidLine.j1 kj1 true a0_0 a0_1 l0_2 l0_3 l0_4 l0_5 a0_6) = some r := by rw [if_neg (show ¬ (false = true) by decide)] at H; exact H
        clear H
        have H := H1
        clear H1
        have H' := aM H
        clear H
        have hcz21_0 : wc.cell? ⟨gb278, 0, none⟩ = some (.int .i64 a0_0) := (blk_cell BK278.out 0).trans rfl
        have hcz21_1 : wc.cell? ⟨gb278, 1, none⟩ = some (.string a0_1) := (blk_cell BK278.out 1).trans rfl
        have hcz21_2 : wc.cell? ⟨gb278, 2, none⟩ = some (.slice A0_2 l0_2.length c0_2) := (blk_cell BK278.out 2).trans rfl
        have hcz21_3 : wc.cell? ⟨gb278, 3, none⟩ = some (.slice A0_3 l0_3.length c0_3) := (blk_cell BK278.out 3).trans rfl
        have hcz21_4 : wc.cell? ⟨gb278, 4, none⟩ = some (.slice A0_4 l0_4.length c0_4) := (blk_cell BK278.out 4).trans rfl
        have hcz21_5 : wc.cell? ⟨gb278, 5, none⟩ = some (.slice A0_5 l0_5.length c0_5) := (blk_cell BK278.out 5).trans rfl
        have hcz21_6 : wc.cell? ⟨gb278, 6, none⟩ = some (.int .i64 a0_6) := (blk_cell BK278.out 6).trans rfl
        have hfz21_0 := blk_frozen BK278.out 0
        have hfz21_1 := blk_frozen BK278.out 1
        have hfz21_2 := blk_frozen BK278.out 2
        have hfz21_3 := blk_frozen BK278.out 3
        have hfz21_4 := blk_frozen BK278.out 4
        have hfz21_5 := blk_frozen BK278.out 5
        have hfz21_6 := blk_frozen BK278.out 6
        go_wp2
        go_meet
        case rel => exact ⟨_, (true), rQ, H', ⟨by have := HJ1.out; first | omega | exact Nat.le_refl _⟩, ⟨by (with_reducible repeat (first | refine blk_drewN ?_ _ | refine blk_drew ?_ | refine blk_alloc ?_ _)); exact BK278.out⟩, ⟨by repeat (first | (with_reducible first | exact HB.out | apply bA | apply bN | apply bD | refine below_set ?_ GE278.out) | exact HB.out)⟩⟩
   case rest =>
    clear HC9
    try clear c1
    try clear p2
    try clear c3
    try clear c4
    try clear c4b0
    try clear c4b1
    try clear c4b2
    try clear c6
    try clear c6b0
    try clear c6b1
    try clear c10
    try clear c10b0
    try clear c10b1
    try clear c10b2
    try clear c12
    try clear c12b0
    try clear c14
    try clear c14b0
    try clear c14b1
    try clear c15
    try clear c18
    try clear hcz11_0
    try clear hcz11_1
    try clear hcz11_2
    try clear hcz11_3
    try clear hcz11_4
    try clear hcz11_5
    try clear hcz11_6
    try clear hcz13_0
    try clear hcz13_1
    try clear hcz13_2
    try clear hcz13_3
    try clear hcz13_4
    try clear hcz13_5
    try clear hcz13_6
    try clear hcz16_0
    try clear hcz16_1
    try clear hcz16_2
    try clear hcz16_3
    try clear hcz16_4
    try clear hcz16_5
    try clear hcz16_6
    try clear hcz17_0
    try clear hcz17_1
    try clear hcz17_2
    try clear hcz17_3
    try clear hcz17_4
    try clear hcz17_5
    try clear hcz17_6
    try clear hcz20_0
    try clear hcz20_1
    try clear hcz20_2
    try clear hcz20_3
    try clear hcz20_4
    try clear hcz20_5
    try clear hcz20_6
    try clear hcz21_0
    try clear hcz21_1
    try clear hcz21_2
    try clear hcz21_3
    try clear hcz21_4
    try clear hcz21_5
    try clear hcz21_6
    try clear hcz5_0
    try clear hcz5_1
    try clear hcz5_2
    try clear hcz5_3
    try clear hcz5_4
    try clear hcz5_5
    try clear hcz5_6
    try clear hcz7_0
    try clear hcz7_1
    try clear hcz7_2
    try clear hcz7_3
    try clear hcz7_4
    try clear hcz7_5
    try clear hcz7_6
    try clear hcz8_0
    try clear hcz8_1
    try clear hcz8_2
    try clear hcz8_3
    try clear hcz8_4
    try clear hcz8_5
    try clear hcz8_6
    try clear hfz11_0
    try clear hfz11_1
    try clear hfz11_2
    try clear hfz11_3
    try clear hfz11_4
    try clear hfz11_5
    try clear hfz11_6
    try clear hfz13_0
    try clear hfz13_1
    try clear hfz13_2
    try clear hfz13_3
    try clear hfz13_4
    try clear hfz13_5
    try clear hfz13_6
    try clear hfz16_0
    try clear hfz16_1
    try clear hfz16_2
    try clear hfz16_3
    try clear hfz16_4
    try clear hfz16_5
    try clear hfz16_6
    try clear hfz17_0
    try clear hfz17_1
    try clear hfz17_2
    try clear hfz17_3
    try clear hfz17_4
    try clear hfz17_5
    try clear hfz17_6
    try clear hfz20_0
    try clear hfz20_1
    try clear hfz20_2
    try clear hfz20_3
    try clear hfz20_4
    try clear hfz20_5
    try clear hfz20_6
    try clear hfz21_0
    try clear hfz21_1
    try clear hfz21_2
    try clear hfz21_3
    try clear hfz21_4
    try clear hfz21_5
    try clear hfz21_6
    try clear hfz5_0
    try clear hfz5_1
    try clear hfz5_2
    try clear hfz5_3
    try clear hfz5_4
    try clear hfz5_5
    try clear hfz5_6
    try clear hfz7_0
    try clear hfz7_1
    try clear hfz7_2
    try clear hfz7_3
    try clear hfz7_4
    try clear hfz7_5
    try clear hfz7_6
    try clear hfz8_0
    try clear hfz8_1
    try clear hfz8_2
    try clear hfz8_3
    try clear hfz8_4
    try clear hfz8_5
    try clear hfz8_6
    try clear p2
    obtain ⟨kq, x40_8, rfl, HA, HJ8, BK278, HB⟩ := hcut
    cases kq with
    | zero => exact absurd HA.out (by simp [impl_ValidLine.j1])
    | succ kj8 =>
     have H := HA.out
     clear HA
     simp only [impl_ValidLine.j1] at H
     by_cases c22 : x40_8 = true
     ·subst c22
      have H1 : (some false) = some r := by rw [if_pos rfl] at H; exact H
      clear H
      have H := H1
      clear H1
      obtain rfl := Option.some.inj H
      go_wp2
      go_ret
      exact ⟨eQ, by repeat (first | (with_reducible first | exact HB.out | apply bA | apply bN | apply bD | refine below_set ?_ GE278.out) | exact HB.out)⟩
     ·replace c22 := Bool.eq_false_iff.mpr c22
      subst c22
      have H1 : (if a0_0 = 3 then (if a0_0 = 5 then (impl_ValidLine.j2 kj8 false a0_0 a0_1 l0_2 l0_3 l0_4 l0_5 a0_6) else (if a0_0 = 7 then (impl_ValidLine.j2 kj8 false a0_0 a0_1 l0_2 l0_3 l0_4 l0_5 a0_6) else (impl_ValidLine.j2 kj8 (a0_6 != 0) a0_0 a0_1 l0_2 l0_3 l0_4 l0_5 a0_6))) else (if (wrap64 ((l0_2.length : Int) + (l0_4.length : Int))) > 0 then (impl_ValidLine.j2 kj8 true a0_0 a0_1 l0_2 l0_3 l0_4 l0_5 a0_6) else (if a0_0 = 5 then (impl_ValidLine.j2 kj8 false a0_0 a0_1 l0_2 l0_3 l0_4 l0_5 a0_6) else (if a0_0 = 7 then (impl_ValidLine.j2 kj8 false a0_0 a0_1 l0_2 l0_3 l0_4 l0_5 a0_6) else (impl_ValidLine.j2 kj8 (a0_6 != 0) a0_0 a0_1 l0_2 l0_3 l0_4 l0_5 a0_6))))) = some r := by rw [if_neg (show ¬ (false = true) by decide)] at H; exact H
      clear H
      have H := H1
      clear H1
      have HC23 := aM H
      clear H
      go_upto_region 4 with (fail)
      go_cut [68] (fun v68 wc => ∃ (kq : Nat) (x68_22 : Bool), v68 = .bool x68_22 ∧ Aside0 (impl_ValidLine.j2 kq x68_22 a0_0 a0_1 l0_2 l0_3 l0_4 l0_5 a0_6 = some r) ∧ Aside0 (kq ≤ kj8) ∧ Aside0 (wc.heap[gb278]? = some (.cells #[.int .i64 a0_0, .string a0_1, (.slice A0_2 l0_2.length c0_2), (.slice A0_3 l0_3.length c0_3), (.slice A0_4 l0_4.length c0_4), (.slice A0_5 l0_5.length c0_5), .int .i64 a0_6] 39 (0, 0))) ∧ Aside0 (Below w.heap.size w wc))
      case first =>
       have H := HC23.out
       clear HC23
       by_cases c24 : a0_0 = 3
       ·rw [if_pos c24] at H
        have c24b0 : (a0_0 == 3) = true := beq_iff_eq.mpr c24
        have c24b1 : (a0_0 != 3) = false := bne_eq_false_iff_eq.mpr c24
        clear c24
        (first | rw [c24b0] | (simp only [i64_w, i32_w]; rw [c24b0]) | rw [c24b1] | rw [c24b2] | rw [c24b3] | rw [c24b4] | skip)
        by_cases c25 : a0_0 = 5
        ·rw [if_pos c25] at H
         have c25b0 : (a0_0 == 5) = true := beq_iff_eq.mpr c25
         have c25b1 : (a0_0 != 5) = false := bne_eq_false_iff_eq.mpr c25
         clear c25
         have H' := aM H
         clear H
         have hcz26_0 : wc.cell? ⟨gb278, 0, none⟩ = some (.int .i64 a0_0) := (blk_cell BK278.out 0).trans rfl
         have hcz26_1 : wc.cell? ⟨gb278, 1, none⟩ = some (.string a0_1) := (blk_cell BK278.out 1).trans rfl
         have hcz26_2 : wc.cell? ⟨gb278, 2, none⟩ = some (.slice A0_2 l0_2.length c0_2) := (blk_cell BK278.out 2).trans rfl
         have hcz26_3 : wc.cell? ⟨gb278, 3, none⟩ = some (.slice A0_3 l0_3.length c0_3) := (blk_cell BK278.out 3).trans rfl
         have hcz26_4 : wc.cell? ⟨gb278, 4, none⟩ = some (.slice A0_4 l0_4.length c0_4) := (blk_cell BK278.out 4).trans rfl
         have hcz26_5 : wc.cell? ⟨gb278, 5, none⟩ = some (.slice A0_5 l0_5.length c0_5) := (blk_cell BK278.out 5).trans rfl
         have hcz26_6 : wc.cell? ⟨gb278, 6, none⟩ = some (.int .i64 a0_6) := (blk_cell BK278.out 6).trans rfl
         have hfz26_0 := blk_frozen BK278.out 0
         have hfz26_1 := blk_frozen BK278.out 1
         have hfz26_2 := blk_frozen BK278.out 2
         have hfz26_3 := blk_frozen BK278.out 3
         have hfz26_4 := blk_frozen BK278.out 4
         have hfz26_5 := blk_frozen BK278.out 5
         have hfz26_6 := blk_frozen BK278.out 6
         go_wp2
         go_meet
         case rel => exact ⟨_, (false), rQ, H', ⟨by have := HJ1.out; have := HJ8.out; first | omega | exact Nat.le_refl _⟩, ⟨by (with_reducible repeat (first | refine blk_drewN ?_ _ | refine blk_drew ?_ | refine blk_alloc ?_ _)); exact BK278.out⟩, ⟨by repeat (first | (with_reducible first | exact HB.out | apply bA | apply bN | apply bD | refine below_set ?_ GE278.out) | exact HB.out)⟩⟩
        ·rw [if_neg c25] at H
         have c25b0 : (a0_0 == 5) = false := beq_eq_false_iff_ne.mpr c25
         have c25b1 : (a0_0 != 5) = true := bne_iff_ne.mpr c25
         by_cases c27 : a0_0 = 7
         ·rw [if_pos c27] at H
          have c27b0 : (a0_0 == 7) = true := beq_iff_eq.mpr c27
          have c27b1 : (a0_0 != 7) = false := bne_eq_false_iff_eq.mpr c27
          clear c27
          have H' := aM H
          clear H
          have hcz28_0 : wc.cell? ⟨gb278, 0, none⟩ = some (.int .i64 a0_0) := (blk_cell BK278.out 0).trans rfl
          have hcz28_1 : wc.cell? ⟨gb278, 1, none⟩ = some (.string a0_1) := (blk_cell BK278.out 1).trans rfl
          have hcz28_2 : wc.cell? ⟨gb278, 2, none⟩ = some (.slice A0_2 l0_2.length c0_2) := (blk_cell BK278.out 2).trans rfl
          have hcz28_3 : wc.cell? ⟨gb278, 3, none⟩ = some (.slice A0_3 l0_3.length c0_3) := (blk_cell BK278.out 3).trans rfl
          have hcz28_4 : wc.cell? ⟨gb278, 4, none⟩ = some (.slice A0_4 l0_4.length c0_4) := (blk_cell BK278.out 4).trans rfl
          have hcz28_5 : wc.cell? ⟨gb278, 5, none⟩ = some (.slice A0_5 l0_5.length c0_5) := (blk_cell BK278.out 5).trans rfl
          have hcz28_6 : wc.cell? ⟨gb278, 6, none⟩ = some (.int .i64 a0_6) := (blk_cell BK278.out 6).trans rfl
          have hfz28_0 := blk_frozen BK278.out 0
          have hfz28_1 := blk_frozen BK278.out 1
          have hfz28_2 := blk_frozen BK278.out 2
          have hfz28_3 := blk_frozen BK278.out 3
          have hfz28_4 := blk_frozen BK278.out 4
          have hfz28_5 := blk_frozen BK278.out 5
          have hfz28_6 := blk_frozen BK278.out 6
          go_wp2
          go_meet
          case rel => exact ⟨_, (false), rQ, H', ⟨by have := HJ1.out; have := HJ8.out; first | omega | exact Nat.le_refl _⟩, ⟨by (with_reducible repeat (first | refine blk_drewN ?_ _ | refine blk_drew ?_ | refine blk_alloc ?_ _)); exact BK278.out⟩, ⟨by repeat (first | (with_reducible first | exact HB.out | apply bA | apply bN | apply bD | refine below_set ?_ GE278.out) | exact HB.out)⟩⟩
         ·rw [if_neg c27] at H
          have c27b0 : (a0_0 == 7) = false := beq_eq_false_iff_ne.mpr c27
          have c27b1 : (a0_0 != 7) = true := bne_iff_ne.mpr c27
          have H' := aM H
          clear H
          have hcz29_0 : wc.cell? ⟨gb278, 0, none⟩ = some (.int .i64 a0_0) := (blk_cell BK278.out 0).trans rfl
          have hcz29_1 : wc.cell? ⟨gb278, 1, none⟩ = some (.string a0_1) := (blk_cell BK278.out 1).trans rfl
          have hcz29_2 : wc.cell? ⟨gb278, 2, none⟩ = some (.slice A0_2 l0_2.length c0_2) := (blk_cell BK278.out 2).trans rfl
          have hcz29_3 : wc.cell? ⟨gb278, 3, none⟩ = some (.slice A0_3 l0_3.length c0_3) := (blk_cell BK278.out 3).trans rfl
          have hcz29_4 : wc.cell? ⟨gb278, 4, none⟩ = some (.slice A0_4 l0_4.length c0_4) := (blk_cell BK278.out 4).trans rfl
          have hcz29_5 : wc.cell? ⟨gb278, 5, none⟩ = some (.slice A0_5 l0_5.length c0_5) := (blk_cell BK278.out 5).trans rfl
          have hcz29_6 : wc.cell? ⟨gb278, 6, none⟩ = some (.int .i64 a0_6) := (blk_cell BK278.out 6).trans rfl
          have hfz29_0 := blk_frozen BK278.out 0
          have hfz29_1 := blk_frozen BK278.out 1
          have hfz29_2 := blk_frozen BK278.out 2
          have hfz29_3 := blk_frozen BK278.out 3
          have hfz29_4 := blk_frozen BK278.out 4
          have hfz29_5 := blk_frozen BK278.out 5
          have hfz29_6 := blk_frozen BK278.out 6
          go_wp2
          go_meet
          case rel => exact ⟨_, ((a0_6 != 0)), rQ, H', ⟨by have := HJ1.out; have := HJ8.out; first | omega | exact Nat.le_refl _⟩, ⟨by (with_reducible repeat (first | refine blk_drewN ?_ _ | refine blk_drew ?_ | refine blk_alloc ?_ _)); exact BK278.out⟩, ⟨by repeat (first | (with_reducible first | exact HB.out | apply bA | apply bN | apply bD | refine below_set ?_ GE278.out) | exact HB.out)⟩⟩
       ·rw [if_neg c24] at H
        have c24b0 : (a0_0 == 3) = false := beq_eq_false_iff_ne.mpr c24
        have c24b1 : (a0_0 != 3) = true := bne_iff_ne.mpr c24
        (first | rw [c24b0] | (simp only [i64_w, i32_w]; rw [c24b0]) | rw [c24b1] | rw [c24b2] | rw [c24b3] | rw [c24b4] | skip)
        by_cases c30 : (wrap64 ((l0_2.length : Int) + (l0_4.length : Int))) > 0
        ·rw [if_pos c30] at H
         have c30b0 : decide (0 < (wrap64 ((l0_2.length : Int) + (l0_4.length : Int)))) = true := decide_eq_true c30
         clear c30
         have H' := aM H
         clear H
         have hcz31_0 : wc.cell? ⟨gb278, 0, none⟩ = some (.int .i64 a0_0) := (blk_cell BK278.out 0).trans rfl
         have hcz31_1 : wc.cell? ⟨gb278, 1, none⟩ = some (.string a0_1) := (blk_cell BK278.out 1).trans rfl
         have hcz31_2 : wc.cell? ⟨gb278, 2, none⟩ = some (.slice A0_2 l0_2.length c0_2) := (blk_cell BK278.out 2).trans rfl
         have hcz31_3 : wc.cell? ⟨gb278, 3, none⟩ = some (.slice A0_3 l0_3.length c0_3) := (blk_cell BK278.out 3).trans rfl
         have hcz31_4 : wc.cell? ⟨gb278, 4, none⟩ = some (.slice A0_4 l0_4.length c0_4) := (blk_cell BK278.out 4).trans rfl
         have hcz31_5 : wc.cell? ⟨gb278, 5, none⟩ = some (.slice A0_5 l0_5.length c0_5) := (blk_cell BK278.out 5).trans rfl
         have hcz31_6 : wc.cell? ⟨gb278, 6, none⟩ = some (.int .i64 a0_6) := (blk_cell BK278.out 6).trans rfl
         have hfz31_0 := blk_frozen BK278.out 0
         have hfz31_1 := blk_frozen BK278.out 1
         have hfz31_2 := blk_frozen BK278.out 2
         have hfz31_3 := blk_frozen BK278.out 3
         have hfz31_4 := blk_frozen BK278.out 4
         have hfz31_5 := blk_frozen BK278.out 5
         have hfz31_6 := blk_frozen BK278.out 6
         go_wp2
         go_meet
         case rel => exact ⟨_, (true), rQ, H', ⟨by have := HJ1.out; have := HJ8.out; first | omega | exact Nat.le_refl _⟩, ⟨by (with_reducible repeat (first | refine blk_drewN ?_ _ | refine blk_drew ?_ | refine blk_alloc ?_ _)); exact BK278.out⟩, ⟨by repeat (first | (with_reducible first | exact HB.out | apply bA | apply bN | apply bD | refine below_set ?_ GE278.out) | exact HB.out)⟩⟩
        ·rw [if_neg c30] at H
         have c30b0 : decide (0 < (wrap64 ((l0_2.length : Int) + (l0_4.length : Int)))) = false := decide_eq_false c30
         clear c30
         by_cases c32 : a0_0 = 5
         ·rw [if_pos c32] at H
          have c32b0 : (a0_0 == 5) = true := beq_iff_eq.mpr c32
          have c32b1 : (a0_0 != 5) = false := bne_eq_false_iff_eq.mpr c32
          clear c32
          have H' := aM H
          clear H
          have hcz33_0 : wc.cell? ⟨gb278, 0, none⟩ = some (.int .i64 a0_0) := (blk_cell BK278.out 0).trans rfl
          have hcz33_1 : wc.cell? ⟨gb278, 1, none⟩ = some (.string a0_1) := (blk_cell BK278.out 1).trans rfl
          have hcz33_2 : wc.cell? ⟨gb278, 2, none⟩ = some (.slice A0_2 l0_2.length c0_2) := (blk_cell BK278.out 2).trans rfl
          have hcz33_3 : wc.cell? ⟨gb278, 3, none⟩ = some (.slice A0_3 l0_3.length c0_3) := (blk_cell BK278.out 3).trans rfl
          have hcz33_4 : wc.cell? ⟨gb278, 4, none⟩ = some (.slice A0_4 l0_4.length c0_4) := (blk_cell BK278.out 4).trans rfl
          have hcz33_5 : wc.cell? ⟨gb278, 5, none⟩ = some (.slice A0_5 l0_5.length c0_5) := (blk_cell BK278.out 5).trans rfl
          have hcz33_6 : wc.cell? ⟨gb278, 6, none⟩ = some (.int .i64 a0_6) := (blk_cell BK278.out 6).trans rfl
          have hfz33_0 := blk_frozen BK278.out 0
          have hfz33_1 := blk_frozen BK278.out 1
          have hfz33_2 := blk_frozen BK278.out 2
          have hfz33_3 := blk_frozen BK278.out 3
          have hfz33_4 := blk_frozen BK278.out 4
          have hfz33_5 := blk_frozen BK278.out 5
          have hfz33_6 := blk_frozen BK278.out 6
          go_wp2
          go_meet
          case rel => exact ⟨_, (false), rQ, H', ⟨by have := HJ1.out; have := HJ8.out; first | omega | exact Nat.le_refl _⟩, ⟨by (with_reducible repeat (first | refine blk_drewN ?_ _ | refine blk_drew ?_ | refine blk_alloc ?_ _)); exact BK278.out⟩, ⟨by repeat (first | (with_reducible first | exact HB.out | apply bA | apply bN | apply bD | refine below_set ?_ GE278.out) | exact HB.out)⟩⟩
         ·rw [if_neg c32] at H
          have c32b0 : (a0_0 == 5) = false := beq_eq_false_iff_ne.mpr c32
          have c32b1 : (a0_0 != 5) = true := bne_iff_ne.mpr c32
          by_cases c34 : a0_0 = 7
          ·rw [if_pos c34] at H
           have c34b0 : (a0_0 == 7) = true := beq_iff_eq.mpr c34
           have c34b1 : (a0_0 != 7) = false := bne_eq_false_iff_eq.mpr c34
           clear c34
           have H' := aM H
           clear H
           have hcz35_0 : wc.cell? ⟨gb278, 0, none⟩ = some (.int .i64 a0_0) := (blk_cell BK278.out 0).trans rfl
           have hcz35_1 : wc.cell? ⟨gb278, 1, none⟩ = some (.string a0_1) := (blk_cell BK278.out 1).trans rfl
           have hcz35_2 : wc.cell? ⟨gb278, 2, none⟩ = some (.slice A0_2 l0_2.length c0_2) := (blk_cell BK278.out 2).trans rfl
           have hcz35_3 : wc.cell? ⟨gb278, 3, none⟩ = some (.slice A0_3 l0_3.length c0_3) := (blk_cell BK278.out 3).trans rfl
           have hcz35_4 : wc.cell? ⟨gb278, 4, none⟩ = some (.slice A0_4 l0_4.length c0_4) := (blk_cell BK278.out 4).trans rfl
           have hcz35_5 : wc.cell? ⟨gb278, 5, none⟩ = some (.slice A0_5 l0_5.length c0_5) := (blk_cell BK278.out 5).trans rfl
           have hcz35_6 : wc.cell? ⟨gb278, 6, none⟩ = some (.int .i64 a0_6) := (blk_cell BK278.out 6).trans rfl
           have hfz35_0 := blk_frozen BK278.out 0
           have hfz35_1 := blk_frozen BK278.out 1
           have hfz35_2 := blk_frozen BK278.out 2
           have hfz35_3 := blk_frozen BK278.out 3
           have hfz35_4 := blk_frozen BK278.out 4
           have hfz35_5 := blk_frozen BK278.out 5
           have hfz35_6 := blk_frozen BK278.out 6
           go_wp2
           go_meet
           case rel => exact ⟨_, (false), rQ, H', ⟨by have := HJ1.out; have := HJ8.out; first | omega | exact Nat.le_refl _⟩, ⟨by (with_reducible repeat (first | refine blk_drewN ?_ _ | refine blk_drew ?_ | refine blk_alloc ?_ _)); exact BK278.out⟩, ⟨by repeat (first | (with_reducible first | exact HB.out | apply bA | apply bN | apply bD | refine below_set ?_ GE278.out) | exact HB.out)⟩⟩
          ·rw [if_neg c34] at H
           have c34b0 : (a0_0 == 7) = false := beq_eq_false_iff_ne.mpr c34
           have c34b1 : (a0_0 != 7) = true := bne_iff_ne.mpr c34
           have H' := aM H
           clear H
           have hcz36_0 : wc.cell? ⟨gb278, 0, none⟩ = some (.int .i64 a0_0) := (blk_cell BK278.out 0).trans rfl
           have hcz36_1 : wc.cell? ⟨gb278, 1, none⟩ = some (.string a0_1) := (blk_cell BK278.out 1).trans rfl
           have hcz36_2 : wc.cell? ⟨gb278, 2, none⟩ = some (.slice A0_2 l0_2.length c0_2) := (blk_cell BK278.out 2).trans rfl
           have hcz36_3 : wc.cell? ⟨gb278, 3, none⟩ = some (.slice A0_3 l0_3.length c0_3) := (blk_cell BK278.out 3).trans rfl
           have hcz36_4 : wc.cell? ⟨gb278, 4, none⟩ = some (.slice A0_4 l0_4.length c0_4) := (blk_cell BK278.out 4).trans rfl
           have hcz36_5 : wc.cell? ⟨gb278, 5, none⟩ = some (.slice A0_5 l0_5.length c0_5) := (blk_cell BK278.out 5).trans rfl
           have hcz36_6 : wc.cell? ⟨gb278, 6, none⟩ = some (.int .i64 a0_6) := (blk_cell BK278.out 6).trans rfl
           have hfz36_0 := blk_frozen BK278.out 0
           have hfz36_1 := blk_frozen BK278.out 1
           have hfz36_2 := blk_frozen BK278.out 2
           have hfz36_3 := blk_frozen BK278.out 3
           have hfz36_4 := blk_frozen BK278.out 4
           have hfz36_5 := blk_frozen BK278.out 5
           have hfz36_6 := blk_frozen BK278.out 6
           go_wp2
           go_meet
           case rel => exact ⟨_, ((a0_6 != 0)), rQ, H', ⟨by have := HJ1.out; have := HJ8.out; first | omega | exact Nat.le_refl _⟩, ⟨by (with_reducible repeat (first | refine blk_drewN ?_ _ | refine blk_drew ?_ | refine blk_alloc ?_ _)); exact BK278.out⟩, ⟨by repeat (first | (with_reducible first | exact HB.out | apply bA | apply bN | apply bD | refine below_set ?_ GE278.out) | exact HB.out)⟩⟩
      case rest =>
       clear HC23
       try clear c1
       try clear c2
       try clear p2
       try clear c3
       try clear c4
       try clear c4b0
       try clear c4b1
       try clear c4b2
       try clear c6
       try clear c6b0
       try clear c6b1
       try clear p6
       try clear c10
       try clear c10b0
       try clear c10b1
       try clear c10b2
       try clear c12
       try clear c12b0
       try clear c14
       try clear c14b0
       try clear c14b1
       try clear c15
       try clear c18
       try clear c22
       try clear c24
       try clear c24b0
       try clear c24b1
       try clear c24b2
       try clear c25
       try clear c25b0
       try clear c25b1
       try clear c27
       try clear c27b0
       try clear c27b1
       try clear c30
       try clear c30b0
       try clear c32
       try clear c32b0
       try clear c32b1
       try clear c34
       try clear c34b0
       try clear c34b1
       try clear hcz11_0
       try clear hcz11_1
       try clear hcz11_2
       try clear hcz11_3
       try clear hcz11_4
       try clear hcz11_5
       try clear hcz11_6
       try clear hcz13_0
       try clear hcz13_1
       try clear hcz13_2
       try clear hcz13_3
       try clear hcz13_4
       try clear hcz13_5
       try clear hcz13_6
       try clear hcz16_0
       try clear hcz16_1
       try clear hcz16_2
       try clear hcz16_3
       try clear hcz16_4
       try clear hcz16_5
       try clear hcz16_6
       try clear hcz17_0
       try clear hcz17_1
       try clear hcz17_2
       try clear hcz17_3
       try clear hcz17_4
       try clear hcz17_5
       try clear hcz17_6
       try clear hcz20_0
       try clear hcz20_1
       try clear hcz20_2
       try clear hcz20_3
       try clear hcz20_4
       try clear hcz20_5
       try clear hcz20_6
       try clear hcz21_0
       try clear hcz21_1
       try clear hcz21_2
       try clear hcz21_3
       try clear hcz21_4
       try clear hcz21_5
       try clear hcz21_6
       try clear hcz26_0
       try clear hcz26_1
       try clear hcz26_2
       try clear hcz26_3
       try clear hcz26_4
       try clear hcz26_5
       try clear hcz26_6
       try clear hcz28_0
       try clear hcz28_1
       try clear hcz28_2
       try clear hcz28_3
       try clear hcz28_4
       try clear hcz28_5
       try clear hcz28_6
       try clear hcz29_0
       try clear hcz29_1
       try clear hcz29_2
       try clear hcz29_3
       try clear hcz29_4
       try clear hcz29_5
       try clear hcz29_6
       try clear hcz31_0
       try clear hcz31_1
       try clear hcz31_2
       try clear hcz31_3
       try clear hcz31_4
       try clear hcz31_5
       try clear hcz31_6
       try clear hcz33_0
       try clear hcz33_1
       try clear hcz33_2
       try clear hcz33_3
       try clear hcz33_4
       try clear hcz33_5
       try clear hcz33_6
       try clear hcz35_0
       try clear hcz35_1
       try clear hcz35_2
       try clear hcz35_3
       try clear hcz35_4
       try clear hcz35_5
       try clear hcz35_6
       try clear hcz36_0
       try clear hcz36_1
       try clear hcz36_2
       try clear hcz36_3
       try clear hcz36_4
       try clear hcz36_5
       try clear hcz36_6
       try clear hcz5_0
       try clear hcz5_1
       try clear hcz5_2
       try clear hcz5_3
       try clear hcz5_4
       try clear hcz5_5
       try clear hcz5_6
       try clear hcz7_0
       try clear hcz7_1
       try clear hcz7_2
       try clear hcz7_3
       try clear hcz7_4
       try clear hcz7_5
       try clear hcz7_6
       try clear hcz8_0
       try clear hcz8_1
       try clear hcz8_2
       try clear hcz8_3
       try clear hcz8_4
       try clear hcz8_5
       try clear hcz8_6
       try clear hfz11_0
       try clear hfz11_1
       try clear hfz11_2
       try clear hfz11_3
       try clear hfz11_4
       try clear hfz11_5
       try clear hfz11_6
       try clear hfz13_0
       try clear hfz13_1
       try clear hfz13_2
       try clear hfz13_3
       try clear hfz13_4
       try clear hfz13_5
       try clear hfz13_6
       try clear hfz16_0
       try clear hfz16_1
       try clear hfz16_2
       try clear hfz16_3
       try clear hfz16_4
       try clear hfz16_5
       try clear hfz16_6
       try clear hfz17_0
       try clear hfz17_1
       try clear hfz17_2
       try clear hfz17_3
       try clear hfz17_4
       try clear hfz17_5
       try clear hfz17_6
       try clear hfz20_0
       try clear hfz20_1
       try clear hfz20_2
       try clear hfz20_3
       try clear hfz20_4
       try clear hfz20_5
       try clear hfz20_6
       try clear hfz21_0
       try clear hfz21_1
       try clear hfz21_2
       try clear hfz21_3
       try clear hfz21_4
       try clear hfz21_5
       try clear hfz21_6
       try clear hfz26_0
       try clear hfz26_1
       try clear hfz26_2
       try clear hfz26_3
       try clear hfz26_4
       try clear hfz26_5
       try clear hfz26_6
       try clear hfz28_0
       try clear hfz28_1
       try clear hfz28_2
       try clear hfz28_3
       try clear hfz28_4
       try clear hfz28_5
       try clear hfz28_6
       try clear hfz29_0
       try clear hfz29_1
       try clear hfz29_2
       try clear hfz29_3
       try clear hfz29_4
       try clear hfz29_5
       try clear hfz29_6
       try clear hfz31_0
       try clear hfz31_1
       try clear hfz31_2
       try clear hfz31_3
       try clear hfz31_4
       try clear hfz31_5
       try clear hfz31_6
       try clear hfz33_0
       try clear hfz33_1
       try clear hfz33_2
       try clear hfz33_3
       try clear hfz33_4
       try clear hfz33_5
       try clear hfz33_6
       try clear hfz35_0
       try clear hfz35_1
       try clear hfz35_2
       try clear hfz35_3
       try clear hfz35_4
       try clear hfz35_5
       try clear hfz35_6
       try clear hfz36_0
       try clear hfz36_1
       try clear hfz36_2
       try clear hfz36_3
       try clear hfz36_4
       try clear hfz36_5
       try clear hfz36_6
       try clear hfz5_0
       try clear hfz5_1
       try clear hfz5_2
       try clear hfz5_3
       try clear hfz5_4
       try clear hfz5_5
       try clear hfz5_6
       try clear hfz7_0
       try clear hfz7_1
       try clear hfz7_2
       try clear hfz7_3
       try clear hfz7_4
       try clear hfz7_5
       try clear hfz7_6
       try clear hfz8_0
       try clear hfz8_1
       try clear hfz8_2
       try clear hfz8_3
       try clear hfz8_4
       try clear hfz8_5
       try clear hfz8_6
       try clear p2
       obtain ⟨kq, x68_22, rfl, HA, HJ22, BK278, HB⟩ := hcut
       cases kq with
       | zero => exact absurd HA.out (by simp [impl_ValidLine.j2])
       | succ kj22 =>
        have H := HA.out
        clear HA
        simp only [impl_ValidLine.j2] at H
        by_cases c37 : x68_22 = true
        ·subst c37
         have H1 : (some false) = some r := by rw [if_pos rfl] at H; exact H
         clear H
         have H := H1
         clear H1
         obtain rfl := Option.some.inj H
         go_wp2
         go_ret
         exact ⟨eQ, by repeat (first | (with_reducible first | exact HB.out | apply bA | apply bN | apply bD | refine below_set ?_ GE278.out) | exact HB.out)⟩
        ·replace c37 := Bool.eq_false_iff.mpr c37
         subst c37
         have H1 : (if a0_0 = 3 then (impl_ValidLine.j3 kj22 false a0_0 a0_1 l0_2 l0_3 l0_4 l0_5 a0_6) else (if a0_0 = 7 then (impl_ValidLine.j3 kj22 false a0_0 a0_1 l0_2 l0_3 l0_4 l0_5 a0_6) else (impl_ValidLine.j3 kj22 (decide ((l0_5.length : Int) > 0)) a0_0 a0_1 l0_2 l0_3 l0_4 l0_5 a0_6))) = some r := by rw [if_neg (show ¬ (false = true) by decide)] at H; exact H
         clear H
         have H := H1
         clear H1
         have HC38 := aM H
         clear H
         go_upto_region 6 with (fail)
         go_cut [82] (fun v82 wc => ∃ (kq : Nat) (x82_37 : Bool), v82 = .bool x82_37 ∧ Aside0 (impl_ValidLine.j3 kq x82_37 a0_0 a0_1 l0_2 l0_3 l0_4 l0_5 a0_6 = some r) ∧ Aside0 (kq ≤ kj22) ∧ Aside0 (wc.heap[gb278]? = some (.cells #[.int .i64 a0_0, .string a0_1, (.slice A0_2 l0_2.length c0_2), (.slice A0_3 l0_3.length c0_3), (.slice A0_4 l0_4.length c0_4), (.slice A0_5 l0_5.length c0_5), .int .i64 a0_6] 39 (0, 0))) ∧ Aside0 (Below w.heap.size w wc))
         case first =>
          have H := HC38.out
          clear HC38
          by_cases c39 : a0_0 = 3
          ·rw [if_pos c39] at H
           have c39b0 : (a0_0 == 3) = true := beq_iff_eq.mpr c39
           have c39b1 : (a0_0 != 3) = false := bne_eq_false_iff_eq.mpr c39
           clear c39
           (first | rw [c39b0] | (simp only [i64_w, i32_w]; rw [c39b0]) | rw [c39b1] | rw [c39b2] | rw [c39b3] | rw [c39b4] | skip)
           have H' := aM H
           clear H
           have hcz40_0 : wc.cell? ⟨gb278, 0, none⟩ = some (.int .i64 a0_0) := (blk_cell BK278.out 0).trans rfl
           have hcz40_1 : wc.cell? ⟨gb278, 1, none⟩ = some (.string a0_1) := (blk_cell BK278.out 1).trans rfl
           have hcz40_2 : wc.cell? ⟨gb278, 2, none⟩ = some (.slice A0_2 l0_2.length c0_2) := (blk_cell BK278.out 2).trans rfl
           have hcz40_3 : wc.cell? ⟨gb278, 3, none⟩ = some (.slice A0_3 l0_3.length c0_3) := (blk_cell BK278.out 3).trans rfl
           have hcz40_4 : wc.cell? ⟨gb278, 4, none⟩ = some (.slice A0_4 l0_4.length c0_4) := (blk_cell BK278.out 4).trans rfl
           have hcz40_5 : wc.cell? ⟨gb278, 5, none⟩ = some (.slice A0_5 l0_5.length c0_5) := (blk_cell BK278.out 5).trans rfl
           have hcz40_6 : wc.cell? ⟨gb278, 6, none⟩ = some (.int .i64 a0_6) := (blk_cell BK278.out 6).trans rfl
           have hfz40_0 := blk_frozen BK278.out 0
           have hfz40_1 := blk_frozen BK278.out 1
           have hfz40_2 := blk_frozen BK278.out 2
           have hfz40_3 := blk_frozen BK278.out 3
           have hfz40_4 := blk_frozen BK278.out 4
           have hfz40_5 := blk_frozen BK278.out 5
           have hfz40_6 := blk_frozen BK278.out 6
           go_wp2
           go_meet
           case rel => exact ⟨_, (false), rQ, H', ⟨by have := HJ1.out; have := HJ8.out; have := HJ22.out; first | omega | exact Nat.le_refl _⟩, ⟨by (with_reducible repeat (first | refine blk_drewN ?_ _ | refine blk_drew ?_ | refine blk_alloc ?_ _)); exact BK278.out⟩, ⟨by repeat (first | (with_reducible first | exact HB.out | apply bA | apply bN | apply bD | refine below_set ?_ GE278.out) | exact HB.out)⟩⟩
          ·rw [if_neg c39] at H
           have c39b0 : (a0_0 == 3) = false := beq_eq_false_iff_ne.mpr c39
           have c39b1 : (a0_0 != 3) = true := bne_iff_ne.mpr c39
           (first | rw [c39b0] | (simp only [i64_w, i32_w]; rw [c39b0]) | rw [c39b1] | rw [c39b2] | rw [c39b3] | rw [c39b4] | skip)
           by_cases c41 : a0_0 = 7
           ·rw [if_pos c41] at H
            have c41b0 : (a0_0 == 7) = true := beq_iff_eq.mpr c41
            have c41b1 : (a0_0 != 7) = false := bne_eq_false_iff_eq.mpr c41
            clear c41
            have H' := aM H
            clear H
            have hcz42_0 : wc.cell? ⟨gb278, 0, none⟩ = some (.int .i64 a0_0) := (blk_cell BK278.out 0).trans rfl
            have hcz42_1 : wc.cell? ⟨gb278, 1, none⟩ = some (.string a0_1) := (blk_cell BK278.out 1).trans rfl
            have hcz42_2 : wc.cell? ⟨gb278, 2, none⟩ = some (.slice A0_2 l0_2.length c0_2) := (blk_cell BK278.out 2).trans rfl
            have hcz42_3 : wc.cell? ⟨gb278, 3, none⟩ = some (.slice A0_3 l0_3.length c0_3) := (blk_cell BK278.out 3).trans rfl
            have hcz42_4 : wc.cell? ⟨gb278, 4, none⟩ = some (.slice A0_4 l0_4.length c0_4) := (blk_cell BK278.out 4).trans rfl
            have hcz42_5 : wc.cell? ⟨gb278, 5, none⟩ = some (.slice A0_5 l0_5.length c0_5) := (blk_cell BK278.out 5).trans rfl
            have hcz42_6 : wc.cell? ⟨gb278, 6, none⟩ = some (.int .i64 a0_6) := (blk_cell BK278.out 6).trans rfl
            have hfz42_0 := blk_frozen BK278.out 0
            have hfz42_1 := blk_frozen BK278.out 1
            have hfz42_2 := blk_frozen BK278.out 2
            have hfz42_3 := blk_frozen BK278.out 3
            have hfz42_4 := blk_frozen BK278.out 4
            have hfz42_5 := blk_frozen BK278.out 5
            have hfz42_6 := blk_frozen BK278.out 6
            go_wp2
            go_meet
            case rel => exact ⟨_, (false), rQ, H', ⟨by have := HJ1.out; have := HJ8.out; have := HJ22.out; first | omega | exact Nat.le_refl _⟩, ⟨by (with_reducible repeat (first | refine blk_drewN ?_ _ | refine blk_drew ?_ | refine blk_alloc ?_ _)); exact BK278.out⟩, ⟨by repeat (first | (with_reducible first | exact HB.out | apply bA | apply bN | apply bD | refine below_set ?_ GE278.out) | exact HB.out)⟩⟩
           ·rw [if_neg c41] at H
            have c41b0 : (a0_0 == 7) = false := beq_eq_false_iff_ne.mpr c41
            have c41b1 : (a0_0 != 7) = true := bne_iff_ne.mpr c41
            have H' := aM H
            clear H
            have hcz43_0 : wc.cell? ⟨gb278, 0, none⟩ = some (.int .i64 a0_0) := (blk_cell BK278.out 0).trans rfl
            have hcz43_1 : wc.cell? ⟨gb278, 1, none⟩ = some (.string a0_1) := (blk_cell BK278.out 1).trans rfl
            have hcz43_2 : wc.cell? ⟨gb278, 2, none⟩ = some (.slice A0_2 l0_2.length c0_2) := (blk_cell BK278.out 2).trans rfl
            have hcz43_3 : wc.cell? ⟨gb278, 3, none⟩ = some (.slice A0_3 l0_3.length c0_3) := (blk_cell BK278.out 3).trans rfl
            have hcz43_4 : wc.cell? ⟨gb278, 4, none⟩ = some (.slice A0_4 l0_4.length c0_4) := (blk_cell BK278.out 4).trans rfl
            have hcz43_5 : wc.cell? ⟨gb278, 5, none⟩ = some (.slice A0_5 l0_5.length c0_5) := (blk_cell BK278.out 5).trans rfl
            have hcz43_6 : wc.cell? ⟨gb278, 6, none⟩ = some (.int .i64 a0_6) := (blk_cell BK278.out 6).trans rfl
            have hfz43_0 := blk_frozen BK278.out 0
            have hfz43_1 := blk_frozen BK278.out 1
            have hfz43_2 := blk_frozen BK278.out 2
            have hfz43_3 := blk_frozen BK278.out 3
            have hfz43_4 := blk_frozen BK278.out 4
            have hfz43_5 := blk_frozen BK278.out 5
            have hfz43_6 := blk_frozen BK278.out 6
            go_wp2
            go_meet
            case rel => exact ⟨_, (decide ((l0_5.length : Int) > 0)), rQ, H', ⟨by have := HJ1.out; have := HJ8.out; have := HJ22.out; first | omega | exact Nat.le_refl _⟩, ⟨by (with_reducible repeat (first | refine blk_drewN ?_ _ | refine blk_drew ?_ | refine blk_alloc ?_ _)); exact BK278.out⟩, ⟨by repeat (first | (with_reducible first | exact HB.out | apply bA | apply bN | apply bD | refine below_set ?_ GE278.out) | exact HB.out)⟩⟩
         case rest =>
          clear HC38
          try clear c1
          try clear c2
          try clear p2
          try clear c3
          try clear c4
          try clear c4b0
          try clear c4b1
          try clear c4b2
          try clear c6
          try clear c6b0
          try clear c6b1
          try clear p6
          try clear c10
          try clear c10b0
          try clear c10b1
          try clear c10b2
          try clear c12
          try clear c12b0
          try clear c14
          try clear c14b0
          try clear c14b1
          try clear c15
          try clear c18
          try clear c22
          try clear c24
          try clear c24b0
          try clear c24b1
          try clear c24b2
          try clear c25
          try clear c25b0
          try clear c25b1
          try clear c27
          try clear c27b0
          try clear c27b1
          try clear c30
          try clear c30b0
          try clear c32
          try clear c32b0
          try clear c32b1
          try clear c34
          try clear c34b0
          try clear c34b1
          try clear c37
          try clear c39
          try clear c39b0
          try clear c39b1
          try clear c39b2
          try clear c41
          try clear c41b0
          try clear c41b1
          try clear hcz11_0
          try clear hcz11_1
          try clear hcz11_2
          try clear hcz11_3
          try clear hcz11_4
          try clear hcz11_5
          try clear hcz11_6
          try clear hcz13_0
          try clear hcz13_1
          try clear hcz13_2
          try clear hcz13_3
          try clear hcz13_4
          try clear hcz13_5
          try clear hcz13_6
          try clear hcz16_0
          try clear hcz16_1
          try clear hcz16_2
          try clear hcz16_3
          try clear hcz16_4
          try clear hcz16_5
          try clear hcz16_6
          try clear hcz17_0
          try clear hcz17_1
          try clear hcz17_2
          try clear hcz17_3
          try clear hcz17_4
          try clear hcz17_5
          try clear hcz17_6
          try clear hcz20_0
          try clear hcz20_1
          try clear hcz20_2
          try clear hcz20_3
          try clear hcz20_4
          try clear hcz20_5
          try clear hcz20_6
          try clear hcz21_0
          try clear hcz21_1
          try clear hcz21_2
          try clear hcz21_3
          try clear hcz21_4
          try clear hcz21_5
          try clear hcz21_6
          try clear hcz26_0
          try clear hcz26_1
          try clear hcz26_2
          try clear hcz26_3
          try clear hcz26_4
          try clear hcz26_5
          try clear hcz26_6
          try clear hcz28_0
          try clear hcz28_1
          try clear hcz28_2
          try clear hcz28_3
          try clear hcz28_4
          try clear hcz28_5
          try clear hcz28_6
          try clear hcz29_0
          try clear hcz29_1
          try clear hcz29_2
          try clear hcz29_3
          try clear hcz29_4
          try clear hcz29_5
          try clear hcz29_6
          try clear hcz31_0
          try clear hcz31_1
          try clear hcz31_2
          try clear hcz31_3
          try clear hcz31_4
          try clear hcz31_5
          try clear hcz31_6
          try clear hcz33_0
          try clear hcz33_1
          try clear hcz33_2
          try clear hcz33_3
          try clear hcz33_4
          try clear hcz33_5
          try clear hcz33_6
          try clear hcz35_0
          try clear hcz35_1
          try clear hcz35_2
          try clear hcz35_3
          try clear hcz35_4
          try clear hcz35_5
          try clear hcz35_6
          try clear hcz36_0
          try clear hcz36_1
          try clear hcz36_2
          try clear hcz36_3
          try clear hcz36_4
          try clear hcz36_5
          try clear hcz36_6
          try clear hcz40_0
          try clear hcz40_1
          try clear hcz40_2
          try clear hcz40_3
          try clear hcz40_4
          try clear hcz40_5
          try clear hcz40_6
          try clear hcz42_0
          try clear hcz42_1
          try clear hcz42_2
          try clear hcz42_3
          try clear hcz42_4
          try clear hcz42_5
          try clear hcz42_6
          try clear hcz43_0
          try clear hcz43_1
          try clear hcz43_2
          try clear hcz43_3
          try clear hcz43_4
          try clear hcz43_5
          try clear hcz43_6
          try clear hcz5_0
          try clear hcz5_1
          try clear hcz5_2
          try clear hcz5_3
          try clear hcz5_4
          try clear hcz5_5
          try clear hcz5_6
          try clear hcz7_0
          try clear hcz7_1
          try clear hcz7_2
          try clear hcz7_3
          try clear hcz7_4
          try clear hcz7_5
          try clear hcz7_6
          try clear hcz8_0
          try clear hcz8_1
          try clear hcz8_2
          try clear hcz8_3
          try clear hcz8_4
          try clear hcz8_5
          try clear hcz8_6
          try clear hfz11_0
          try clear hfz11_1
          try clear hfz11_2
          try clear hfz11_3
          try clear hfz11_4
          try clear hfz11_5
          try clear hfz11_6
          try clear hfz13_0
          try clear hfz13_1
          try clear hfz13_2
          try clear hfz13_3
          try clear hfz13_4
          try clear hfz13_5
          try clear hfz13_6
          try clear hfz16_0
          try clear hfz16_1
          try clear hfz16_2
          try clear hfz16_3
          try clear hfz16_4
          try clear hfz16_5
          try clear hfz16_6
          try clear hfz17_0
          try clear hfz17_1
          try clear hfz17_2
          try clear hfz17_3
          try clear hfz17_4
          try clear hfz17_5
          try clear hfz17_6
          try clear hfz20_0
          try clear hfz20_1
          try clear hfz20_2
          try clear hfz20_3
          try clear hfz20_4
          try clear hfz20_5
          try clear hfz20_6
          try clear hfz21_0
          try clear hfz21_1
          try clear hfz21_2
          try clear hfz21_3
          try clear hfz21_4
          try clear hfz21_5
          try clear hfz21_6
          try clear hfz26_0
          try clear hfz26_1
          try clear hfz26_2
          try clear hfz26_3
          try clear hfz26_4
          try clear hfz26_5
          try clear hfz26_6
          try clear hfz28_0
          try clear hfz28_1
          try clear hfz28_2
          try clear hfz28_3
          try clear hfz28_4
          try clear hfz28_5
          try clear hfz28_6
          try clear hfz29_0
          try clear hfz29_1
          try clear hfz29_2
          try clear hfz29_3
          try clear hfz29_4
          try clear hfz29_5
          try clear hfz29_6
          try clear hfz31_0
          try clear hfz31_1
          try clear hfz31_2
          try clear hfz31_3
          try clear hfz31_4
          try clear hfz31_5
          try clear hfz31_6
          try clear hfz33_0
          try clear hfz33_1
          try clear hfz33_2
          try clear hfz33_3
          try clear hfz33_4
          try clear hfz33_5
          try clear hfz33_6
          try clear hfz35_0
          try clear hfz35_1
          try clear hfz35_2
          try clear hfz35_3
          try clear hfz35_4
          try clear hfz35_5
          try clear hfz35_6
          try clear hfz36_0
          try clear hfz36_1
          try clear hfz36_2
          try clear hfz36_3
          try clear hfz36_4
          try clear hfz36_5
          try clear hfz36_6
          try clear hfz40_0
          try clear hfz40_1
          try clear hfz40_2
          try clear hfz40_3
          try clear hfz40_4
          try clear hfz40_5
          try clear hfz40_6
          try clear hfz42_0
          try clear hfz42_1
          try clear hfz42_2
          try clear hfz42_3
          try clear hfz42_4
          try clear hfz42_5
          try clear hfz42_6
          try clear hfz43_0
          try clear hfz43_1
          try clear hfz43_2
          try clear hfz43_3
          try clear hfz43_4
          try clear hfz43_5
          try clear hfz43_6
          try clear hfz5_0
          try clear hfz5_1
          try clear hfz5_2
          try clear hfz5_3
          try clear hfz5_4
          try clear hfz5_5
          try clear hfz5_6
          try clear hfz7_0
          try clear hfz7_1
          try clear hfz7_2
          try clear hfz7_3
          try clear hfz7_4
          try clear hfz7_5
          try clear hfz7_6
          try clear hfz8_0
          try clear hfz8_1
          try clear hfz8_2
          try clear hfz8_3
          try clear hfz8_4
          try clear hfz8_5
          try clear hfz8_6
          try clear p2
          try clear p6
          obtain ⟨kq, x82_37, rfl, HA, HJ37, BK278, HB⟩ := hcut
          cases kq with
          | zero => exact absurd HA.out (by simp [impl_ValidLine.j3])
          | succ kj37 =>
           have H := HA.out
           clear HA
           simp only [impl_ValidLine.j3] at H
           by_cases c44 : x82_37 = true
           ·subst c44
            have H1 : (some false) = some r := by rw [if_pos rfl] at H; exact H
            clear H
            have H := H1
            clear H1
            obtain rfl := Option.some.inj H
            go_wp2
            go_ret
            exact ⟨eQ, by repeat (first | (with_reducible first | exact HB.out | apply bA | apply bN | apply bD | refine below_set ?_ GE278.out) | exact HB.out)⟩
           ·replace c44 := Bool.eq_false_iff.mpr c44
            subst c44
            have H1 : (if a0_0 = 1 then ((impl_areItems.f kj37 l0_3 1 20).bind fun t280 => (some t280)) else (if a0_0 = 3 then ((impl_areItems.f kj37 l0_2 0 4).bind fun t281 => (if t281 = true then ((impl_areItems.f kj37 l0_3 1 4).bind fun t282 => (if t282 = true then ((impl_areItems.f kj37 l0_4 0 4).bind fun t283 => (if t283 = true then ((impl_areItems.f kj37 l0_5 0 4).bind fun t284 => (some t284)) else (some false))) else (some false))) else (some false))) else (if a0_0 = 5 then ((impl_areItems.f kj37 l0_3 2 2).bind fun t285 => (if t285 = true then (if a0_6 ≥ (-262144) then (some (decide (a0_6 ≤ 262144))) else (some false)) else (some false))) else (if a0_0 = 6 then ((impl_areItems.f kj37 l0_3 2 2).bind fun t286 => (some t286)) else (if a0_0 = 7 then (if (l0_3.length : Int) = 0 then ((impl_validJoinLine.f kj37 a0_0 a0_1 l0_2 l0_3 l0_4 l0_5 a0_6).bind fun t287 => (some t287)) else (some false)) else (some ((l0_3.length : Int) == 0))))))) = some r := by rw [if_neg (show ¬ (false = true) by decide)] at H; exact H
            clear H
            have H := H1
            clear H1
            by_cases c45 : a0_0 = 1
            ·rw [if_pos c45] at H
             have c45b0 : (a0_0 == 1) = true := beq_iff_eq.mpr c45
             have c45b1 : (a0_0 != 1) = false := bne_eq_false_iff_eq.mpr c45
             clear c45
             replace H := Option.bind_eq_some_iff.mp H
             obtain ⟨t280, A460, H⟩ := H
             replace H : (some t280) = some r := H
             have A46 := aM A460
             clear A460
             obtain rfl := Option.some.inj H
             have hcz47_0 : wc.cell? ⟨gb278, 0, none⟩ = some (.int .i64 a0_0) := (blk_cell BK278.out 0).trans rfl
             have hcz47_1 : wc.cell? ⟨gb278, 1, none⟩ = some (.string a0_1) := (blk_cell BK278.out 1).trans rfl
             have hcz47_2 : wc.cell? ⟨gb278, 2, none⟩ = some (.slice A0_2 l0_2.length c0_2) := (blk_cell BK278.out 2).trans rfl
             have hcz47_3 : wc.cell? ⟨gb278, 3, none⟩ = some (.slice A0_3 l0_3.length c0_3) := (blk_cell BK278.out 3).trans rfl
             have hcz47_4 : wc.cell? ⟨gb278, 4, none⟩ = some (.slice A0_4 l0_4.length c0_4) := (blk_cell BK278.out 4).trans rfl
             have hcz47_5 : wc.cell? ⟨gb278, 5, none⟩ = some (.slice A0_5 l0_5.length c0_5) := (blk_cell BK278.out 5).trans rfl
             have hcz47_6 : wc.cell? ⟨gb278, 6, none⟩ = some (.int .i64 a0_6) := (blk_cell BK278.out 6).trans rfl
             have hfz47_0 := blk_frozen BK278.out 0
             have hfz47_1 := blk_frozen BK278.out 1
             have hfz47_2 := blk_frozen BK278.out 2
             have hfz47_3 := blk_frozen BK278.out 3
             have hfz47_4 := blk_frozen BK278.out 4
             have hfz47_5 := blk_frozen BK278.out 5
             have hfz47_6 := blk_frozen BK278.out 6
             go_wp2_with (first | ((with_reducible refine gate_callee (f := 60) rfl ?_); refine goesL_ (some 89) rfl rfl Try.func60 (by kernel_rfl) rfl #[.slice A0_3 l0_3.length c0_3, .int .i64 1, .int .i64 20] rfl gQ ?_; (with_reducible refine (impl_areItems.calls kj37 _ _ l0_3 1 20 t280 _ ?side1 ?side2 A46.out).mono ?_); (case side1 => exact cQ HR0_3.out); (case side2 => exact HC0_3.out); rintro e w48 ⟨rfl, hb⟩; refine ⟨_, rfl, ?_⟩; have n0_ := aM (blk_below (g := gb278) (o := .cells #[.int .i64 a0_0, .string a0_1, .slice A0_2 l0_2.length c0_2, .slice A0_3 l0_3.length c0_3, .slice A0_4 l0_4.length c0_4, .slice A0_5 l0_5.length c0_5, .int .i64 a0_6] 39 (0, 0)) (by (with_reducible repeat (first | refine blk_drewN ?_ _ | refine blk_drew ?_ | refine blk_alloc ?_ _)); exact BK278.out) hb); have n1_ := aM (below_step (by repeat (first | (with_reducible first | exact HB.out | apply bA | apply bN | apply bD | refine below_set ?_ GE278.out) | exact HB.out)) hb); clear BK278; clear HB; have BK278 := n0_; have HB := n1_; clear n0_ n1_; (try clear hb); (try clear hb2); (try clear hk); (try clear hi)))
             go_ret
             exact ⟨eQ, by repeat (first | (with_reducible first | exact HB.out | apply bA | apply bN | apply bD | refine below_set ?_ GE278.out) | exact HB.out)⟩
            ·rw [if_neg c45] at H
             have c45b0 : (a0_0 == 1) = false := beq_eq_false_iff_ne.mpr c45
             have c45b1 : (a0_0 != 1) = true := bne_iff_ne.mpr c45
             by_cases c49 : a0_0 = 3
             ·rw [if_pos c49] at H
              have c49b0 : (a0_0 == 3) = true := beq_iff_eq.mpr c49
              have c49b1 : (a0_0 != 3) = false := bne_eq_false_iff_eq.mpr c49
              clear c49
              replace H := Option.bind_eq_some_iff.mp H
              obtain ⟨t281, A500, H⟩ := H
              replace H : (if t281 = true then ((impl_areItems.f kj37 l0_3 1 4).bind fun t282 => (if t282 = true then ((impl_areItems.f kj37 l0_4 0 4).bind fun t283 => (if t283 = true then ((impl_areItems.f kj37 l0_5 0 4).bind fun t284 => (some t284)) else (some false))) else (some false))) else (some false)) = some r := H
              have A50 := aM A500
              clear A500
              by_cases c51 : t281 = true
              ·subst c51
               have H1 : ((impl_areItems.f kj37 l0_3 1 4).bind fun t282 => (if t282 = true then ((impl_areItems.f kj37 l0_4 0 4).bind fun t283 => (if t283 = true then ((impl_areItems.f kj37 l0_5 0 4).bind fun t284 => (some t284)) else (some false))) else (some false))) = some r := by rw [if_pos rfl] at H; exact H
               clear H
               have H := H1
               clear H1
               replace H := Option.bind_eq_some_iff.mp H
               obtain ⟨t282, A520, H⟩ := H
               replace H : (if t282 = true then ((impl_areItems.f kj37 l0_4 0 4).bind fun t283 => (if t283 = true then ((impl_areItems.f kj37 l0_5 0 4).bind fun t284 => (some t284)) else (some false))) else (some false)) = some r := H
               have A52 := aM A520
               clear A520
               by_cases c53 : t282 = true
               ·subst c53
                have H1 : ((impl_areItems.f kj37 l0_4 0 4).bind fun t283 => (if t283 = true then ((impl_areItems.f kj37 l0_5 0 4).bind fun t284 => (some t284)) else (some false))) = some r := by rw [if_pos rfl] at H; exact H
                clear H
                have H := H1
                clear H1
                replace H := Option.bind_eq_some_iff.mp H
                obtain ⟨t283, A540, H⟩ := H
                replace H : (if t283 = true then ((impl_areItems.f kj37 l0_5 0 4).bind fun t284 => (some t284)) else (some false)) = some r := H
                have A54 := aM A540
                clear A540
                by_cases c55 : t283 = true
                ·subst c55
                 have H1 : ((impl_areItems.f kj37 l0_5 0 4).bind fun t284 => (some t284)) = some r := by rw [if_pos rfl] at H; exact H
                 clear H
                 have H := H1
                 clear H1
                 replace H := Option.bind_eq_some_iff.mp H
                 obtain ⟨t284, A560, H⟩ := H
                 replace H : (some t284) = some r := H
                 have A56 := aM A560
                 clear A560
                 obtain rfl := Option.some.inj H
                 have hcz57_0 : wc.cell? ⟨gb278, 0, none⟩ = some (.int .i64 a0_0) := (blk_cell BK278.out 0).trans rfl
                 have hcz57_1 : wc.cell? ⟨gb278, 1, none⟩ = some (.string a0_1) := (blk_cell BK278.out 1).trans rfl
                 have hcz57_2 : wc.cell? ⟨gb278, 2, none⟩ = some (.slice A0_2 l0_2.length c0_2) := (blk_cell BK278.out 2).trans rfl
                 have hcz57_3 : wc.cell? ⟨gb278, 3, none⟩ = some (.slice A0_3 l0_3.length c0_3) := (blk_cell BK278.out 3).trans rfl
                 have hcz57_4 : wc.cell? ⟨gb278, 4, none⟩ = some (.slice A0_4 l0_4.length c0_4) := (blk_cell BK278.out 4).trans rfl
                 have hcz57_5 : wc.cell? ⟨gb278, 5, none⟩ = some (.slice A0_5 l0_5.length c0_5) := (blk_cell BK278.out 5).trans rfl
                 have hcz57_6 : wc.cell? ⟨gb278, 6, none⟩ = some (.int .i64 a0_6) := (blk_cell BK278.out 6).trans rfl
                 have hfz57_0 := blk_frozen BK278.out 0
                 have hfz57_1 := blk_frozen BK278.out 1
                 have hfz57_2 := blk_frozen BK278.out 2
                 have hfz57_3 := blk_frozen BK278.out 3
                 have hfz57_4 := blk_frozen BK278.out 4
                 have hfz57_5 := blk_frozen BK278.out 5
                 have hfz57_6 := blk_frozen BK278.out 6
                 go_wp2_with (first | ((with_reducible refine gate_callee (f := 60) rfl ?_); refine goesL_ (some 94) rfl rfl Try.func60 (by kernel_rfl) rfl #[.slice A0_2 l0_2.length c0_2, .int .i64 0, .int .i64 4] rfl gQ ?_; (with_reducible refine (impl_areItems.calls kj37 _ _ l0_2 0 4 true _ ?side1 ?side2 A50.out).mono ?_); (case side1 => exact cQ HR0_2.out); (case side2 => exact HC0_2.out); rintro e w58 ⟨rfl, hb⟩; refine ⟨_, rfl, ?_⟩; have n0_ := aM (blk_below (g := gb278) (o := .cells #[.int .i64 a0_0, .string a0_1, .slice A0_2 l0_2.length c0_2, .slice A0_3 l0_3.length c0_3, .slice A0_4 l0_4.length c0_4, .slice A0_5 l0_5.length c0_5, .int .i64 a0_6] 39 (0, 0)) (by (with_reducible repeat (first | refine blk_drewN ?_ _ | refine blk_drew ?_ | refine blk_alloc ?_ _)); exact BK278.out) hb); have n1_ := aM (below_step (by repeat (first | (with_reducible first | exact HB.out | apply bA | apply bN | apply bD | refine below_set ?_ GE278.out) | exact HB.out)) hb); clear BK278; clear HB; have BK278 := n0_; have HB := n1_; clear n0_ n1_; (try clear hb); (try clear hb2); (try clear hk); (try clear hi); have hcz59_0 : w58.cell? ⟨gb278, 0, none⟩ = some (.int .i64 a0_0) := (blk_cell BK278.out 0).trans rfl; have hcz59_1 : w58.cell? ⟨gb278, 1, none⟩ = some (.string a0_1) := (blk_cell BK278.out 1).trans rfl; have hcz59_2 : w58.cell? ⟨gb278, 2, none⟩ = some (.slice A0_2 l0_2.length c0_2) := (blk_cell BK278.out 2).trans rfl; have hcz59_3 : w58.cell? ⟨gb278, 3, none⟩ = some (.slice A0_3 l0_3.length c0_3) := (blk_cell BK278.out 3).trans rfl; have hcz59_4 : w58.cell? ⟨gb278, 4, none⟩ = some (.slice A0_4 l0_4.length c0_4) := (blk_cell BK278.out 4).trans rfl; have hcz59_5 : w58.cell? ⟨gb278, 5, none⟩ = some (.slice A0_5 l0_5.length c0_5) := (blk_cell BK278.out 5).trans rfl; have hcz59_6 : w58.cell? ⟨gb278, 6, none⟩ = some (.int .i64 a0_6) := (blk_cell BK278.out 6).trans rfl; have hfz59_0 := blk_frozen BK278.out 0; have hfz59_1 := blk_frozen BK278.out 1; have hfz59_2 := blk_frozen BK278.out 2; have hfz59_3 := blk_frozen BK278.out 3; have hfz59_4 := blk_frozen BK278.out 4; have hfz59_5 := blk_frozen BK278.out 5; have hfz59_6 := blk_frozen BK278.out 6) | (go_at_call 60; (with_reducible refine (impl_areItems.calls kj37 _ _ l0_3 1 4 true _ ?side1 ?side2 A52.out).mono ?_); (case side1 => exact cQ HR0_3.out); (case side2 => exact HC0_3.out); rintro e w60 ⟨rfl, hb⟩; have n0_ := aM (blk_below (g := gb278) (o := .cells #[.int .i64 a0_0, .string a0_1, .slice A0_2 l0_2.length c0_2, .slice A0_3 l0_3.length c0_3, .slice A0_4 l0_4.length c0_4, .slice A0_5 l0_5.length c0_5, .int .i64 a0_6] 39 (0, 0)) (by (with_reducible repeat (first | refine blk_drewN ?_ _ | refine blk_drew ?_ | refine blk_alloc ?_ _)); exact BK278.out) hb); have n1_ := aM (below_step (by repeat (first | (with_reducible first | exact HB.out | apply bA | apply bN | apply bD | refine below_set ?_ GE278.out) | exact HB.out)) hb); clear BK278; clear HB; have BK278 := n0_; have HB := n1_; clear n0_ n1_; (try clear hb); (try clear hb2); (try clear hk); (try clear hi); have hcz61_0 : w60.cell? ⟨gb278, 0, none⟩ = some (.int .i64 a0_0) := (blk_cell BK278.out 0).trans rfl; have hcz61_1 : w60.cell? ⟨gb278, 1, none⟩ = some (.string a0_1) := (blk_cell BK278.out 1).trans rfl; have hcz61_2 : w60.cell? ⟨gb278, 2, none⟩ = some (.slice A0_2 l0_2.length c0_2) := (blk_cell BK278.out 2).trans rfl; have hcz61_3 : w60.cell? ⟨gb278, 3, none⟩ = some (.slice A0_3 l0_3.length c0_3) := (blk_cell BK278.out 3).trans rfl; have hcz61_4 : w60.cell? ⟨gb278, 4, none⟩ = some (.slice A0_4 l0_4.length c0_4) := (blk_cell BK278.out 4).trans rfl; have hcz61_5 : w60.cell? ⟨gb278, 5, none⟩ = some (.slice A0_5 l0_5.length c0_5) := (blk_cell BK278.out 5).trans rfl; have hcz61_6 : w60.cell? ⟨gb278, 6, none⟩ = some (.int .i64 a0_6) := (blk_cell BK278.out 6).trans rfl; have hfz61_0 := blk_frozen BK278.out 0; have hfz61_1 := blk_frozen BK278.out 1; have hfz61_2 := blk_frozen BK278.out 2; have hfz61_3 := blk_frozen BK278.out 3; have hfz61_4 := blk_frozen BK278.out 4; have hfz61_5 := blk_frozen BK278.out 5; have hfz61_6 := blk_frozen BK278.out 6) | (go_at_call 60; (with_reducible refine (impl_areItems.calls kj37 _ _ l0_4 0 4 true _ ?side1 ?side2 A54.out).mono ?_); (case side1 => exact cQ HR0_4.out); (case side2 => exact HC0_4.out); rintro e w62 ⟨rfl, hb⟩; have n0_ := aM (blk_below (g := gb278) (o := .cells #[.int .i64 a0_0, .string a0_1, .slice A0_2 l0_2.length c0_2, .slice A0_3 l0_3.length c0_3, .slice A0_4 l0_4.length c0_4, .slice A0_5 l0_5.length c0_5, .int .i64 a0_6] 39 (0, 0)) (by (with_reducible repeat (first | refine blk_drewN ?_ _ | refine blk_drew ?_ | refine blk_alloc ?_ _)); exact BK278.out) hb); have n1_ := aM (below_step (by repeat (first | (with_reducible first | exact HB.out | apply bA | apply bN | apply bD | refine below_set ?_ GE278.out) | exact HB.out)) hb); clear BK278; clear HB; have BK278 := n0_; have HB := n1_; clear n0_ n1_; (try clear hb); (try clear hb2); (try clear hk); (try clear hi); have hcz63_0 : w62.cell? ⟨gb278, 0, none⟩ = some (.int .i64 a0_0) := (blk_cell BK278.out 0).trans rfl; have hcz63_1 : w62.cell? ⟨gb278, 1, none⟩ = some (.string a0_1) := (blk_cell BK278.out 1).trans rfl; have hcz63_2 : w62.cell? ⟨gb278, 2, none⟩ = some (.slice A0_2 l0_2.length c0_2) := (blk_cell BK278.out 2).trans rfl; have hcz63_3 : w62.cell? ⟨gb278, 3, none⟩ = some (.slice A0_3 l0_3.length c0_3) := (blk_cell BK278.out 3).trans rfl; have hcz63_4 : w62.cell? ⟨gb278, 4, none⟩ = some (.slice A0_4 l0_4.length c0_4) := (blk_cell BK278.out 4).trans rfl; have hcz63_5 : w62.cell? ⟨gb278, 5, none⟩ = some (.slice A0_5 l0_5.length c0_5) := (blk_cell BK278.out 5).trans rfl; have hcz63_6 : w62.cell? ⟨gb278, 6, none⟩ = some (.int .i64 a0_6) := (blk_cell BK278.out 6).trans rfl; have hfz63_0 := blk_frozen BK278.out 0; have hfz63_1 := blk_frozen BK278.out 1; have hfz63_2 := blk_frozen BK278.out 2; have hfz63_3 := blk_frozen BK278.out 3; have hfz63_4 := blk_frozen BK278.out 4; have hfz63_5 := blk_frozen BK278.out 5; have hfz63_6 := blk_frozen BK278.out 6) | (go_at_call 60; (with_reducible refine (impl_areItems.calls kj37 _ _ l0_5 0 4 t284 _ ?side1 ?side2 A56.out).mono ?_); (case side1 => exact cQ HR0_5.out); (case side2 => exact HC0_5.out); rintro e w64 ⟨rfl, hb⟩; have n0_ := aM (blk_below (g := gb278) (o := .cells #[.int .i64 a0_0, .string a0_1, .slice A0_2 l0_2.length c0_2, .slice A0_3 l0_3.length c0_3, .slice A0_4 l0_4.length c0_4, .slice A0_5 l0_5.length c0_5, .int .i64 a0_6] 39 (0, 0)) (by (with_reducible repeat (first | refine blk_drewN ?_ _ | refine blk_drew ?_ | refine blk_alloc ?_ _)); exact BK278.out) hb); have n1_ := aM (below_step (by repeat (first | (with_reducible first | exact HB.out | apply bA | apply bN | apply bD | refine below_set ?_ GE278.out) | exact HB.out)) hb); clear BK278; clear HB; have BK278 := n0_; have HB := n1_; clear n0_ n1_; (try clear hb); (try clear hb2); (try clear hk); (try clear hi)))
                 go_ret
                 exact ⟨eQ, by repeat (first | (with_reducible first | exact HB.out | apply bA | apply bN | apply bD | refine below_set ?_ GE278.out) | exact HB.out)⟩
                ·replace c55 := Bool.eq_false_iff.mpr c55
                 subst c55
                 have H1 : (some false) = some r := by rw [if_neg (show ¬ (false = true) by decide)] at H; exact H
                 clear H
                 have H := H1
                 clear H1
                 obtain rfl := Option.some.inj H
                 have hcz65_0 : wc.cell? ⟨gb278, 0, none⟩ = some (.int .i64 a0_0) := (blk_cell BK278.out 0).trans rfl
                 have hcz65_1 : wc.cell? ⟨gb278, 1, none⟩ = some (.string a0_1) := (blk_cell BK278.out 1).trans rfl
                 have hcz65_2 : wc.cell? ⟨gb278, 2, none⟩ = some (.slice A0_2 l0_2.length c0_2) := (blk_cell BK278.out 2).trans rfl
                 have hcz65_3 : wc.cell? ⟨gb278, 3, none⟩ = some (.slice A0_3 l0_3.length c0_3) := (blk_cell BK278.out 3).trans rfl
                 have hcz65_4 : wc.cell? ⟨gb278, 4, none⟩ = some (.slice A0_4 l0_4.length c0_4) := (blk_cell BK278.out 4).trans rfl
                 have hcz65_5 : wc.cell? ⟨gb278, 5, none⟩ = some (.slice A0_5 l0_5.length c0_5) := (blk_cell BK278.out 5).trans rfl
                 have hcz65_6 : wc.cell? ⟨gb278, 6, none⟩ = some (.int .i64 a0_6) := (blk_cell BK278.out 6).trans rfl
                 have hfz65_0 := blk_frozen BK278.out 0
                 have hfz65_1 := blk_frozen BK278.out 1
                 have hfz65_2 := blk_frozen BK278.out 2
                 have hfz65_3 := blk_frozen BK278.out 3
                 have hfz65_4 := blk_frozen BK278.out 4
                 have hfz65_5 := blk_frozen BK278.out 5
                 have hfz65_6 := blk_frozen BK278.out 6
                 go_wp2_with (first | ((with_reducible refine gate_callee (f := 60) rfl ?_); refine goesL_ (some 94) rfl rfl Try.func60 (by kernel_rfl) rfl #[.slice A0_2 l0_2.length c0_2, .int .i64 0, .int .i64 4] rfl gQ ?_; (with_reducible refine (impl_areItems.calls kj37 _ _ l0_2 0 4 true _ ?side1 ?side2 A50.out).mono ?_); (case side1 => exact cQ HR0_2.out); (case side2 => exact HC0_2.out); rintro e w66 ⟨rfl, hb⟩; refine ⟨_, rfl, ?_⟩; have n0_ := aM (blk_below (g := gb278) (o := .cells #[.int .i64 a0_0, .string a0_1, .slice A0_2 l0_2.length c0_2, .slice A0_3 l0_3.length c0_3, .slice A0_4 l0_4.length c0_4, .slice A0_5 l0_5.length c0_5, .int .i64 a0_6] 39 (0, 0)) (by (with_reducible repeat (first | refine blk_drewN ?_ _ | refine blk_drew ?_ | refine blk_alloc ?_ _)); exact BK278.out) hb); have n1_ := aM (below_step (by repeat (first | (with_reducible first | exact HB.out | apply bA | apply bN | apply bD | refine below_set ?_ GE278.out) | exact HB.out)) hb); clear BK278; clear HB; have BK278 := n0_; have HB := n1_; clear n0_ n1_; (try clear hb); (try clear hb2); (try clear hk); (try clear hi); have hcz67_0 : w66.cell? ⟨gb278, 0, none⟩ = some (.int .i64 a0_0) := (blk_cell BK278.out 0).trans rfl; have hcz67_1 : w66.cell? ⟨gb278, 1, none⟩ = some (.string a0_1) := (blk_cell BK278.out 1).trans rfl; have hcz67_2 : w66.cell? ⟨gb278, 2, none⟩ = some (.slice A0_2 l0_2.length c0_2) := (blk_cell BK278.out 2).trans rfl; have hcz67_3 : w66.cell? ⟨gb278, 3, none⟩ = some (.slice A0_3 l0_3.length c0_3) := (blk_cell BK278.out 3).trans rfl; have hcz67_4 : w66.cell? ⟨gb278, 4, none⟩ = some (.slice A0_4 l0_4.length c0_4) := (blk_cell BK278.out 4).trans rfl; have hcz67_5 : w66.cell? ⟨gb278, 5, none⟩ = some (.slice A0_5 l0_5.length c0_5) := (blk_cell BK278.out 5).trans rfl; have hcz67_6 : w66.cell? ⟨gb278, 6, none⟩ = some (.int .i64 a0_6) := (blk_cell BK278.out 6).trans rfl; have hfz67_0 := blk_frozen BK278.out 0; have hfz67_1 := blk_frozen BK278.out 1; have hfz67_2 := blk_frozen BK278.out 2; have hfz67_3 := blk_frozen BK278.out 3; have hfz67_4 := blk_frozen BK278.out 4; have hfz67_5 := blk_frozen BK278.out 5; have hfz67_6 := blk_frozen BK278.out 6) | (go_at_call 60; (with_reducible refine (impl_areItems.calls kj37 _ _ l0_3 1 4 true _ ?side1 ?side2 A52.out).mono ?_); (case side1 => exact cQ HR0_3.out); (case side2 => exact HC0_3.out); rintro e w68 ⟨rfl, hb⟩; have n0_ := aM (blk_below (g := gb278) (o := .cells #[.int .i64 a0_0, .string a0_1, .slice A0_2 l0_2.length c0_2, .slice A0_3 l0_3.length c0_3, .slice A0_4 l0_4.length c0_4, .slice A0_5 l0_5.length c0_5, .int .i64 a0_6] 39 (0, 0)) (by (with_reducible repeat (first | refine blk_drewN ?_ _ | refine blk_drew ?_ | refine blk_alloc ?_ _)); exact BK278.out) hb); have n1_ := aM (below_step (by repeat (first | (with_reducible first | exact HB.out | apply bA | apply bN | apply bD | refine below_set ?_ GE278.out) | exact HB.out)) hb); clear BK278; clear HB; have BK278 := n0_; have HB := n1_; clear n0_ n1_; (try clear hb); (try clear hb2); (try clear hk); (try clear hi); have hcz69_0 : w68.cell? ⟨gb278, 0, none⟩ = some (.int .i64 a0_0) := (blk_cell BK278.out 0).trans rfl; have hcz69_1 : w68.cell? ⟨gb278, 1, none⟩ = some (.string a0_1) := (blk_cell BK278.out 1).trans rfl; have hcz69_2 : w68.cell? ⟨gb278, 2, none⟩ = some (.slice A0_2 l0_2.length c0_2) := (blk_cell BK278.out 2).trans rfl; have hcz69_3 : w68.cell? ⟨gb278, 3, none⟩ = some (.slice A0_3 l0_3.length c0_3) := (blk_cell BK278.out 3).trans rfl; have hcz69_4 : w68.cell? ⟨gb278, 4, none⟩ = some (.slice A0_4 l0_4.length c0_4) := (blk_cell BK278.out 4).trans rfl; have hcz69_5 : w68.cell? ⟨gb278, 5, none⟩ = some (.slice A0_5 l0_5.length c0_5) := (blk_cell BK278.out 5).trans rfl; have hcz69_6 : w68.cell? ⟨gb278, 6, none⟩ = some (.int .i64 a0_6) := (blk_cell BK278.out 6).trans rfl; have hfz69_0 := blk_frozen BK278.out 0; have hfz69_1 := blk_frozen BK278.out 1; have hfz69_2 := blk_frozen BK278.out 2; have hfz69_3 := blk_frozen BK278.out 3; have hfz69_4 := blk_frozen BK278.out 4; have hfz69_5 := blk_frozen BK278.out 5; have hfz69_6 := blk_frozen BK278.out 6) | (go_at_call 60; (with_reducible refine (impl_areItems.calls kj37 _ _ l0_4 0 4 false _ ?side1 ?side2 A54.out).mono ?_); (case side1 => exact cQ HR0_4.out); (case side2 => exact HC0_4.out); rintro e w70 ⟨rfl, hb⟩; have n0_ := aM (blk_below (g := gb278) (o := .cells #[.int .i64 a0_0, .string a0_1, .slice A0_2 l0_2.length c0_2, .slice A0_3 l0_3.length c0_3, .slice A0_4 l0_4.length c0_4, .slice A0_5 l0_5.length c0_5, .int .i64 a0_6] 39 (0, 0)) (by (with_reducible repeat (first | refine blk_drewN ?_ _ | refine blk_drew ?_ | refine blk_alloc ?_ _)); exact BK278.out) hb); have n1_ := aM (below_step (by repeat (first | (with_reducible first | exact HB.out | apply bA | apply bN | apply bD | refine below_set ?_ GE278.out) | exact HB.out)) hb); clear BK278; clear HB; have BK278 := n0_; have HB := n1_; clear n0_ n1_; (try clear hb); (try clear hb2); (try clear hk); (try clear hi)))
                 go_ret
                 exact ⟨eQ, by repeat (first | (with_reducible first | exact HB.out | apply bA | apply bN | apply bD | refine below_set ?_ GE278.out) | exact HB.out)⟩
               ·replace c53 := Bool.eq_false_iff.mpr c53
                subst c53
                have H1 : (some false) = some r := by rw [if_neg (show ¬ (false = true) by decide)] at H; exact H
                clear H
                have H := H1
                clear H1
                obtain rfl := Option.some.inj H
                have hcz71_0 : wc.cell? ⟨gb278, 0, none⟩ = some (.int .i64 a0_0) := (blk_cell BK278.out 0).trans rfl
                have hcz71_1 : wc.cell? ⟨gb278, 1, none⟩ = some (.string a0_1) := (blk_cell BK278.out 1).trans rfl
                have hcz71_2 : wc.cell? ⟨gb278, 2, none⟩ = some (.slice A0_2 l0_2.length c0_2) := (blk_cell BK278.out 2).trans rfl
                have hcz71_3 : wc.cell? ⟨gb278, 3, none⟩ = some (.slice A0_3 l0_3.length c0_3) := (blk_cell BK278.out 3).trans rfl
                have hcz71_4 : wc.cell? ⟨gb278, 4, none⟩ = some (.slice A0_4 l0_4.length c0_4) := (blk_cell BK278.out 4).trans rfl
                have hcz71_5 : wc.cell? ⟨gb278, 5, none⟩ = some (.slice A0_5 l0_5.length c0_5) := (blk_cell BK278.out 5).trans rfl
                have hcz71_6 : wc.cell? ⟨gb278, 6, none⟩ = some (.int .i64 a0_6) := (blk_cell BK278.out 6).trans rfl
                have hfz71_0 := blk_frozen BK278.out 0
                have hfz71_1 := blk_frozen BK278.out 1
                have hfz71_2 := blk_frozen BK278.out 2
                have hfz71_3 := blk_frozen BK278.out 3
                have hfz71_4 := blk_frozen BK278.out 4
                have hfz71_5 := blk_frozen BK278.out 5
                have hfz71_6 := blk_frozen BK278.out 6
                go_wp2_with (first | ((with_reducible refine gate_callee (f := 60) rfl ?_); refine goesL_ (some 94) rfl rfl Try.func60 (by kernel_rfl) rfl #[.slice A0_2 l0_2.length c0_2, .int .i64 0, .int .i64 4] rfl gQ ?_; (with_reducible refine (impl_areItems.calls kj37 _ _ l0_2 0 4 true _ ?side1 ?side2 A50.out).mono ?_); (case side1 => exact cQ HR0_2.out); (case side2 => exact HC0_2.out); rintro e w72 ⟨rfl, hb⟩; refine ⟨_, rfl, ?_⟩; have n0_ := aM (blk_below (g := gb278) (o := .cells #[.int .i64 a0_0, .string a0_1, .slice A0_2 l0_2.length c0_2, .slice A0_3 l0_3.length c0_3, .slice A0_4 l0_4.length c0_4, .slice A0_5 l0_5.length c0_5, .int .i64 a0_6] 39 (0, 0)) (by (with_reducible repeat (first | refine blk_drewN ?_ _ | refine blk_drew ?_ | refine blk_alloc ?_ _)); exact BK278.out) hb); have n1_ := aM (below_step (by repeat (first | (with_reducible first | exact HB.out | apply bA | apply bN | apply bD | refine below_set ?_ GE278.out) | exact HB.out)) hb); clear BK278; clear HB; have BK278 := n0_; have HB := n1_; clear n0_ n1_; (try clear hb); (try clear hb2); (try clear hk); (try clear hi); have hcz73_0 : w72.cell? ⟨gb278, 0, none⟩ = some (.int .i64 a0_0) := (blk_cell BK278.out 0).trans rfl; have hcz73_1 : w72.cell? ⟨gb278, 1, none⟩ = some (.string a0_1) := (blk_cell BK278.out 1).trans rfl; have hcz73_2 : w72.cell? ⟨gb278, 2, none⟩ = some (.slice A0_2 l0_2.length c0_2) := (blk_cell BK278.out 2).trans rfl; have hcz73_3 : w72.cell? ⟨gb278, 3, none⟩ = some (.slice A0_3 l0_3.length c0_3) := (blk_cell BK278.out 3).trans rfl; have hcz73_4 : w72.cell? ⟨gb278, 4, none⟩ = some (.slice A0_4 l0_4.length c0_4) := (blk_cell BK278.out 4).trans rfl; have hcz73_5 : w72.cell? ⟨gb278, 5, none⟩ = some (.slice A0_5 l0_5.length c0_5) := (blk_cell BK278.out 5).trans rfl; have hcz73_6 : w72.cell? ⟨gb278, 6, none⟩ = some (.int .i64 a0_6) := (blk_cell BK278.out 6).trans rfl; have hfz73_0 := blk_frozen BK278.out 0; have hfz73_1 := blk_frozen BK278.out 1; have hfz73_2 := blk_frozen BK278.out 2; have hfz73_3 := blk_frozen BK278.out 3; have hfz73_4 := blk_frozen BK278.out 4; have hfz73_5 := blk_frozen BK278.out 5; have hfz73_6 := blk_frozen BK278.out 6) | (go_at_call 60; (with_reducible refine (impl_areItems.calls kj37 _ _ l0_3 1 4 false _ ?side1 ?side2 A52.out).mono ?_); (case side1 => exact cQ HR0_3.out); (case side2 => exact HC0_3.out); rintro e w74 ⟨rfl, hb⟩; have n0_ := aM (blk_below (g := gb278) (o := .cells #[.int .i64 a0_0, .string a0_1, .slice A0_2 l0_2.length c0_2, .slice A0_3 l0_3.length c0_3, .slice A0_4 l0_4.length c0_4, .slice A0_5 l0_5.length c0_5, .int .i64 a0_6] 39 (0, 0)) (by (with_reducible repeat (first | refine blk_drewN ?_ _ | refine blk_drew ?_ | refine blk_alloc ?_ _)); exact BK278.out) hb); have n1_ := aM (below_step (by repeat (first | (with_reducible first | exact HB.out | apply bA | apply bN | apply bD | refine below_set ?_ GE278.out) | exact HB.out)) hb); clear BK278; clear HB; have BK278 := n0_; have HB := n1_; clear n0_ n1_; (try clear hb); (try clear hb2); (try clear hk); (try clear hi)))
                go_ret
                exact ⟨eQ, by repeat (first | (with_reducible first | exact HB.out | apply bA | apply bN | apply bD | refine below_set ?_ GE278.out) | exact HB.out)⟩
              ·replace c51 := Bool.eq_false_iff.mpr c51
               subst c51
               have H1 : (some false) = some r := by rw [if_neg (show ¬ (false = true) by decide)] at H; exact H
               clear H
               have H := H1
               clear H1
               obtain rfl := Option.some.inj H
               have hcz75_0 : wc.cell? ⟨gb278, 0, none⟩ = some (.int .i64 a0_0) := (blk_cell BK278.out 0).trans rfl
               have hcz75_1 : wc.cell? ⟨gb278, 1, none⟩ = some (.string a0_1) := (blk_cell BK278.out 1).trans rfl
               have hcz75_2 : wc.cell? ⟨gb278, 2, none⟩ = some (.slice A0_2 l0_2.length c0_2) := (blk_cell BK278.out 2).trans rfl
               have hcz75_3 : wc.cell? ⟨gb278, 3, none⟩ = some (.slice A0_3 l0_3.length c0_3) := (blk_cell BK278.out 3).trans rfl
               have hcz75_4 : wc.cell? ⟨gb278, 4, none⟩ = some (.slice A0_4 l0_4.length c0_4) := (blk_cell BK278.out 4).trans rfl
               have hcz75_5 : wc.cell? ⟨gb278, 5, none⟩ = some (.slice A0_5 l0_5.length c0_5) := (blk_cell BK278.out 5).trans rfl
               have hcz75_6 : wc.cell? ⟨gb278, 6, none⟩ = some (.int .i64 a0_6) := (blk_cell BK278.out 6).trans rfl
               have hfz75_0 := blk_frozen BK278.out 0
               have hfz75_1 := blk_frozen BK278.out 1
               have hfz75_2 := blk_frozen BK278.out 2
               have hfz75_3 := blk_frozen BK278.out 3
               have hfz75_4 := blk_frozen BK278.out 4
               have hfz75_5 := blk_frozen BK278.out 5
               have hfz75_6 := blk_frozen BK278.out 6
               go_wp2_with (first | ((with_reducible refine gate_callee (f := 60) rfl ?_); refine goesL_ (some 94) rfl rfl Try.func60 (by kernel_rfl) rfl #[.slice A0_2 l0_2.length c0_2, .int .i64 0, .int .i64 4] rfl gQ ?_; (with_reducible refine (impl_areItems.calls kj37 _ _ l0_2 0 4 false _ ?side1 ?side2 A50.out).mono ?_); (case side1 => exact cQ HR0_2.out); (case side2 => exact HC0_2.out); rintro e w76 ⟨rfl, hb⟩; refine ⟨_, rfl, ?_⟩; have n0_ := aM (blk_below (g := gb278) (o := .cells #[.int .i64 a0_0, .string a0_1, .slice A0_2 l0_2.length c0_2, .slice A0_3 l0_3.length c0_3, .slice A0_4 l0_4.length c0_4, .slice A0_5 l0_5.length c0_5, .int .i64 a0_6] 39 (0, 0)) (by (with_reducible repeat (first | refine blk_drewN ?_ _ | refine blk_drew ?_ | refine blk_alloc ?_ _)); exact BK278.out) hb); have n1_ := aM (below_step (by repeat (first | (with_reducible first | exact HB.out | apply bA | apply bN | apply bD | refine below_set ?_ GE278.out) | exact HB.out)) hb); clear BK278; clear HB; have BK278 := n0_; have HB := n1_; clear n0_ n1_; (try clear hb); (try clear hb2); (try clear hk); (try clear hi)))
               go_ret
               exact ⟨eQ, by repeat (first | (with_reducible first | exact HB.out | apply bA | apply bN | apply bD | refine below_set ?_ GE278.out) | exact HB.out)⟩
             ·rw [if_neg c49] at H
              have c49b0 : (a0_0 == 3) = false := beq_eq_false_iff_ne.mpr c49
              have c49b1 : (a0_0 != 3) = true := bne_iff_ne.mpr c49
              by_cases c77 : a0_0 = 5
              ·rw [if_pos c77] at H
               have c77b0 : (a0_0 == 5) = true := beq_iff_eq.mpr c77
               have c77b1 : (a0_0 != 5) = false := bne_eq_false_iff_eq.mpr c77
               clear c77
               replace H := Option.bind_eq_some_iff.mp H
               obtain ⟨t285, A780, H⟩ := H
               replace H : (if t285 = true then (if a0_6 ≥ (-262144) then (some (decide (a0_6 ≤ 262144))) else (some false)) else (some false)) = some r := H
               have A78 := aM A780
               clear A780
               by_cases c79 : t285 = true
               ·subst c79
                have H1 : (if a0_6 ≥ (-262144) then (some (decide (a0_6 ≤ 262144))) else (some false)) = some r := by rw [if_pos rfl] at H; exact H
                clear H
                have H := H1
                clear H1
                by_cases c80 : a0_6 ≥ (-262144)
                ·rw [if_pos c80] at H
                 have c80b0 : decide ((-262144) ≤ a0_6) = true := decide_eq_true c80
                 clear c80
                 obtain rfl := Option.some.inj H
                 have hcz81_0 : wc.cell? ⟨gb278, 0, none⟩ = some (.int .i64 a0_0) := (blk_cell BK278.out 0).trans rfl
                 have hcz81_1 : wc.cell? ⟨gb278, 1, none⟩ = some (.string a0_1) := (blk_cell BK278.out 1).trans rfl
                 have hcz81_2 : wc.cell? ⟨gb278, 2, none⟩ = some (.slice A0_2 l0_2.length c0_2) := (blk_cell BK278.out 2).trans rfl
                 have hcz81_3 : wc.cell? ⟨gb278, 3, none⟩ = some (.slice A0_3 l0_3.length c0_3) := (blk_cell BK278.out 3).trans rfl
                 have hcz81_4 : wc.cell? ⟨gb278, 4, none⟩ = some (.slice A0_4 l0_4.length c0_4) := (blk_cell BK278.out 4).trans rfl
                 have hcz81_5 : wc.cell? ⟨gb278, 5, none⟩ = some (.slice A0_5 l0_5.length c0_5) := (blk_cell BK278.out 5).trans rfl
                 have hcz81_6 : wc.cell? ⟨gb278, 6, none⟩ = some (.int .i64 a0_6) := (blk_cell BK278.out 6).trans rfl
                 have hfz81_0 := blk_frozen BK278.out 0
                 have hfz81_1 := blk_frozen BK278.out 1
                 have hfz81_2 := blk_frozen BK278.out 2
                 have hfz81_3 := blk_frozen BK278.out 3
                 have hfz81_4 := blk_frozen BK278.out 4
                 have hfz81_5 := blk_frozen BK278.out 5
                 have hfz81_6 := blk_frozen BK278.out 6
                 go_wp2_with (first | ((with_reducible refine gate_callee (f := 60) rfl ?_); refine goesL_ (some 114) rfl rfl Try.func60 (by kernel_rfl) rfl #[.slice A0_3 l0_3.length c0_3, .int .i64 2, .int .i64 2] rfl gQ ?_; (with_reducible refine (impl_areItems.calls kj37 _ _ l0_3 2 2 true _ ?side1 ?side2 A78.out).mono ?_); (case side1 => exact cQ HR0_3.out); (case side2 => exact HC0_3.out); rintro e w82 ⟨rfl, hb⟩; refine ⟨_, rfl, ?_⟩; have n0_ := aM (blk_below (g := gb278) (o := .cells #[.int .i64 a0_0, .string a0_1, .slice A0_2 l0_2.length c0_2, .slice A0_3 l0_3.length c0_3, .slice A0_4 l0_4.length c0_4, .slice A0_5 l0_5.length c0_5, .int .i64 a0_6] 39 (0, 0)) (by (with_reducible repeat (first | refine blk_drewN ?_ _ | refine blk_drew ?_ | refine blk_alloc ?_ _)); exact BK278.out) hb); have n1_ := aM (below_step (by repeat (first | (with_reducible first | exact HB.out | apply bA | apply bN | apply bD | refine below_set ?_ GE278.out) | exact HB.out)) hb); clear BK278; clear HB; have BK278 := n0_; have HB := n1_; clear n0_ n1_; (try clear hb); (try clear hb2); (try clear hk); (try clear hi); have hcz83_0 : w82.cell? ⟨gb278, 0, none⟩ = some (.int .i64 a0_0) := (blk_cell BK278.out 0).trans rfl; have hcz83_1 : w82.cell? ⟨gb278, 1, none⟩ = some (.string a0_1) := (blk_cell BK278.out 1).trans rfl; have hcz83_2 : w82.cell? ⟨gb278, 2, none⟩ = some (.slice A0_2 l0_2.length c0_2) := (blk_cell BK278.out 2).trans rfl; have hcz83_3 : w82.cell? ⟨gb278, 3, none⟩ = some (.slice A0_3 l0_3.length c0_3) := (blk_cell BK278.out 3).trans rfl; have hcz83_4 : w82.cell? ⟨gb278, 4, none⟩ = some (.slice A0_4 l0_4.length c0_4) := (blk_cell BK278.out 4).trans rfl; have hcz83_5 : w82.cell? ⟨gb278, 5, none⟩ = some (.slice A0_5 l0_5.length c0_5) := (blk_cell BK278.out 5).trans rfl; have hcz83_6 : w82.cell? ⟨gb278, 6, none⟩ = some (.int .i64 a0_6) := (blk_cell BK278.out 6).trans rfl; have hfz83_0 := blk_frozen BK278.out 0; have hfz83_1 := blk_frozen BK278.out 1; have hfz83_2 := blk_frozen BK278.out 2; have hfz83_3 := blk_frozen BK278.out 3; have hfz83_4 := blk_frozen BK278.out 4; have hfz83_5 := blk_frozen BK278.out 5; have hfz83_6 := blk_frozen BK278.out 6))
                 go_ret
                 exact ⟨eQ, by repeat (first | (with_reducible first | exact HB.out | apply bA | apply bN | apply bD | refine below_set ?_ GE278.out) | exact HB.out)⟩
                ·rw [if_neg c80] at H
                 have c80b0 : decide ((-262144) ≤ a0_6) = false := decide_eq_false c80
                 clear c80
                 obtain rfl := Option.some.inj H
                 have hcz84_0 : wc.cell? ⟨gb278, 0, none⟩ = some (.int .i64 a0_0) := (blk_cell BK278.out 0).trans rfl
                 have hcz84_1 : wc.cell? ⟨gb278, 1, none⟩ = some (.string a0_1) := (blk_cell BK278.out 1).trans rfl
                 have hcz84_2 : wc.cell? ⟨gb278, 2, none⟩ = some (.slice A0_2 l0_2.length c0_2) := (blk_cell BK278.out 2).trans rfl
                 have hcz84_3 : wc.cell? ⟨gb278, 3, none⟩ = some (.slice A0_3 l0_3.length c0_3) := (blk_cell BK278.out 3).trans rfl
                 have hcz84_4 : wc.cell? ⟨gb278, 4, none⟩ = some (.slice A0_4 l0_4.length c0_4) := (blk_cell BK278.out 4).trans rfl
                 have hcz84_5 : wc.cell? ⟨gb278, 5, none⟩ = some (.slice A0_5 l0_5.length c0_5) := (blk_cell BK278.out 5).trans rfl
                 have hcz84_6 : wc.cell? ⟨gb278, 6, none⟩ = some (.int .i64 a0_6) := (blk_cell BK278.out 6).trans rfl
                 have hfz84_0 := blk_frozen BK278.out 0
                 have hfz84_1 := blk_frozen BK278.out 1
                 have hfz84_2 := blk_frozen BK278.out 2
                 have hfz84_3 := blk_frozen BK278.out 3
                 have hfz84_4 := blk_frozen BK278.out 4
                 have hfz84_5 := blk_frozen BK278.out 5
                 have hfz84_6 := blk_frozen BK278.out 6
                 go_wp2_with (first | ((with_reducible refine gate_callee (f := 60) rfl ?_); refine goesL_ (some 114) rfl rfl Try.func60 (by kernel_rfl) rfl #[.slice A0_3 l0_3.length c0_3, .int .i64 2, .int .i64 2] rfl gQ ?_; (with_reducible refine (impl_areItems.calls kj37 _ _ l0_3 2 2 true _ ?side1 ?side2 A78.out).mono ?_); (case side1 => exact cQ HR0_3.out); (case side2 => exact HC0_3.out); rintro e w85 ⟨rfl, hb⟩; refine ⟨_, rfl, ?_⟩; have n0_ := aM (blk_below (g := gb278) (o := .cells #[.int .i64 a0_0, .string a0_1, .slice A0_2 l0_2.length c0_2, .slice A0_3 l0_3.length c0_3, .slice A0_4 l0_4.length c0_4, .slice A0_5 l0_5.length c0_5, .int .i64 a0_6] 39 (0, 0)) (by (with_reducible repeat (first | refine blk_drewN ?_ _ | refine blk_drew ?_ | refine blk_alloc ?_ _)); exact BK278.out) hb); have n1_ := aM (below_step (by repeat (first | (with_reducible first | exact HB.out | apply bA | apply bN | apply bD | refine below_set ?_ GE278.out) | exact HB.out)) hb); clear BK278; clear HB; have BK278 := n0_; have HB := n1_; clear n0_ n1_; (try clear hb); (try clear hb2); (try clear hk); (try clear hi); have hcz86_0 : w85.cell? ⟨gb278, 0, none⟩ = some (.int .i64 a0_0) := (blk_cell BK278.out 0).trans rfl; have hcz86_1 : w85.cell? ⟨gb278, 1, none⟩ = some (.string a0_1) := (blk_cell BK278.out 1).trans rfl; have hcz86_2 : w85.cell? ⟨gb278, 2, none⟩ = some (.slice A0_2 l0_2.length c0_2) := (blk_cell BK278.out 2).trans rfl; have hcz86_3 : w85.cell? ⟨gb278, 3, none⟩ = some (.slice A0_3 l0_3.length c0_3) := (blk_cell BK278.out 3).trans rfl; have hcz86_4 : w85.cell? ⟨gb278, 4, none⟩ = some (.slice A0_4 l0_4.length c0_4) := (blk_cell BK278.out 4).trans rfl; have hcz86_5 : w85.cell? ⟨gb278, 5, none⟩ = some (.slice A0_5 l0_5.length c0_5) := (blk_cell BK278.out 5).trans rfl; have hcz86_6 : w85.cell? ⟨gb278, 6, none⟩ = some (.int .i64 a0_6) := (blk_cell BK278.out 6).trans rfl; have hfz86_0 := blk_frozen BK278.out 0; have hfz86_1 := blk_frozen BK278.out 1; have hfz86_2 := blk_frozen BK278.out 2; have hfz86_3 := blk_frozen BK278.out 3; have hfz86_4 := blk_frozen BK278.out 4; have hfz86_5 := blk_frozen BK278.out 5; have hfz86_6 := blk_frozen BK278.out 6))
                 go_ret
                 exact ⟨eQ, by repeat (first | (with_reducible first | exact HB.out | apply bA | apply bN | apply bD | refine below_set ?_ GE278.out) | exact HB.out)⟩
               ·replace c79 := Bool.eq_false_iff.mpr c79
                subst c79
                have H1 : (some false) = some r := by rw [if_neg (show ¬ (false = true) by decide)] at H; exact H
                clear H
                have H := H1
                clear H1
                obtain rfl := Option.some.inj H
                have hcz87_0 : wc.cell? ⟨gb278, 0, none⟩ = some (.int .i64 a0_0) := (blk_cell BK278.out 0).trans rfl
                have hcz87_1 : wc.cell? ⟨gb278, 1, none⟩ = some (.string a0_1) := (blk_cell BK278.out 1).trans rfl
                have hcz87_2 : wc.cell? ⟨gb278, 2, none⟩ = some (.slice A0_2 l0_2.length c0_2) := (blk_cell BK278.out 2).trans rfl
                have hcz87_3 : wc.cell? ⟨gb278, 3, none⟩ = some (.slice A0_3 l0_3.length c0_3) := (blk_cell BK278.out 3).trans rfl
                have hcz87_4 : wc.cell? ⟨gb278, 4, none⟩ = some (.slice A0_4 l0_4.length c0_4) := (blk_cell BK278.out 4).trans rfl
                have hcz87_5 : wc.cell? ⟨gb278, 5, none⟩ = some (.slice A0_5 l0_5.length c0_5) := (blk_cell BK278.out 5).trans rfl
                have hcz87_6 : wc.cell? ⟨gb278, 6, none⟩ = some (.int .i64 a0_6) := (blk_cell BK278.out 6).trans rfl
                have hfz87_0 := blk_frozen BK278.out 0
                have hfz87_1 := blk_frozen BK278.out 1
                have hfz87_2 := blk_frozen BK278.out 2
                have hfz87_3 := blk_frozen BK278.out 3
                have hfz87_4 := blk_frozen BK278.out 4
                have hfz87_5 := blk_frozen BK278.out 5
                have hfz87_6 := blk_frozen BK278.out 6
                go_wp2_with (first | ((with_reducible refine gate_callee (f := 60) rfl ?_); refine goesL_ (some 114) rfl rfl Try.func60 (by kernel_rfl) rfl #[.slice A0_3 l0_3.length c0_3, .int .i64 2, .int .i64 2] rfl gQ ?_; (with_reducible refine (impl_areItems.calls kj37 _ _ l0_3 2 2 false _ ?side1 ?side2 A78.out).mono ?_); (case side1 => exact cQ HR0_3.out); (case side2 => exact HC0_3.out); rintro e w88 ⟨rfl, hb⟩; refine ⟨_, rfl, ?_⟩; have n0_ := aM (blk_below (g := gb278) (o := .cells #[.int .i64 a0_0, .string a0_1, .slice A0_2 l0_2.length c0_2, .slice A0_3 l0_3.length c0_3, .slice A0_4 l0_4.length c0_4, .slice A0_5 l0_5.length c0_5, .int .i64 a0_6] 39 (0, 0)) (by (with_reducible repeat (first | refine blk_drewN ?_ _ | refine blk_drew ?_ | refine blk_alloc ?_ _)); exact BK278.out) hb); have n1_ := aM (below_step (by repeat (first | (with_reducible first | exact HB.out | apply bA | apply bN | apply bD | refine below_set ?_ GE278.out) | exact HB.out)) hb); clear BK278; clear HB; have BK278 := n0_; have HB := n1_; clear n0_ n1_; (try clear hb); (try clear hb2); (try clear hk); (try clear hi)))
                go_ret
                exact ⟨eQ, by repeat (first | (with_reducible first | exact HB.out | apply bA | apply bN | apply bD | refine below_set ?_ GE278.out) | exact HB.out)⟩
              ·rw [if_neg c77] at H
               have c77b0 : (a0_0 == 5) = false := beq_eq_false_iff_ne.mpr c77
               have c77b1 : (a0_0 != 5) = true := bne_iff_ne.mpr c77
               by_cases c89 : a0_0 = 6
               ·rw [if_pos c89] at H
                have c89b0 : (a0_0 == 6) = true := beq_iff_eq.mpr c89
                have c89b1 : (a0_0 != 6) = false := bne_eq_false_iff_eq.mpr c89
                clear c89
                replace H := Option.bind_eq_some_iff.mp H
                obtain ⟨t286, A900, H⟩ := H
                replace H : (some t286) = some r := H
                have A90 := aM A900
                clear A900
                obtain rfl := Option.some.inj H
                have hcz91_0 : wc.cell? ⟨gb278, 0, none⟩ = some (.int .i64 a0_0) := (blk_cell BK278.out 0).trans rfl
                have hcz91_1 : wc.cell? ⟨gb278, 1, none⟩ = some (.string a0_1) := (blk_cell BK278.out 1).trans rfl
                have hcz91_2 : wc.cell? ⟨gb278, 2, none⟩ = some (.slice A0_2 l0_2.length c0_2) := (blk_cell BK278.out 2).trans rfl
                have hcz91_3 : wc.cell? ⟨gb278, 3, none⟩ = some (.slice A0_3 l0_3.length c0_3) := (blk_cell BK278.out 3).trans rfl
                have hcz91_4 : wc.cell? ⟨gb278, 4, none⟩ = some (.slice A0_4 l0_4.length c0_4) := (blk_cell BK278.out 4).trans rfl
                have hcz91_5 : wc.cell? ⟨gb278, 5, none⟩ = some (.slice A0_5 l0_5.length c0_5) := (blk_cell BK278.out 5).trans rfl
                have hcz91_6 : wc.cell? ⟨gb278, 6, none⟩ = some (.int .i64 a0_6) := (blk_cell BK278.out 6).trans rfl
                have hfz91_0 := blk_frozen BK278.out 0
                have hfz91_1 := blk_frozen BK278.out 1
                have hfz91_2 := blk_frozen BK278.out 2
                have hfz91_3 := blk_frozen BK278.out 3
                have hfz91_4 := blk_frozen BK278.out 4
                have hfz91_5 := blk_frozen BK278.out 5
                have hfz91_6 := blk_frozen BK278.out 6
                go_wp2_with (first | ((with_reducible refine gate_callee (f := 60) rfl ?_); refine goesL_ (some 129) rfl rfl Try.func60 (by kernel_rfl) rfl #[.slice A0_3 l0_3.length c0_3, .int .i64 2, .int .i64 2] rfl gQ ?_; (with_reducible refine (impl_areItems.calls kj37 _ _ l0_3 2 2 t286 _ ?side1 ?side2 A90.out).mono ?_); (case side1 => exact cQ HR0_3.out); (case side2 => exact HC0_3.out); rintro e w92 ⟨rfl, hb⟩; refine ⟨_, rfl, ?_⟩; have n0_ := aM (blk_below (g := gb278) (o := .cells #[.int .i64 a0_0, .string a0_1, .slice A0_2 l0_2.length c0_2, .slice A0_3 l0_3.length c0_3, .slice A0_4 l0_4.length c0_4, .slice A0_5 l0_5.length c0_5, .int .i64 a0_6] 39 (0, 0)) (by (with_reducible repeat (first | refine blk_drewN ?_ _ | refine blk_drew ?_ | refine blk_alloc ?_ _)); exact BK278.out) hb); have n1_ := aM (below_step (by repeat (first | (with_reducible first | exact HB.out | apply bA | apply bN | apply bD | refine below_set ?_ GE278.out) | exact HB.out)) hb); clear BK278; clear HB; have BK278 := n0_; have HB := n1_; clear n0_ n1_; (try clear hb); (try clear hb2); (try clear hk); (try clear hi)))
                go_ret
                exact ⟨eQ, by repeat (first | (with_reducible first | exact HB.out | apply bA | apply bN | apply bD | refine below_set ?_ GE278.out) | exact HB.out)⟩
               ·rw [if_neg c89] at H
                have c89b0 : (a0_0 == 6) = false := beq_eq_false_iff_ne.mpr c89
                have c89b1 : (a0_0 != 6) = true := bne_iff_ne.mpr c89
                by_cases c93 : a0_0 = 7
                ·rw [if_pos c93] at H
                 have c93b0 : (a0_0 == 7) = true := beq_iff_eq.mpr c93
                 have c93b1 : (a0_0 != 7) = false := bne_eq_false_iff_eq.mpr c93
                 clear c93
                 by_cases c94 : (l0_3.length : Int) = 0
                 ·rw [if_pos c94] at H
                  have c94b0 : ((l0_3.length : Int) == 0) = true := beq_iff_eq.mpr c94
                  have c94b1 : ((l0_3.length : Int) != 0) = false := bne_eq_false_iff_eq.mpr c94
                  clear c94
                  replace H := Option.bind_eq_some_iff.mp H
                  obtain ⟨t287, A950, H⟩ := H
                  replace H : (some t287) = some r := H
                  have A95 := aM A950
                  clear A950
                  obtain rfl := Option.some.inj H
                  have hcz96_0 : wc.cell? ⟨gb278, 0, none⟩ = some (.int .i64 a0_0) := (blk_cell BK278.out 0).trans rfl
                  have hcz96_1 : wc.cell? ⟨gb278, 1, none⟩ = some (.string a0_1) := (blk_cell BK278.out 1).trans rfl
                  have hcz96_2 : wc.cell? ⟨gb278, 2, none⟩ = some (.slice A0_2 l0_2.length c0_2) := (blk_cell BK278.out 2).trans rfl
                  have hcz96_3 : wc.cell? ⟨gb278, 3, none⟩ = some (.slice A0_3 l0_3.length c0_3) := (blk_cell BK278.out 3).trans rfl
                  have hcz96_4 : wc.cell? ⟨gb278, 4, none⟩ = some (.slice A0_4 l0_4.length c0_4) := (blk_cell BK278.out 4).trans rfl
                  have hcz96_5 : wc.cell? ⟨gb278, 5, none⟩ = some (.slice A0_5 l0_5.length c0_5) := (blk_cell BK278.out 5).trans rfl
                  have hcz96_6 : wc.cell? ⟨gb278, 6, none⟩ = some (.int .i64 a0_6) := (blk_cell BK278.out 6).trans rfl
                  have hfz96_0 := blk_frozen BK278.out 0
                  have hfz96_1 := blk_frozen BK278.out 1
                  have hfz96_2 := blk_frozen BK278.out 2
                  have hfz96_3 := blk_frozen BK278.out 3
                  have hfz96_4 := blk_frozen BK278.out 4
                  have hfz96_5 := blk_frozen BK278.out 5
                  have hfz96_6 := blk_frozen BK278.out 6
                  go_wp2_with (first | (go_at_call 61; (with_reducible refine (impl_validJoinLine.calls kj37 a0_0 a0_1 _ _ l0_2 _ _ l0_3 _ _ l0_4 _ _ l0_5 a0_6 t287 _ ?side1 ?side2 ?side3 ?side4 ?side5 ?side6 ?side7 ?side8 A95.out).mono ?_); (case side1 => exact cQ HR0_2.out); (case side2 => exact HC0_2.out); (case side3 => exact cQ HR0_3.out); (case side4 => exact HC0_3.out); (case side5 => exact cQ HR0_4.out); (case side6 => exact HC0_4.out); (case side7 => exact cQ HR0_5.out); (case side8 => exact HC0_5.out); rintro e w97 ⟨rfl, hb⟩; have n0_ := aM (blk_below (g := gb278) (o := .cells #[.int .i64 a0_0, .string a0_1, .slice A0_2 l0_2.length c0_2, .slice A0_3 l0_3.length c0_3, .slice A0_4 l0_4.length c0_4, .slice A0_5 l0_5.length c0_5, .int .i64 a0_6] 39 (0, 0)) (by (with_reducible repeat (first | refine blk_drewN ?_ _ | refine blk_drew ?_ | refine blk_alloc ?_ _)); exact BK278.out) hb); have n1_ := aM (below_step (by repeat (first | (with_reducible first | exact HB.out | apply bA | apply bN | apply bD | refine below_set ?_ GE278.out) | exact HB.out)) hb); clear BK278; clear HB; have BK278 := n0_; have HB := n1_; clear n0_ n1_; (try clear hb); (try clear hb2); (try clear hk); (try clear hi)))
                  go_ret
                  exact ⟨eQ, by repeat (first | (with_reducible first | exact HB.out | apply bA | apply bN | apply bD | refine below_set ?_ GE278.out) | exact HB.out)⟩
                 ·rw [if_neg c94] at H
                  have c94b0 : ((l0_3.length : Int) == 0) = false := beq_eq_false_iff_ne.mpr c94
                  have c94b1 : ((l0_3.length : Int) != 0) = true := bne_iff_ne.mpr c94
                  have c94b2 : ¬ (l0_3 = []) := fun h_ => c94 (by rw [h_]; rfl)
                  obtain rfl := Option.some.inj H
                  have hcz98_0 : wc.cell? ⟨gb278, 0, none⟩ = some (.int .i64 a0_0) := (blk_cell BK278.out 0).trans rfl
                  have hcz98_1 : wc.cell? ⟨gb278, 1, none⟩ = some (.string a0_1) := (blk_cell BK278.out 1).trans rfl
                  have hcz98_2 : wc.cell? ⟨gb278, 2, none⟩ = some (.slice A0_2 l0_2.length c0_2) := (blk_cell BK278.out 2).trans rfl
                  have hcz98_3 : wc.cell? ⟨gb278, 3, none⟩ = some (.slice A0_3 l0_3.length c0_3) := (blk_cell BK278.out 3).trans rfl
                  have hcz98_4 : wc.cell? ⟨gb278, 4, none⟩ = some (.slice A0_4 l0_4.length c0_4) := (blk_cell BK278.out 4).trans rfl
                  have hcz98_5 : wc.cell? ⟨gb278, 5, none⟩ = some (.slice A0_5 l0_5.length c0_5) := (blk_cell BK278.out 5).trans rfl
                  have hcz98_6 : wc.cell? ⟨gb278, 6, none⟩ = some (.int .i64 a0_6) := (blk_cell BK278.out 6).trans rfl
                  have hfz98_0 := blk_frozen BK278.out 0
                  have hfz98_1 := blk_frozen BK278.out 1
                  have hfz98_2 := blk_frozen BK278.out 2
                  have hfz98_3 := blk_frozen BK278.out 3
                  have hfz98_4 := blk_frozen BK278.out 4
                  have hfz98_5 := blk_frozen BK278.out 5
                  have hfz98_6 := blk_frozen BK278.out 6
                  go_wp2
                  go_ret
                  exact ⟨eQ, by repeat (first | (with_reducible first | exact HB.out | apply bA | apply bN | apply bD | refine below_set ?_ GE278.out) | exact HB.out)⟩
                ·rw [if_neg c93] at H
                 have c93b0 : (a0_0 == 7) = false := beq_eq_false_iff_ne.mpr c93
                 have c93b1 : (a0_0 != 7) = true := bne_iff_ne.mpr c93
                 obtain rfl := Option.some.inj H
                 have hcz99_0 : wc.cell? ⟨gb278, 0, none⟩ = some (.int .i64 a0_0) := (blk_cell BK278.out 0).trans rfl
                 have hcz99_1 : wc.cell? ⟨gb278, 1, none⟩ = some (.string a0_1) := (blk_cell BK278.out 1).trans rfl
                 have hcz99_2 : wc.cell? ⟨gb278, 2, none⟩ = some (.slice A0_2 l0_2.length c0_2) := (blk_cell BK278.out 2).trans rfl
                 have hcz99_3 : wc.cell? ⟨gb278, 3, none⟩ = some (.slice A0_3 l0_3.length c0_3) := (blk_cell BK278.out 3).trans rfl
                 have hcz99_4 : wc.cell? ⟨gb278, 4, none⟩ = some (.slice A0_4 l0_4.length c0_4) := (blk_cell BK278.out 4).trans rfl
                 have hcz99_5 : wc.cell? ⟨gb278, 5, none⟩ = some (.slice A0_5 l0_5.length c0_5) := (blk_cell BK278.out 5).trans rfl
                 have hcz99_6 : wc.cell? ⟨gb278, 6, none⟩ = some (.int .i64 a0_6) := (blk_cell BK278.out 6).trans rfl
                 have hfz99_0 := blk_frozen BK278.out 0
                 have hfz99_1 := blk_frozen BK278.out 1
                 have hfz99_2 := blk_frozen BK278.out 2
                 have hfz99_3 := blk_frozen BK278.out 3
                 have hfz99_4 := blk_frozen BK278.out 4
                 have hfz99_5 := blk_frozen BK278.out 5
                 have hfz99_6 := blk_frozen BK278.out 6
                 go_wp2
                 go_ret
                 exact ⟨eQ, by repeat (first | (with_reducible first | exact HB.out | apply bA | apply bN | apply bD | refine below_set ?_ GE278.out) | exact HB.out)⟩

end Go.Proofs.Ytfabhfdjabehpaa.QFnExactLineText
