/- What some Go functions answer, each as a Lean function, and that the machine answers so: written by a program of this session out of the translation. -/
import Derived.Test.YtdahcapolipnbaaDoorQFnExactReadClassx0
import Derived.Test.YtdahcapolipnbaaDoorQFnExactReadClassx1
namespace Go.Proofs.YtdahcapolipnbaaDoor.QFnExactReadClass
open Go.RowKit Go.Proofs.YtdahcapolipnbaaDoorW.PrintWords Go.Proofs.YtdahcapolipnbaaDoorW.PrintLast Go.Proofs.YtdahcapolipnbaaDoorW.PrintMore Go.Proofs.YtdahcapolipnbaaDoor.Rp
attribute [local go_sem] max2_int min2_int max_two min_two max_three min_three max_four min_four   -- for this text's walks alone
set_option linter.unusedVariables false
set_option linter.unusedSimpArgs false

/-! ### spec_ClassOfRanges: function 53 -/
mutual
def spec_ClassOfRanges.l0 : Nat → List (S63) → Int → Option (List Int × Int)
 | 0, _, _ => none
 | k + 1, x0, x4 => if x4 < (x0.length : Int) then (if 0 ≤ x4 then ((spec_l00In.f ((rd_T63 x0 x4).f0) 0 39).bind fun t130 => (if t130 = true then ((spec_l00In.f ((rd_T63 x0 x4).f1) ((rd_T63 x0 x4).f0) 39).bind fun t131 => (if t131 = true then (if x4 > 0 then (if 0 ≤ (wrap64 (x4 - 1)) then (if (wrap64 (x4 - 1)) < (x0.length : Int) then (if ((rd_T63 x0 x4).f0) ≤ ((rd_T63 x0 (wrap64 (x4 - 1))).f1) then (some (([] : List Int), 1)) else (spec_ClassOfRanges.l0 k x0 (wrap64 (x4 + 1)))) else (none)) else (none)) else (spec_ClassOfRanges.l0 k x0 (wrap64 (x4 + 1)))) else (some (([] : List Int), 1)))) else (some (([] : List Int), 1)))) else (none)) else (spec_ClassOfRanges.l1 k x0 (([] : List Int)) 0)
def spec_ClassOfRanges.l1 : Nat → List (S63) → List Int → Int → Option (List Int × Int)
 | 0, _, _, _ => none
 | k + 1, x0, x6, x7 => if x7 < (x0.length : Int) then (if 0 ≤ x7 then (spec_ClassOfRanges.l2 k x0 x6 x7 ((rd_T63 x0 x7).f0)) else (none)) else (some (x6, 0))
def spec_ClassOfRanges.l2 : Nat → List (S63) → List Int → Int → Int → Option (List Int × Int)
 | 0, _, _, _, _ => none
 | k + 1, x0, x6, x7, x8 => if 0 ≤ x7 then (if x7 < (x0.length : Int) then (if x8 ≤ ((rd_T63 x0 x7).f1) then (if x6.length < 17592186044416 then (spec_ClassOfRanges.l2 k x0 (x6 ++ [x8]) x7 (wrap64 (x8 + 1))) else (none)) else (spec_ClassOfRanges.l1 k x0 x6 (wrap64 (x7 + 1)))) else (none)) else (none)
end
def spec_ClassOfRanges.f (k : Nat) (l0 : List (S63)) : Option (List Int × Int) := spec_ClassOfRanges.l0 k l0 0
theorem spec_ClassOfRanges.mono_l : ∀ k, (∀ y0 y1, LeO (spec_ClassOfRanges.l0 k y0 y1) (spec_ClassOfRanges.l0 (k + 1) y0 y1)) ∧ (∀ y0 y1 y2, LeO (spec_ClassOfRanges.l1 k y0 y1 y2) (spec_ClassOfRanges.l1 (k + 1) y0 y1 y2)) ∧ (∀ y0 y1 y2 y3, LeO (spec_ClassOfRanges.l2 k y0 y1 y2 y3) (spec_ClassOfRanges.l2 (k + 1) y0 y1 y2 y3))
 | 0 => ⟨fun _ _ r h => by simp [spec_ClassOfRanges.l0] at h, fun _ _ _ r h => by simp [spec_ClassOfRanges.l1] at h, fun _ _ _ _ r h => by simp [spec_ClassOfRanges.l2] at h⟩
 | k + 1 => by
  obtain ⟨ih0, ih1, ih2⟩ := spec_ClassOfRanges.mono_l k
  refine ⟨?_, ?_, ?_⟩
  ·intro y0 y1
   unfold spec_ClassOfRanges.l0
   repeat' first
   | (with_reducible exact ih0 _ _)
   | (with_reducible exact ih1 _ _ _)
   | (with_reducible exact ih2 _ _ _ _)
   | (with_reducible exact LeO.refl _)
   | (with_reducible exact LeO.none _)
   | (with_reducible refine LeO.ite ?_ ?_)
   | (with_reducible refine LeO.bind ?_ (fun _ => ?_))
   | exact ih0 _ _
   | exact ih1 _ _ _
   | exact ih2 _ _ _ _
   | exact LeO.none _
   | refine LeO.ite ?_ ?_
   | refine LeO.bind ?_ (fun _ => ?_)
  ·intro y0 y1 y2
   unfold spec_ClassOfRanges.l1
   repeat' first
   | (with_reducible exact ih0 _ _)
   | (with_reducible exact ih1 _ _ _)
   | (with_reducible exact ih2 _ _ _ _)
   | (with_reducible exact LeO.refl _)
   | (with_reducible exact LeO.none _)
   | (with_reducible refine LeO.ite ?_ ?_)
   | (with_reducible refine LeO.bind ?_ (fun _ => ?_))
   | exact ih0 _ _
   | exact ih1 _ _ _
   | exact ih2 _ _ _ _
   | exact LeO.none _
   | refine LeO.ite ?_ ?_
   | refine LeO.bind ?_ (fun _ => ?_)
  ·intro y0 y1 y2 y3
   unfold spec_ClassOfRanges.l2
   repeat' first
   | (with_reducible exact ih0 _ _)
   | (with_reducible exact ih1 _ _ _)
   | (with_reducible exact ih2 _ _ _ _)
   | (with_reducible exact LeO.refl _)
   | (with_reducible exact LeO.none _)
   | (with_reducible refine LeO.ite ?_ ?_)
   | (with_reducible refine LeO.bind ?_ (fun _ => ?_))
   | exact ih0 _ _
   | exact ih1 _ _ _
   | exact ih2 _ _ _ _
   | exact LeO.none _
   | refine LeO.ite ?_ ?_
   | refine LeO.bind ?_ (fun _ => ?_)
theorem spec_ClassOfRanges.mono : ∀ a0 k, LeO (spec_ClassOfRanges.f k a0) (spec_ClassOfRanges.f (k + 1) a0) := by
 intro a0 k
 obtain ⟨ih0, ih1, ih2⟩ := spec_ClassOfRanges.mono_l k
 unfold spec_ClassOfRanges.f
 repeat' first
   | (with_reducible exact ih0 _ _)
   | (with_reducible exact ih1 _ _ _)
   | (with_reducible exact ih2 _ _ _ _)
   | (with_reducible exact LeO.refl _)
   | (with_reducible exact LeO.none _)
   | (with_reducible refine LeO.ite ?_ ?_)
   | (with_reducible refine LeO.bind ?_ (fun _ => ?_))
   | exact ih0 _ _
   | exact ih1 _ _ _
   | exact ih2 _ _ _ _
   | exact LeO.none _
   | refine LeO.ite ?_ ?_
   | refine LeO.bind ?_ (fun _ => ?_)
set_option maxHeartbeats 8000000 in
set_option maxRecDepth 100000 in
theorem spec_ClassOfRanges.calls (k : Nat) (A0 : Option Addr) (c0 : Nat) (l0 : List (S63)) (r1 : List Int) (r2 : Int) (w : World) (hr0 : Kd.C k63 w A0 l0.length l0) (hc0 : l0.length ≤ c0) (h : spec_ClassOfRanges.f k l0 = some (r1, r2)) :
  Calls Tryd.prog 53 #[.slice A0 l0.length c0] w fun e w' => ∃ v0_ : Value, e = .returned (.tuple #[v0_, .int .i64 r2]) ∧ Kd.R (Kd.int .i64) 2 w' w.heap.size (fun _ => True) v0_ r1 ∧ Below w.heap.size w w' := by
 have hu63 := Tryd.underlying63
 have HR0 := aM hr0
 have HC0 := aM hc0
 clear hr0 hc0
 have HB := aM (Below.refl w.heap.size w)
 have H : (spec_ClassOfRanges.l0 k l0 0) = some (r1, r2) := h
 clear h
 have H' := aM H
 clear H
 go_enter Tryd.func53, Tryd.ntmps53
 go_wp2
 repeat (go_quiet (fail); try go_wp2)
 go_loopg [4] k (fun kq v4 w' => ∃ (x4_1 : Int), v4 = .int .i64 x4_1 ∧ Aside0 (spec_ClassOfRanges.l0 kq l0 x4_1 = some (r1, r2)) ∧ Aside0 (kq ≤ k) ∧ Aside0 (Below w.heap.size w w'))
 case atStart => exact ⟨(0), rQ, H', ⟨Nat.le_refl _⟩, ⟨bQ⟩⟩
 case round =>
  clear H'
  obtain ⟨x4_1, rfl, HA, HK1, HB⟩ := hrel
  cases gk with
  | zero => exact absurd HA.out (by simp [spec_ClassOfRanges.l0])
  | succ k1 =>
   have H := HA.out
   clear HA
   simp only [spec_ClassOfRanges.l0] at H
   by_cases c2 : x4_1 < (l0.length : Int)
   ·rw [if_pos c2] at H
    have c2b0 : decide (x4_1 < (l0.length : Int)) = true := decide_eq_true c2
    clear c2
    by_cases c3 : 0 ≤ x4_1
    ·rw [if_pos c3] at H
     have c3b0 : decide (0 ≤ x4_1) = true := decide_eq_true c3
     clear c3
     replace H := Option.bind_eq_some_iff.mp H
     obtain ⟨t130, A40, H⟩ := H
     replace H : (if t130 = true then ((spec_l00In.f ((rd_T63 l0 x4_1).f1) ((rd_T63 l0 x4_1).f0) 39).bind fun t131 => (if t131 = true then (if x4_1 > 0 then (if 0 ≤ (wrap64 (x4_1 - 1)) then (if (wrap64 (x4_1 - 1)) < (l0.length : Int) then (if ((rd_T63 l0 x4_1).f0) ≤ ((rd_T63 l0 (wrap64 (x4_1 - 1))).f1) then (some (([] : List Int), 1)) else (spec_ClassOfRanges.l0 k1 l0 (wrap64 (x4_1 + 1)))) else (none)) else (none)) else (spec_ClassOfRanges.l0 k1 l0 (wrap64 (x4_1 + 1)))) else (some (([] : List Int), 1)))) else (some (([] : List Int), 1))) = some (r1, r2) := H
     have A4 := aM A40
     clear A40
     by_cases c5 : t130 = true
     ·subst c5
      have H1 : ((spec_l00In.f ((rd_T63 l0 x4_1).f1) ((rd_T63 l0 x4_1).f0) 39).bind fun t131 => (if t131 = true then (if x4_1 > 0 then (if 0 ≤ (wrap64 (x4_1 - 1)) then (if (wrap64 (x4_1 - 1)) < (l0.length : Int) then (if ((rd_T63 l0 x4_1).f0) ≤ ((rd_T63 l0 (wrap64 (x4_1 - 1))).f1) then (some (([] : List Int), 1)) else (spec_ClassOfRanges.l0 k1 l0 (wrap64 (x4_1 + 1)))) else (none)) else (none)) else (spec_ClassOfRanges.l0 k1 l0 (wrap64 (x4_1 + 1)))) else (some (([] : List Int), 1)))) = some (r1, r2) := by rw [if_pos rfl] at H; exact H
      clear H
      have H := H1
      clear H1
      replace H := Option.bind_eq_some_iff.mp H
      obtain ⟨t131, A60, H⟩ := H
      replace H : (if t131 = true then (if x4_1 > 0 then (if 0 ≤ (wrap64 (x4_1 - 1)) then (if (wrap64 (x4_1 - 1)) < (l0.length : Int) then (if ((rd_T63 l0 x4_1).f0) ≤ ((rd_T63 l0 (wrap64 (x4_1 - 1))).f1) then (some (([] : List Int), 1)) else (spec_ClassOfRanges.l0 k1 l0 (wrap64 (x4_1 + 1)))) else (none)) else (none)) else (spec_ClassOfRanges.l0 k1 l0 (wrap64 (x4_1 + 1)))) else (some (([] : List Int), 1))) = some (r1, r2) := H
      have A6 := aM A60
      clear A60
      by_cases c7 : t131 = true
      ·subst c7
       have H1 : (if x4_1 > 0 then (if 0 ≤ (wrap64 (x4_1 - 1)) then (if (wrap64 (x4_1 - 1)) < (l0.length : Int) then (if ((rd_T63 l0 x4_1).f0) ≤ ((rd_T63 l0 (wrap64 (x4_1 - 1))).f1) then (some (([] : List Int), 1)) else (spec_ClassOfRanges.l0 k1 l0 (wrap64 (x4_1 + 1)))) else (none)) else (none)) else (spec_ClassOfRanges.l0 k1 l0 (wrap64 (x4_1 + 1)))) = some (r1, r2) := by rw [if_pos rfl] at H; exact H
       clear H
       have H := H1
       clear H1
       by_cases c8 : x4_1 > 0
       ·rw [if_pos c8] at H
        have c8b0 : decide (0 < x4_1) = true := decide_eq_true c8
        clear c8
        obtain ⟨ji9, hji9⟩ : ∃ j_ : Int, (wrap64 (x4_1 - 1)) = j_ := ⟨_, rfl⟩
        replace H : (if 0 ≤ (ji9) then (if (ji9) < (l0.length : Int) then (if ((rd_T63 l0 x4_1).f0) ≤ ((rd_T63 l0 (ji9)).f1) then (some (([] : List Int), 1)) else (spec_ClassOfRanges.l0 k1 l0 (wrap64 (x4_1 + 1)))) else (none)) else (none)) = some (r1, r2) := by first | (rw [hji9] at H; exact H) | (simp only [hji9] at H ⊢; exact H)
        (try rw [hji9] at A4)
        (try rw [hji9] at A6)
        have hji9w : (IntKind.i64.wrap (x4_1 - 1)) = ji9 := (i64_w _).trans hji9
        by_cases c10 : 0 ≤ (ji9)
        ·rw [if_pos c10] at H
         have c10b0 : decide (0 ≤ (ji9)) = true := decide_eq_true c10
         clear c10
         by_cases c11 : (ji9) < (l0.length : Int)
         ·rw [if_pos c11] at H
          have c11b0 : decide ((ji9) < (l0.length : Int)) = true := decide_eq_true c11
          clear c11
          by_cases c12 : ((rd_T63 l0 x4_1).f0) ≤ ((rd_T63 l0 (ji9)).f1)
          ·rw [if_pos c12] at H
           have c12b0 : decide (((rd_T63 l0 x4_1).f0) ≤ ((rd_T63 l0 (ji9)).f1)) = true := decide_eq_true c12
           clear c12
           simp only [Option.some.injEq, Prod.mk.injEq] at H
           obtain ⟨rfl, rfl⟩ := H
           have p128 : 0 ≤ (x4_1 : Int) := dA
           have q128 : x4_1 < (l0.length : Int) := dA
           obtain ⟨ad128, e128, hx128_0, hx128_1⟩ := at_T63 HR0.out x4_1 p128 q128
           cases e128
           replace hx128_0 := cB HB.out hx128_0
           replace hx128_1 := cB HB.out hx128_1
           replace p128 := eq_true p128
           replace q128 := eq_true q128
           go_wp2_with (first | ((with_reducible refine gate_dst (N := 5) rfl ?_); refine box_event ?hg (N := 5) ?hd (cs := #[.int .i64 0, .int .i64 0]) (t := 63) ?hr ?_; (case hd => rfl); (case hg => rfl); (case hr => first | (go_simp; done) | (go_simp; rfl)); intro gb129 hg w13 hbox hb; have n0_ := aM (below_step bQ hb); have n1_ := aM (hbox); have n2_ := aM ((by rw [hg]; exact (below_size bQ) : w.heap.size ≤ gb129)); have n3_ := aM ((by rw [hg]; exact (below_size bQ) : w.heap.size ≤ gb129)); clear HB; have HB := n0_; have BK129 := n1_; have GW129 := n2_; have GE129 := n3_; clear n0_ n1_ n2_ n3_; clear hb hbox hg; have hcz14_0 : w13.cell? ⟨gb129, 0, none⟩ = some (.int .i64 0) := (blk_cell BK129.out 0).trans rfl; have hcz14_1 : w13.cell? ⟨gb129, 1, none⟩ = some (.int .i64 0) := (blk_cell BK129.out 1).trans rfl; have hfz14_0 := blk_frozen BK129.out 0; have hfz14_1 := blk_frozen BK129.out 1) | (go_at_call 79; (with_reducible refine (spec_l00In.calls ((rd_T63 l0 x4_1).f0) 0 39 true _ A4.out).mono ?_); rintro e w' ⟨rfl, ⟨nd, rfl⟩⟩; (try first | exact ⟨rfl, _, World.drewN_drewN _ _ _⟩ | exact ⟨rfl, _, Eq.trans (World.drewN_drewN _ _ _) (congrArg (World.drewN _) (Nat.add_assoc _ _ _))⟩)) | (go_at_call 79; (with_reducible refine (spec_l00In.calls ((rd_T63 l0 x4_1).f1) ((rd_T63 l0 x4_1).f0) 39 true _ A6.out).mono ?_); rintro e w' ⟨rfl, ⟨nd, rfl⟩⟩; (try first | exact ⟨rfl, _, World.drewN_drewN _ _ _⟩ | exact ⟨rfl, _, Eq.trans (World.drewN_drewN _ _ _) (congrArg (World.drewN _) (Nat.add_assoc _ _ _))⟩); have p132 : 0 ≤ ((ji9) : Int) := dA; have q132 : (ji9) < (l0.length : Int) := dA; obtain ⟨ad132, e132, hx132_0, hx132_1⟩ := at_T63 HR0.out (ji9) p132 q132; obtain rfl : ad128 = ad132 := (by injection e132); have hn132_0 : ad128.block ≠ gb129 := Nat.ne_of_lt (Nat.lt_of_lt_of_le (by have := World.block_lt_of_cell? _ _ hx132_0; first | rwa [add_block] at this | exact this) GW129.out); have hn132_1 : ad128.block ≠ gb129 := Nat.ne_of_lt (Nat.lt_of_lt_of_le (by have := World.block_lt_of_cell? _ _ hx132_0; first | rwa [add_block] at this | exact this) GW129.out); replace hx132_0 := cB HB.out hx132_0; replace hx132_1 := cB HB.out hx132_1; replace hx132_0 := (cell_far (p := ⟨gb129, 0, none⟩) (by first | (rw [add_block]; exact hn132_0) | (show (Addr.add _ _).block ≠ _; rw [add_block]; exact hn132_0) | exact hn132_0) (.int .i64 ((rd_T63 l0 x4_1).f0))).trans hx132_0; replace hx132_1 := (cell_far (p := ⟨gb129, 0, none⟩) (by first | (rw [add_block]; exact hn132_0) | (show (Addr.add _ _).block ≠ _; rw [add_block]; exact hn132_0) | exact hn132_0) (.int .i64 ((rd_T63 l0 x4_1).f0))).trans hx132_1; replace hx132_0 := (cell_far (p := ⟨gb129, 1, none⟩) (by first | (rw [add_block]; exact hn132_1) | (show (Addr.add _ _).block ≠ _; rw [add_block]; exact hn132_1) | exact hn132_1) (.int .i64 ((rd_T63 l0 x4_1).f1))).trans hx132_0; replace hx132_1 := (cell_far (p := ⟨gb129, 1, none⟩) (by first | (rw [add_block]; exact hn132_1) | (show (Addr.add _ _).block ≠ _; rw [add_block]; exact hn132_1) | exact hn132_1) (.int .i64 ((rd_T63 l0 x4_1).f1))).trans hx132_1; (try have hy132_0 := fun (n_ : Nat) => (show ((((w13.drewN n_).setCell ⟨gb129, 0, none⟩ (.int .i64 ((rd_T63 l0 x4_1).f0))).setCell ⟨gb129, 1, none⟩ (.int .i64 ((rd_T63 l0 x4_1).f1)))).cell? _ = some _ from hx132_0)); (try have hy132_1 := fun (n_ : Nat) => (show ((((w13.drewN n_).setCell ⟨gb129, 0, none⟩ (.int .i64 ((rd_T63 l0 x4_1).f0))).setCell ⟨gb129, 1, none⟩ (.int .i64 ((rd_T63 l0 x4_1).f1)))).cell? _ = some _ from hx132_1)); clear hn132_0; clear hn132_1; replace p132 := eq_true p132; replace q132 := eq_true q132))
           repeat (go_quiet (first | ((with_reducible refine gate_dst (N := 5) rfl ?_); refine box_event ?hg (N := 5) ?hd (cs := #[.int .i64 0, .int .i64 0]) (t := 63) ?hr ?_; (case hd => rfl); (case hg => rfl); (case hr => first | (go_simp; done) | (go_simp; rfl)); intro gb129 hg w13 hbox hb; have n0_ := aM (below_step bQ hb); have n1_ := aM (hbox); have n2_ := aM ((by rw [hg]; exact (below_size bQ) : w.heap.size ≤ gb129)); have n3_ := aM ((by rw [hg]; exact (below_size bQ) : w.heap.size ≤ gb129)); clear HB; have HB := n0_; have BK129 := n1_; have GW129 := n2_; have GE129 := n3_; clear n0_ n1_ n2_ n3_; clear hb hbox hg; have hcz14_0 : w13.cell? ⟨gb129, 0, none⟩ = some (.int .i64 0) := (blk_cell BK129.out 0).trans rfl; have hcz14_1 : w13.cell? ⟨gb129, 1, none⟩ = some (.int .i64 0) := (blk_cell BK129.out 1).trans rfl; have hfz14_0 := blk_frozen BK129.out 0; have hfz14_1 := blk_frozen BK129.out 1) | (go_at_call 79; (with_reducible refine (spec_l00In.calls ((rd_T63 l0 x4_1).f0) 0 39 true _ A4.out).mono ?_); rintro e w' ⟨rfl, ⟨nd, rfl⟩⟩; (try first | exact ⟨rfl, _, World.drewN_drewN _ _ _⟩ | exact ⟨rfl, _, Eq.trans (World.drewN_drewN _ _ _) (congrArg (World.drewN _) (Nat.add_assoc _ _ _))⟩)) | (go_at_call 79; (with_reducible refine (spec_l00In.calls ((rd_T63 l0 x4_1).f1) ((rd_T63 l0 x4_1).f0) 39 true _ A6.out).mono ?_); rintro e w' ⟨rfl, ⟨nd, rfl⟩⟩; (try first | exact ⟨rfl, _, World.drewN_drewN _ _ _⟩ | exact ⟨rfl, _, Eq.trans (World.drewN_drewN _ _ _) (congrArg (World.drewN _) (Nat.add_assoc _ _ _))⟩); have p132 : 0 ≤ ((ji9) : Int) := dA; have q132 : (ji9) < (l0.length : Int) := dA; obtain ⟨ad132, e132, hx132_0, hx132_1⟩ := at_T63 HR0.out (ji9) p132 q132; obtain rfl : ad128 = ad132 := (by injection e132); have hn132_0 : ad128.block ≠ gb129 := Nat.ne_of_lt (Nat.lt_of_lt_of_le (by have := World.block_lt_of_cell? _ _ hx132_0; first | rwa [add_block] at this | exact this) GW129.out); have hn132_1 : ad128.block ≠ gb129 := Nat.ne_of_lt (Nat.lt_of_lt_of_le (by have := World.block_lt_of_cell? _ _ hx132_0; first | rwa [add_block] at this | exact this) GW129.out); replace hx132_0 := cB HB.out hx132_0; replace hx132_1 := cB HB.out hx132_1; replace hx132_0 := (cell_far (p := ⟨gb129, 0, none⟩) (by first | (rw [add_block]; exact hn132_0) | (show (Addr.add _ _).block ≠ _; rw [add_block]; exact hn132_0) | exact hn132_0) (.int .i64 ((rd_T63 l0 x4_1).f0))).trans hx132_0; replace hx132_1 := (cell_far (p := ⟨gb129, 0, none⟩) (by first | (rw [add_block]; exact hn132_0) | (show (Addr.add _ _).block ≠ _; rw [add_block]; exact hn132_0) | exact hn132_0) (.int .i64 ((rd_T63 l0 x4_1).f0))).trans hx132_1; replace hx132_0 := (cell_far (p := ⟨gb129, 1, none⟩) (by first | (rw [add_block]; exact hn132_1) | (show (Addr.add _ _).block ≠ _; rw [add_block]; exact hn132_1) | exact hn132_1) (.int .i64 ((rd_T63 l0 x4_1).f1))).trans hx132_0; replace hx132_1 := (cell_far (p := ⟨gb129, 1, none⟩) (by first | (rw [add_block]; exact hn132_1) | (show (Addr.add _ _).block ≠ _; rw [add_block]; exact hn132_1) | exact hn132_1) (.int .i64 ((rd_T63 l0 x4_1).f1))).trans hx132_1; (try have hy132_0 := fun (n_ : Nat) => (show ((((w13.drewN n_).setCell ⟨gb129, 0, none⟩ (.int .i64 ((rd_T63 l0 x4_1).f0))).setCell ⟨gb129, 1, none⟩ (.int .i64 ((rd_T63 l0 x4_1).f1)))).cell? _ = some _ from hx132_0)); (try have hy132_1 := fun (n_ : Nat) => (show ((((w13.drewN n_).setCell ⟨gb129, 0, none⟩ (.int .i64 ((rd_T63 l0 x4_1).f0))).setCell ⟨gb129, 1, none⟩ (.int .i64 ((rd_T63 l0 x4_1).f1)))).cell? _ = some _ from hx132_1)); clear hn132_0; clear hn132_1; replace p132 := eq_true p132; replace q132 := eq_true q132)); try go_wp2_with (first | ((with_reducible refine gate_dst (N := 5) rfl ?_); refine box_event ?hg (N := 5) ?hd (cs := #[.int .i64 0, .int .i64 0]) (t := 63) ?hr ?_; (case hd => rfl); (case hg => rfl); (case hr => first | (go_simp; done) | (go_simp; rfl)); intro gb129 hg w13 hbox hb; have n0_ := aM (below_step bQ hb); have n1_ := aM (hbox); have n2_ := aM ((by rw [hg]; exact (below_size bQ) : w.heap.size ≤ gb129)); have n3_ := aM ((by rw [hg]; exact (below_size bQ) : w.heap.size ≤ gb129)); clear HB; have HB := n0_; have BK129 := n1_; have GW129 := n2_; have GE129 := n3_; clear n0_ n1_ n2_ n3_; clear hb hbox hg; have hcz14_0 : w13.cell? ⟨gb129, 0, none⟩ = some (.int .i64 0) := (blk_cell BK129.out 0).trans rfl; have hcz14_1 : w13.cell? ⟨gb129, 1, none⟩ = some (.int .i64 0) := (blk_cell BK129.out 1).trans rfl; have hfz14_0 := blk_frozen BK129.out 0; have hfz14_1 := blk_frozen BK129.out 1) | (go_at_call 79; (with_reducible refine (spec_l00In.calls ((rd_T63 l0 x4_1).f0) 0 39 true _ A4.out).mono ?_); rintro e w' ⟨rfl, ⟨nd, rfl⟩⟩; (try first | exact ⟨rfl, _, World.drewN_drewN _ _ _⟩ | exact ⟨rfl, _, Eq.trans (World.drewN_drewN _ _ _) (congrArg (World.drewN _) (Nat.add_assoc _ _ _))⟩)) | (go_at_call 79; (with_reducible refine (spec_l00In.calls ((rd_T63 l0 x4_1).f1) ((rd_T63 l0 x4_1).f0) 39 true _ A6.out).mono ?_); rintro e w' ⟨rfl, ⟨nd, rfl⟩⟩; (try first | exact ⟨rfl, _, World.drewN_drewN _ _ _⟩ | exact ⟨rfl, _, Eq.trans (World.drewN_drewN _ _ _) (congrArg (World.drewN _) (Nat.add_assoc _ _ _))⟩); have p132 : 0 ≤ ((ji9) : Int) := dA; have q132 : (ji9) < (l0.length : Int) := dA; obtain ⟨ad132, e132, hx132_0, hx132_1⟩ := at_T63 HR0.out (ji9) p132 q132; obtain rfl : ad128 = ad132 := (by injection e132); have hn132_0 : ad128.block ≠ gb129 := Nat.ne_of_lt (Nat.lt_of_lt_of_le (by have := World.block_lt_of_cell? _ _ hx132_0; first | rwa [add_block] at this | exact this) GW129.out); have hn132_1 : ad128.block ≠ gb129 := Nat.ne_of_lt (Nat.lt_of_lt_of_le (by have := World.block_lt_of_cell? _ _ hx132_0; first | rwa [add_block] at this | exact this) GW129.out); replace hx132_0 := cB HB.out hx132_0; replace hx132_1 := cB HB.out hx132_1; replace hx132_0 := (cell_far (p := ⟨gb129, 0, none⟩) (by first | (rw [add_block]; exact hn132_0) | (show (Addr.add _ _).block ≠ _; rw [add_block]; exact hn132_0) | exact hn132_0) (.int .i64 ((rd_T63 l0 x4_1).f0))).trans hx132_0; replace hx132_1 := (cell_far (p := ⟨gb129, 0, none⟩) (by first | (rw [add_block]; exact hn132_0) | (show (Addr.add _ _).block ≠ _; rw [add_block]; exact hn132_0) | exact hn132_0) (.int .i64 ((rd_T63 l0 x4_1).f0))).trans hx132_1; replace hx132_0 := (cell_far (p := ⟨gb129, 1, none⟩) (by first | (rw [add_block]; exact hn132_1) | (show (Addr.add _ _).block ≠ _; rw [add_block]; exact hn132_1) | exact hn132_1) (.int .i64 ((rd_T63 l0 x4_1).f1))).trans hx132_0; replace hx132_1 := (cell_far (p := ⟨gb129, 1, none⟩) (by first | (rw [add_block]; exact hn132_1) | (show (Addr.add _ _).block ≠ _; rw [add_block]; exact hn132_1) | exact hn132_1) (.int .i64 ((rd_T63 l0 x4_1).f1))).trans hx132_1; (try have hy132_0 := fun (n_ : Nat) => (show ((((w13.drewN n_).setCell ⟨gb129, 0, none⟩ (.int .i64 ((rd_T63 l0 x4_1).f0))).setCell ⟨gb129, 1, none⟩ (.int .i64 ((rd_T63 l0 x4_1).f1)))).cell? _ = some _ from hx132_0)); (try have hy132_1 := fun (n_ : Nat) => (show ((((w13.drewN n_).setCell ⟨gb129, 0, none⟩ (.int .i64 ((rd_T63 l0 x4_1).f0))).setCell ⟨gb129, 1, none⟩ (.int .i64 ((rd_T63 l0 x4_1).f1)))).cell? _ = some _ from hx132_1)); clear hn132_0; clear hn132_1; replace p132 := eq_true p132; replace q132 := eq_true q132)))
           go_ret2
           exact ⟨_, by first | rfl | (simp [errW_none, errW_some] <;> rfl) | (simp only [← hji9]; first | rfl | (simp [errW_none, errW_some] <;> rfl)) | (simp [*, errW_none, errW_some] <;> rfl), by first | exact Kd.R_nil _ _ _ _ _ | exact Kd.N_nil _ _ _ _ _ | exact Kd.V_nil _ _ _ _ _ | exact Kd.Q_nil _ _ _ _ _ | exact Kd.S_nil _ _ _ _ _, by repeat (first | (with_reducible first | exact HB.out | apply bA | apply bN | apply bD | refine below_set ?_ GE129.out) | exact HB.out)⟩
          ·rw [if_neg c12] at H
           have c12b0 : decide (((rd_T63 l0 x4_1).f0) ≤ ((rd_T63 l0 (ji9)).f1)) = false := decide_eq_false c12
           clear c12
           have H' := aM H
           clear H
           have p128 : 0 ≤ (x4_1 : Int) := dA
           have q128 : x4_1 < (l0.length : Int) := dA
           obtain ⟨ad128, e128, hx128_0, hx128_1⟩ := at_T63 HR0.out x4_1 p128 q128
           cases e128
           replace hx128_0 := cB HB.out hx128_0
           replace hx128_1 := cB HB.out hx128_1
           replace p128 := eq_true p128
           replace q128 := eq_true q128
           go_wp2_with (first | ((with_reducible refine gate_dst (N := 5) rfl ?_); refine box_event ?hg (N := 5) ?hd (cs := #[.int .i64 0, .int .i64 0]) (t := 63) ?hr ?_; (case hd => rfl); (case hg => rfl); (case hr => first | (go_simp; done) | (go_simp; rfl)); intro gb129 hg w15 hbox hb; have n0_ := aM (below_step bQ hb); have n1_ := aM (hbox); have n2_ := aM ((by rw [hg]; exact (below_size bQ) : w.heap.size ≤ gb129)); have n3_ := aM ((by rw [hg]; exact (below_size bQ) : w.heap.size ≤ gb129)); clear HB; have HB := n0_; have BK129 := n1_; have GW129 := n2_; have GE129 := n3_; clear n0_ n1_ n2_ n3_; clear hb hbox hg; have hcz16_0 : w15.cell? ⟨gb129, 0, none⟩ = some (.int .i64 0) := (blk_cell BK129.out 0).trans rfl; have hcz16_1 : w15.cell? ⟨gb129, 1, none⟩ = some (.int .i64 0) := (blk_cell BK129.out 1).trans rfl; have hfz16_0 := blk_frozen BK129.out 0; have hfz16_1 := blk_frozen BK129.out 1) | (go_at_call 79; (with_reducible refine (spec_l00In.calls ((rd_T63 l0 x4_1).f0) 0 39 true _ A4.out).mono ?_); rintro e w' ⟨rfl, ⟨nd, rfl⟩⟩; (try first | exact ⟨rfl, _, World.drewN_drewN _ _ _⟩ | exact ⟨rfl, _, Eq.trans (World.drewN_drewN _ _ _) (congrArg (World.drewN _) (Nat.add_assoc _ _ _))⟩)) | (go_at_call 79; (with_reducible refine (spec_l00In.calls ((rd_T63 l0 x4_1).f1) ((rd_T63 l0 x4_1).f0) 39 true _ A6.out).mono ?_); rintro e w' ⟨rfl, ⟨nd, rfl⟩⟩; (try first | exact ⟨rfl, _, World.drewN_drewN _ _ _⟩ | exact ⟨rfl, _, Eq.trans (World.drewN_drewN _ _ _) (congrArg (World.drewN _) (Nat.add_assoc _ _ _))⟩); have p132 : 0 ≤ ((ji9) : Int) := dA; have q132 : (ji9) < (l0.length : Int) := dA; obtain ⟨ad132, e132, hx132_0, hx132_1⟩ := at_T63 HR0.out (ji9) p132 q132; obtain rfl : ad128 = ad132 := (by injection e132); have hn132_0 : ad128.block ≠ gb129 := Nat.ne_of_lt (Nat.lt_of_lt_of_le (by have := World.block_lt_of_cell? _ _ hx132_0; first | rwa [add_block] at this | exact this) GW129.out); have hn132_1 : ad128.block ≠ gb129 := Nat.ne_of_lt (Nat.lt_of_lt_of_le (by have := World.block_lt_of_cell? _ _ hx132_0; first | rwa [add_block] at this | exact this) GW129.out); replace hx132_0 := cB HB.out hx132_0; replace hx132_1 := cB HB.out hx132_1; replace hx132_0 := (cell_far (p := ⟨gb129, 0, none⟩) (by first | (rw [add_block]; exact hn132_0) | (show (Addr.add _ _).block ≠ _; rw [add_block]; exact hn132_0) | exact hn132_0) (.int .i64 ((rd_T63 l0 x4_1).f0))).trans hx132_0; replace hx132_1 := (cell_far (p := ⟨gb129, 0, none⟩) (by first | (rw [add_block]; exact hn132_0) | (show (Addr.add _ _).block ≠ _; rw [add_block]; exact hn132_0) | exact hn132_0) (.int .i64 ((rd_T63 l0 x4_1).f0))).trans hx132_1; replace hx132_0 := (cell_far (p := ⟨gb129, 1, none⟩) (by first | (rw [add_block]; exact hn132_1) | (show (Addr.add _ _).block ≠ _; rw [add_block]; exact hn132_1) | exact hn132_1) (.int .i64 ((rd_T63 l0 x4_1).f1))).trans hx132_0; replace hx132_1 := (cell_far (p := ⟨gb129, 1, none⟩) (by first | (rw [add_block]; exact hn132_1) | (show (Addr.add _ _).block ≠ _; rw [add_block]; exact hn132_1) | exact hn132_1) (.int .i64 ((rd_T63 l0 x4_1).f1))).trans hx132_1; (try have hy132_0 := fun (n_ : Nat) => (show ((((w15.drewN n_).setCell ⟨gb129, 0, none⟩ (.int .i64 ((rd_T63 l0 x4_1).f0))).setCell ⟨gb129, 1, none⟩ (.int .i64 ((rd_T63 l0 x4_1).f1)))).cell? _ = some _ from hx132_0)); (try have hy132_1 := fun (n_ : Nat) => (show ((((w15.drewN n_).setCell ⟨gb129, 0, none⟩ (.int .i64 ((rd_T63 l0 x4_1).f0))).setCell ⟨gb129, 1, none⟩ (.int .i64 ((rd_T63 l0 x4_1).f1)))).cell? _ = some _ from hx132_1)); clear hn132_0; clear hn132_1; replace p132 := eq_true p132; replace q132 := eq_true q132))
           repeat (go_quiet (first | ((with_reducible refine gate_dst (N := 5) rfl ?_); refine box_event ?hg (N := 5) ?hd (cs := #[.int .i64 0, .int .i64 0]) (t := 63) ?hr ?_; (case hd => rfl); (case hg => rfl); (case hr => first | (go_simp; done) | (go_simp; rfl)); intro gb129 hg w15 hbox hb; have n0_ := aM (below_step bQ hb); have n1_ := aM (hbox); have n2_ := aM ((by rw [hg]; exact (below_size bQ) : w.heap.size ≤ gb129)); have n3_ := aM ((by rw [hg]; exact (below_size bQ) : w.heap.size ≤ gb129)); clear HB; have HB := n0_; have BK129 := n1_; have GW129 := n2_; have GE129 := n3_; clear n0_ n1_ n2_ n3_; clear hb hbox hg; have hcz16_0 : w15.cell? ⟨gb129, 0, none⟩ = some (.int .i64 0) := (blk_cell BK129.out 0).trans rfl; have hcz16_1 : w15.cell? ⟨gb129, 1, none⟩ = some (.int .i64 0) := (blk_cell BK129.out 1).trans rfl; have hfz16_0 := blk_frozen BK129.out 0; have hfz16_1 := blk_frozen BK129.out 1) | (go_at_call 79; (with_reducible refine (spec_l00In.calls ((rd_T63 l0 x4_1).f0) 0 39 true _ A4.out).mono ?_); rintro e w' ⟨rfl, ⟨nd, rfl⟩⟩; (try first | exact ⟨rfl, _, World.drewN_drewN _ _ _⟩ | exact ⟨rfl, _, Eq.trans (World.drewN_drewN _ _ _) (congrArg (World.drewN _) (Nat.add_assoc _ _ _))⟩)) | (go_at_call 79; (with_reducible refine (spec_l00In.calls ((rd_T63 l0 x4_1).f1) ((rd_T63 l0 x4_1).f0) 39 true _ A6.out).mono ?_); rintro e w' ⟨rfl, ⟨nd, rfl⟩⟩; (try first | exact ⟨rfl, _, World.drewN_drewN _ _ _⟩ | exact ⟨rfl, _, Eq.trans (World.drewN_drewN _ _ _) (congrArg (World.drewN _) (Nat.add_assoc _ _ _))⟩); have p132 : 0 ≤ ((ji9) : Int) := dA; have q132 : (ji9) < (l0.length : Int) := dA; obtain ⟨ad132, e132, hx132_0, hx132_1⟩ := at_T63 HR0.out (ji9) p132 q132; obtain rfl : ad128 = ad132 := (by injection e132); have hn132_0 : ad128.block ≠ gb129 := Nat.ne_of_lt (Nat.lt_of_lt_of_le (by have := World.block_lt_of_cell? _ _ hx132_0; first | rwa [add_block] at this | exact this) GW129.out); have hn132_1 : ad128.block ≠ gb129 := Nat.ne_of_lt (Nat.lt_of_lt_of_le (by have := World.block_lt_of_cell? _ _ hx132_0; first | rwa [add_block] at this | exact this) GW129.out); replace hx132_0 := cB HB.out hx132_0; replace hx132_1 := cB HB.out hx132_1; replace hx132_0 := (cell_far (p := ⟨gb129, 0, none⟩) (by first | (rw [add_block]; exact hn132_0) | (show (Addr.add _ _).block ≠ _; rw [add_block]; exact hn132_0) | exact hn132_0) (.int .i64 ((rd_T63 l0 x4_1).f0))).trans hx132_0; replace hx132_1 := (cell_far (p := ⟨gb129, 0, none⟩) (by first | (rw [add_block]; exact hn132_0) | (show (Addr.add _ _).block ≠ _; rw [add_block]; exact hn132_0) | exact hn132_0) (.int .i64 ((rd_T63 l0 x4_1).f0))).trans hx132_1; replace hx132_0 := (cell_far (p := ⟨gb129, 1, none⟩) (by first | (rw [add_block]; exact hn132_1) | (show (Addr.add _ _).block ≠ _; rw [add_block]; exact hn132_1) | exact hn132_1) (.int .i64 ((rd_T63 l0 x4_1).f1))).trans hx132_0; replace hx132_1 := (cell_far (p := ⟨gb129, 1, none⟩) (by first | (rw [add_block]; exact hn132_1) | (show (Addr.add _ _).block ≠ _; rw [add_block]; exact hn132_1) | exact hn132_1) (.int .i64 ((rd_T63 l0 x4_1).f1))).trans hx132_1; (try have hy132_0 := fun (n_ : Nat) => (show ((((w15.drewN n_).setCell ⟨gb129, 0, none⟩ (.int .i64 ((rd_T63 l0 x4_1).f0))).setCell ⟨gb129, 1, none⟩ (.int .i64 ((rd_T63 l0 x4_1).f1)))).cell? _ = some _ from hx132_0)); (try have hy132_1 := fun (n_ : Nat) => (show ((((w15.drewN n_).setCell ⟨gb129, 0, none⟩ (.int .i64 ((rd_T63 l0 x4_1).f0))).setCell ⟨gb129, 1, none⟩ (.int .i64 ((rd_T63 l0 x4_1).f1)))).cell? _ = some _ from hx132_1)); clear hn132_0; clear hn132_1; replace p132 := eq_true p132; replace q132 := eq_true q132)); try go_wp2_with (first | ((with_reducible refine gate_dst (N := 5) rfl ?_); refine box_event ?hg (N := 5) ?hd (cs := #[.int .i64 0, .int .i64 0]) (t := 63) ?hr ?_; (case hd => rfl); (case hg => rfl); (case hr => first | (go_simp; done) | (go_simp; rfl)); intro gb129 hg w15 hbox hb; have n0_ := aM (below_step bQ hb); have n1_ := aM (hbox); have n2_ := aM ((by rw [hg]; exact (below_size bQ) : w.heap.size ≤ gb129)); have n3_ := aM ((by rw [hg]; exact (below_size bQ) : w.heap.size ≤ gb129)); clear HB; have HB := n0_; have BK129 := n1_; have GW129 := n2_; have GE129 := n3_; clear n0_ n1_ n2_ n3_; clear hb hbox hg; have hcz16_0 : w15.cell? ⟨gb129, 0, none⟩ = some (.int .i64 0) := (blk_cell BK129.out 0).trans rfl; have hcz16_1 : w15.cell? ⟨gb129, 1, none⟩ = some (.int .i64 0) := (blk_cell BK129.out 1).trans rfl; have hfz16_0 := blk_frozen BK129.out 0; have hfz16_1 := blk_frozen BK129.out 1) | (go_at_call 79; (with_reducible refine (spec_l00In.calls ((rd_T63 l0 x4_1).f0) 0 39 true _ A4.out).mono ?_); rintro e w' ⟨rfl, ⟨nd, rfl⟩⟩; (try first | exact ⟨rfl, _, World.drewN_drewN _ _ _⟩ | exact ⟨rfl, _, Eq.trans (World.drewN_drewN _ _ _) (congrArg (World.drewN _) (Nat.add_assoc _ _ _))⟩)) | (go_at_call 79; (with_reducible refine (spec_l00In.calls ((rd_T63 l0 x4_1).f1) ((rd_T63 l0 x4_1).f0) 39 true _ A6.out).mono ?_); rintro e w' ⟨rfl, ⟨nd, rfl⟩⟩; (try first | exact ⟨rfl, _, World.drewN_drewN _ _ _⟩ | exact ⟨rfl, _, Eq.trans (World.drewN_drewN _ _ _) (congrArg (World.drewN _) (Nat.add_assoc _ _ _))⟩); have p132 : 0 ≤ ((ji9) : Int) := dA; have q132 : (ji9) < (l0.length : Int) := dA; obtain ⟨ad132, e132, hx132_0, hx132_1⟩ := at_T63 HR0.out (ji9) p132 q132; obtain rfl : ad128 = ad132 := (by injection e132); have hn132_0 : ad128.block ≠ gb129 := Nat.ne_of_lt (Nat.lt_of_lt_of_le (by have := World.block_lt_of_cell? _ _ hx132_0; first | rwa [add_block] at this | exact this) GW129.out); have hn132_1 : ad128.block ≠ gb129 := Nat.ne_of_lt (Nat.lt_of_lt_of_le (by have := World.block_lt_of_cell? _ _ hx132_0; first | rwa [add_block] at this | exact this) GW129.out); replace hx132_0 := cB HB.out hx132_0; replace hx132_1 := cB HB.out hx132_1; replace hx132_0 := (cell_far (p := ⟨gb129, 0, none⟩) (by first | (rw [add_block]; exact hn132_0) | (show (Addr.add _ _).block ≠ _; rw [add_block]; exact hn132_0) | exact hn132_0) (.int .i64 ((rd_T63 l0 x4_1).f0))).trans hx132_0; replace hx132_1 := (cell_far (p := ⟨gb129, 0, none⟩) (by first | (rw [add_block]; exact hn132_0) | (show (Addr.add _ _).block ≠ _; rw [add_block]; exact hn132_0) | exact hn132_0) (.int .i64 ((rd_T63 l0 x4_1).f0))).trans hx132_1; replace hx132_0 := (cell_far (p := ⟨gb129, 1, none⟩) (by first | (rw [add_block]; exact hn132_1) | (show (Addr.add _ _).block ≠ _; rw [add_block]; exact hn132_1) | exact hn132_1) (.int .i64 ((rd_T63 l0 x4_1).f1))).trans hx132_0; replace hx132_1 := (cell_far (p := ⟨gb129, 1, none⟩) (by first | (rw [add_block]; exact hn132_1) | (show (Addr.add _ _).block ≠ _; rw [add_block]; exact hn132_1) | exact hn132_1) (.int .i64 ((rd_T63 l0 x4_1).f1))).trans hx132_1; (try have hy132_0 := fun (n_ : Nat) => (show ((((w15.drewN n_).setCell ⟨gb129, 0, none⟩ (.int .i64 ((rd_T63 l0 x4_1).f0))).setCell ⟨gb129, 1, none⟩ (.int .i64 ((rd_T63 l0 x4_1).f1)))).cell? _ = some _ from hx132_0)); (try have hy132_1 := fun (n_ : Nat) => (show ((((w15.drewN n_).setCell ⟨gb129, 0, none⟩ (.int .i64 ((rd_T63 l0 x4_1).f0))).setCell ⟨gb129, 1, none⟩ (.int .i64 ((rd_T63 l0 x4_1).f1)))).cell? _ = some _ from hx132_1)); clear hn132_0; clear hn132_1; replace p132 := eq_true p132; replace q132 := eq_true q132)))
           go_roundg k1
           case measure => have := HK1.out; omega
           case rel => exact ⟨(wrap64 (x4_1 + 1)), rQ, H', ⟨by have := HK1.out; omega⟩, ⟨by repeat (first | (with_reducible first | exact HB.out | apply bA | apply bN | apply bD | refine below_set ?_ GE129.out) | exact HB.out)⟩⟩
         ·rw [if_neg c11] at H
          exact absurd H (by simp)
        ·rw [if_neg c10] at H
         exact absurd H (by simp)
       ·rw [if_neg c8] at H
        have c8b0 : decide (0 < x4_1) = false := decide_eq_false c8
        clear c8
        have H' := aM H
        clear H
        have p128 : 0 ≤ (x4_1 : Int) := dA
        have q128 : x4_1 < (l0.length : Int) := dA
        obtain ⟨ad128, e128, hx128_0, hx128_1⟩ := at_T63 HR0.out x4_1 p128 q128
        cases e128
        replace hx128_0 := cB HB.out hx128_0
        replace hx128_1 := cB HB.out hx128_1
        replace p128 := eq_true p128
        replace q128 := eq_true q128
        go_wp2_with (first | ((with_reducible refine gate_dst (N := 5) rfl ?_); refine box_event ?hg (N := 5) ?hd (cs := #[.int .i64 0, .int .i64 0]) (t := 63) ?hr ?_; (case hd => rfl); (case hg => rfl); (case hr => first | (go_simp; done) | (go_simp; rfl)); intro gb129 hg w17 hbox hb; have n0_ := aM (below_step bQ hb); have n1_ := aM (hbox); have n2_ := aM ((by rw [hg]; exact (below_size bQ) : w.heap.size ≤ gb129)); have n3_ := aM ((by rw [hg]; exact (below_size bQ) : w.heap.size ≤ gb129)); clear HB; have HB := n0_; have BK129 := n1_; have GW129 := n2_; have GE129 := n3_; clear n0_ n1_ n2_ n3_; clear hb hbox hg; have hcz18_0 : w17.cell? ⟨gb129, 0, none⟩ = some (.int .i64 0) := (blk_cell BK129.out 0).trans rfl; have hcz18_1 : w17.cell? ⟨gb129, 1, none⟩ = some (.int .i64 0) := (blk_cell BK129.out 1).trans rfl; have hfz18_0 := blk_frozen BK129.out 0; have hfz18_1 := blk_frozen BK129.out 1) | (go_at_call 79; (with_reducible refine (spec_l00In.calls ((rd_T63 l0 x4_1).f0) 0 39 true _ A4.out).mono ?_); rintro e w' ⟨rfl, ⟨nd, rfl⟩⟩; (try first | exact ⟨rfl, _, World.drewN_drewN _ _ _⟩ | exact ⟨rfl, _, Eq.trans (World.drewN_drewN _ _ _) (congrArg (World.drewN _) (Nat.add_assoc _ _ _))⟩)) | (go_at_call 79; (with_reducible refine (spec_l00In.calls ((rd_T63 l0 x4_1).f1) ((rd_T63 l0 x4_1).f0) 39 true _ A6.out).mono ?_); rintro e w' ⟨rfl, ⟨nd, rfl⟩⟩; (try first | exact ⟨rfl, _, World.drewN_drewN _ _ _⟩ | exact ⟨rfl, _, Eq.trans (World.drewN_drewN _ _ _) (congrArg (World.drewN _) (Nat.add_assoc _ _ _))⟩)))
        repeat (go_quiet (first | ((with_reducible refine gate_dst (N := 5) rfl ?_); refine box_event ?hg (N := 5) ?hd (cs := #[.int .i64 0, .int .i64 0]) (t := 63) ?hr ?_; (case hd => rfl); (case hg => rfl); (case hr => first | (go_simp; done) | (go_simp; rfl)); intro gb129 hg w17 hbox hb; have n0_ := aM (below_step bQ hb); have n1_ := aM (hbox); have n2_ := aM ((by rw [hg]; exact (below_size bQ) : w.heap.size ≤ gb129)); have n3_ := aM ((by rw [hg]; exact (below_size bQ) : w.heap.size ≤ gb129)); clear HB; have HB := n0_; have BK129 := n1_; have GW129 := n2_; have GE129 := n3_; clear n0_ n1_ n2_ n3_; clear hb hbox hg; have hcz18_0 : w17.cell? ⟨gb129, 0, none⟩ = some (.int .i64 0) := (blk_cell BK129.out 0).trans rfl; have hcz18_1 : w17.cell? ⟨gb129, 1, none⟩ = some (.int .i64 0) := (blk_cell BK129.out 1).trans rfl; have hfz18_0 := blk_frozen BK129.out 0; have hfz18_1 := blk_frozen BK129.out 1) | (go_at_call 79; (with_reducible refine (spec_l00In.calls ((rd_T63 l0 x4_1).f0) 0 39 true _ A4.out).mono ?_); rintro e w' ⟨rfl, ⟨nd, rfl⟩⟩; (try first | exact ⟨rfl, _, World.drewN_drewN _ _ _⟩ | exact ⟨rfl, _, Eq.trans (World.drewN_drewN _ _ _) (congrArg (World.drewN _) (Nat.add_assoc _ _ _))⟩)) | (go_at_call 79; (with_reducible refine (spec_l00In.calls ((rd_T63 l0 x4_1).f1) ((rd_T63 l0 x4_1).f0) 39 true _ A6.out).mono ?_); rintro e w' ⟨rfl, ⟨nd, rfl⟩⟩; (try first | exact ⟨rfl, _, World.drewN_drewN _ _ _⟩ | exact ⟨rfl, _, Eq.trans (World.drewN_drewN _ _ _) (congrArg (World.drewN _) (Nat.add_assoc _ _ _))⟩))); try go_wp2_with (first | ((with_reducible refine gate_dst (N := 5) rfl ?_); refine box_event ?hg (N := 5) ?hd (cs := #[.int .i64 0, .int .i64 0]) (t := 63) ?hr ?_; (case hd => rfl); (case hg => rfl); (case hr => first | (go_simp; done) | (go_simp; rfl)); intro gb129 hg w17 hbox hb; have n0_ := aM (below_step bQ hb); have n1_ := aM (hbox); have n2_ := aM ((by rw [hg]; exact (below_size bQ) : w.heap.size ≤ gb129)); have n3_ := aM ((by rw [hg]; exact (below_size bQ) : w.heap.size ≤ gb129)); clear HB; have HB := n0_; have BK129 := n1_; have GW129 := n2_; have GE129 := n3_; clear n0_ n1_ n2_ n3_; clear hb hbox hg; have hcz18_0 : w17.cell? ⟨gb129, 0, none⟩ = some (.int .i64 0) := (blk_cell BK129.out 0).trans rfl; have hcz18_1 : w17.cell? ⟨gb129, 1, none⟩ = some (.int .i64 0) := (blk_cell BK129.out 1).trans rfl; have hfz18_0 := blk_frozen BK129.out 0; have hfz18_1 := blk_frozen BK129.out 1) | (go_at_call 79; (with_reducible refine (spec_l00In.calls ((rd_T63 l0 x4_1).f0) 0 39 true _ A4.out).mono ?_); rintro e w' ⟨rfl, ⟨nd, rfl⟩⟩; (try first | exact ⟨rfl, _, World.drewN_drewN _ _ _⟩ | exact ⟨rfl, _, Eq.trans (World.drewN_drewN _ _ _) (congrArg (World.drewN _) (Nat.add_assoc _ _ _))⟩)) | (go_at_call 79; (with_reducible refine (spec_l00In.calls ((rd_T63 l0 x4_1).f1) ((rd_T63 l0 x4_1).f0) 39 true _ A6.out).mono ?_); rintro e w' ⟨rfl, ⟨nd, rfl⟩⟩; (try first | exact ⟨rfl, _, World.drewN_drewN _ _ _⟩ | exact ⟨rfl, _, Eq.trans (World.drewN_drewN _ _ _) (congrArg (World.drewN _) (Nat.add_assoc _ _ _))⟩))))
        go_roundg k1
        case measure => have := HK1.out; omega
        case rel => exact ⟨(wrap64 (x4_1 + 1)), rQ, H', ⟨by have := HK1.out; omega⟩, ⟨by repeat (first | (with_reducible first | exact HB.out | apply bA | apply bN | apply bD | refine below_set ?_ GE129.out) | exact HB.out)⟩⟩
      ·replace c7 := Bool.eq_false_iff.mpr c7
       subst c7
       have H1 : (some (([] : List Int), 1)) = some (r1, r2) := by rw [if_neg (show ¬ (false = true) by decide)] at H; exact H
       clear H
       have H := H1
       clear H1
       simp only [Option.some.injEq, Prod.mk.injEq] at H
       obtain ⟨rfl, rfl⟩ := H
       have p128 : 0 ≤ (x4_1 : Int) := dA
       have q128 : x4_1 < (l0.length : Int) := dA
       obtain ⟨ad128, e128, hx128_0, hx128_1⟩ := at_T63 HR0.out x4_1 p128 q128
       cases e128
       replace hx128_0 := cB HB.out hx128_0
       replace hx128_1 := cB HB.out hx128_1
       replace p128 := eq_true p128
       replace q128 := eq_true q128
       go_wp2_with (first | ((with_reducible refine gate_dst (N := 5) rfl ?_); refine box_event ?hg (N := 5) ?hd (cs := #[.int .i64 0, .int .i64 0]) (t := 63) ?hr ?_; (case hd => rfl); (case hg => rfl); (case hr => first | (go_simp; done) | (go_simp; rfl)); intro gb129 hg w19 hbox hb; have n0_ := aM (below_step bQ hb); have n1_ := aM (hbox); have n2_ := aM ((by rw [hg]; exact (below_size bQ) : w.heap.size ≤ gb129)); have n3_ := aM ((by rw [hg]; exact (below_size bQ) : w.heap.size ≤ gb129)); clear HB; have HB := n0_; have BK129 := n1_; have GW129 := n2_; have GE129 := n3_; clear n0_ n1_ n2_ n3_; clear hb hbox hg; have hcz20_0 : w19.cell? ⟨gb129, 0, none⟩ = some (.int .i64 0) := (blk_cell BK129.out 0).trans rfl; have hcz20_1 : w19.cell? ⟨gb129, 1, none⟩ = some (.int .i64 0) := (blk_cell BK129.out 1).trans rfl; have hfz20_0 := blk_frozen BK129.out 0; have hfz20_1 := blk_frozen BK129.out 1) | (go_at_call 79; (with_reducible refine (spec_l00In.calls ((rd_T63 l0 x4_1).f0) 0 39 true _ A4.out).mono ?_); rintro e w' ⟨rfl, ⟨nd, rfl⟩⟩; (try first | exact ⟨rfl, _, World.drewN_drewN _ _ _⟩ | exact ⟨rfl, _, Eq.trans (World.drewN_drewN _ _ _) (congrArg (World.drewN _) (Nat.add_assoc _ _ _))⟩)) | (go_at_call 79; (with_reducible refine (spec_l00In.calls ((rd_T63 l0 x4_1).f1) ((rd_T63 l0 x4_1).f0) 39 false _ A6.out).mono ?_); rintro e w' ⟨rfl, ⟨nd, rfl⟩⟩; (try first | exact ⟨rfl, _, World.drewN_drewN _ _ _⟩ | exact ⟨rfl, _, Eq.trans (World.drewN_drewN _ _ _) (congrArg (World.drewN _) (Nat.add_assoc _ _ _))⟩)))
       repeat (go_quiet (first | ((with_reducible refine gate_dst (N := 5) rfl ?_); refine box_event ?hg (N := 5) ?hd (cs := #[.int .i64 0, .int .i64 0]) (t := 63) ?hr ?_; (case hd => rfl); (case hg => rfl); (case hr => first | (go_simp; done) | (go_simp; rfl)); intro gb129 hg w19 hbox hb; have n0_ := aM (below_step bQ hb); have n1_ := aM (hbox); have n2_ := aM ((by rw [hg]; exact (below_size bQ) : w.heap.size ≤ gb129)); have n3_ := aM ((by rw [hg]; exact (below_size bQ) : w.heap.size ≤ gb129)); clear HB; have HB := n0_; have BK129 := n1_; have GW129 := n2_; have GE129 := n3_; clear n0_ n1_ n2_ n3_; clear hb hbox hg; have hcz20_0 : w19.cell? ⟨gb129, 0, none⟩ = some (.int .i64 0) := (blk_cell BK129.out 0).trans rfl; have hcz20_1 : w19.cell? ⟨gb129, 1, none⟩ = some (.int .i64 0) := (blk_cell BK129.out 1).trans rfl; have hfz20_0 := blk_frozen BK129.out 0; have hfz20_1 := blk_frozen BK129.out 1) | (go_at_call 79; (with_reducible refine (spec_l00In.calls ((rd_T63 l0 x4_1).f0) 0 39 true _ A4.out).mono ?_); rintro e w' ⟨rfl, ⟨nd, rfl⟩⟩; (try first | exact ⟨rfl, _, World.drewN_drewN _ _ _⟩ | exact ⟨rfl, _, Eq.trans (World.drewN_drewN _ _ _) (congrArg (World.drewN _) (Nat.add_assoc _ _ _))⟩)) | (go_at_call 79; (with_reducible refine (spec_l00In.calls ((rd_T63 l0 x4_1).f1) ((rd_T63 l0 x4_1).f0) 39 false _ A6.out).mono ?_); rintro e w' ⟨rfl, ⟨nd, rfl⟩⟩; (try first | exact ⟨rfl, _, World.drewN_drewN _ _ _⟩ | exact ⟨rfl, _, Eq.trans (World.drewN_drewN _ _ _) (congrArg (World.drewN _) (Nat.add_assoc _ _ _))⟩))); try go_wp2_with (first | ((with_reducible refine gate_dst (N := 5) rfl ?_); refine box_event ?hg (N := 5) ?hd (cs := #[.int .i64 0, .int .i64 0]) (t := 63) ?hr ?_; (case hd => rfl); (case hg => rfl); (case hr => first | (go_simp; done) | (go_simp; rfl)); intro gb129 hg w19 hbox hb; have n0_ := aM (below_step bQ hb); have n1_ := aM (hbox); have n2_ := aM ((by rw [hg]; exact (below_size bQ) : w.heap.size ≤ gb129)); have n3_ := aM ((by rw [hg]; exact (below_size bQ) : w.heap.size ≤ gb129)); clear HB; have HB := n0_; have BK129 := n1_; have GW129 := n2_; have GE129 := n3_; clear n0_ n1_ n2_ n3_; clear hb hbox hg; have hcz20_0 : w19.cell? ⟨gb129, 0, none⟩ = some (.int .i64 0) := (blk_cell BK129.out 0).trans rfl; have hcz20_1 : w19.cell? ⟨gb129, 1, none⟩ = some (.int .i64 0) := (blk_cell BK129.out 1).trans rfl; have hfz20_0 := blk_frozen BK129.out 0; have hfz20_1 := blk_frozen BK129.out 1) | (go_at_call 79; (with_reducible refine (spec_l00In.calls ((rd_T63 l0 x4_1).f0) 0 39 true _ A4.out).mono ?_); rintro e w' ⟨rfl, ⟨nd, rfl⟩⟩; (try first | exact ⟨rfl, _, World.drewN_drewN _ _ _⟩ | exact ⟨rfl, _, Eq.trans (World.drewN_drewN _ _ _) (congrArg (World.drewN _) (Nat.add_assoc _ _ _))⟩)) | (go_at_call 79; (with_reducible refine (spec_l00In.calls ((rd_T63 l0 x4_1).f1) ((rd_T63 l0 x4_1).f0) 39 false _ A6.out).mono ?_); rintro e w' ⟨rfl, ⟨nd, rfl⟩⟩; (try first | exact ⟨rfl, _, World.drewN_drewN _ _ _⟩ | exact ⟨rfl, _, Eq.trans (World.drewN_drewN _ _ _) (congrArg (World.drewN _) (Nat.add_assoc _ _ _))⟩))))
       go_ret2
       exact ⟨_, eQ, by first | exact Kd.R_nil _ _ _ _ _ | exact Kd.N_nil _ _ _ _ _ | exact Kd.V_nil _ _ _ _ _ | exact Kd.Q_nil _ _ _ _ _ | exact Kd.S_nil _ _ _ _ _, by repeat (first | (with_reducible first | exact HB.out | apply bA | apply bN | apply bD | refine below_set ?_ GE129.out) | exact HB.out)⟩
     ·replace c5 := Bool.eq_false_iff.mpr c5
      subst c5
      have H1 : (some (([] : List Int), 1)) = some (r1, r2) := by rw [if_neg (show ¬ (false = true) by decide)] at H; exact H
      clear H
      have H := H1
      clear H1
      simp only [Option.some.injEq, Prod.mk.injEq] at H
      obtain ⟨rfl, rfl⟩ := H
      have p128 : 0 ≤ (x4_1 : Int) := dA
      have q128 : x4_1 < (l0.length : Int) := dA
      obtain ⟨ad128, e128, hx128_0, hx128_1⟩ := at_T63 HR0.out x4_1 p128 q128
      cases e128
      replace hx128_0 := cB HB.out hx128_0
      replace hx128_1 := cB HB.out hx128_1
      replace p128 := eq_true p128
      replace q128 := eq_true q128
      go_wp2_with (first | ((with_reducible refine gate_dst (N := 5) rfl ?_); refine box_event ?hg (N := 5) ?hd (cs := #[.int .i64 0, .int .i64 0]) (t := 63) ?hr ?_; (case hd => rfl); (case hg => rfl); (case hr => first | (go_simp; done) | (go_simp; rfl)); intro gb129 hg w21 hbox hb; have n0_ := aM (below_step bQ hb); have n1_ := aM (hbox); have n2_ := aM ((by rw [hg]; exact (below_size bQ) : w.heap.size ≤ gb129)); have n3_ := aM ((by rw [hg]; exact (below_size bQ) : w.heap.size ≤ gb129)); clear HB; have HB := n0_; have BK129 := n1_; have GW129 := n2_; have GE129 := n3_; clear n0_ n1_ n2_ n3_; clear hb hbox hg; have hcz22_0 : w21.cell? ⟨gb129, 0, none⟩ = some (.int .i64 0) := (blk_cell BK129.out 0).trans rfl; have hcz22_1 : w21.cell? ⟨gb129, 1, none⟩ = some (.int .i64 0) := (blk_cell BK129.out 1).trans rfl; have hfz22_0 := blk_frozen BK129.out 0; have hfz22_1 := blk_frozen BK129.out 1) | (go_at_call 79; (with_reducible refine (spec_l00In.calls ((rd_T63 l0 x4_1).f0) 0 39 false _ A4.out).mono ?_); rintro e w' ⟨rfl, ⟨nd, rfl⟩⟩; (try first | exact ⟨rfl, _, World.drewN_drewN _ _ _⟩ | exact ⟨rfl, _, Eq.trans (World.drewN_drewN _ _ _) (congrArg (World.drewN _) (Nat.add_assoc _ _ _))⟩)))
      repeat (go_quiet (first | ((with_reducible refine gate_dst (N := 5) rfl ?_); refine box_event ?hg (N := 5) ?hd (cs := #[.int .i64 0, .int .i64 0]) (t := 63) ?hr ?_; (case hd => rfl); (case hg => rfl); (case hr => first | (go_simp; done) | (go_simp; rfl)); intro gb129 hg w21 hbox hb; have n0_ := aM (below_step bQ hb); have n1_ := aM (hbox); have n2_ := aM ((by rw [hg]; exact (below_size bQ) : w.heap.size ≤ gb129)); have n3_ := aM ((by rw [hg]; exact (below_size bQ) : w.heap.size ≤ gb129)); clear HB; have HB := n0_; have BK129 := n1_; have GW129 := n2_; have GE129 := n3_; clear n0_ n1_ n2_ n3_; clear hb hbox hg; have hcz22_0 : w21.cell? ⟨gb129, 0, none⟩ = some (.int .i64 0) := (blk_cell BK129.out 0).trans rfl; have hcz22_1 : w21.cell? ⟨gb129, 1, none⟩ = some (.int .i64 0) := (blk_cell BK129.out 1).trans rfl; have hfz22_0 := blk_frozen BK129.out 0; have hfz22_1 := blk_frozen BK129.out 1) | (go_at_call 79; (with_reducible refine (spec_l00In.calls ((rd_T63 l0 x4_1).f0) 0 39 false _ A4.out).mono ?_); rintro e w' ⟨rfl, ⟨nd, rfl⟩⟩; (try first | exact ⟨rfl, _, World.drewN_drewN _ _ _⟩ | exact ⟨rfl, _, Eq.trans (World.drewN_drewN _ _ _) (congrArg (World.drewN _) (Nat.add_assoc _ _ _))⟩))); try go_wp2_with (first | ((with_reducible refine gate_dst (N := 5) rfl ?_); refine box_event ?hg (N := 5) ?hd (cs := #[.int .i64 0, .int .i64 0]) (t := 63) ?hr ?_; (case hd => rfl); (case hg => rfl); (case hr => first | (go_simp; done) | (go_simp; rfl)); intro gb129 hg w21 hbox hb; have n0_ := aM (below_step bQ hb); have n1_ := aM (hbox); have n2_ := aM ((by rw [hg]; exact (below_size bQ) : w.heap.size ≤ gb129)); have n3_ := aM ((by rw [hg]; exact (below_size bQ) : w.heap.size ≤ gb129)); clear HB; have HB := n0_; have BK129 := n1_; have GW129 := n2_; have GE129 := n3_; clear n0_ n1_ n2_ n3_; clear hb hbox hg; have hcz22_0 : w21.cell? ⟨gb129, 0, none⟩ = some (.int .i64 0) := (blk_cell BK129.out 0).trans rfl; have hcz22_1 : w21.cell? ⟨gb129, 1, none⟩ = some (.int .i64 0) := (blk_cell BK129.out 1).trans rfl; have hfz22_0 := blk_frozen BK129.out 0; have hfz22_1 := blk_frozen BK129.out 1) | (go_at_call 79; (with_reducible refine (spec_l00In.calls ((rd_T63 l0 x4_1).f0) 0 39 false _ A4.out).mono ?_); rintro e w' ⟨rfl, ⟨nd, rfl⟩⟩; (try first | exact ⟨rfl, _, World.drewN_drewN _ _ _⟩ | exact ⟨rfl, _, Eq.trans (World.drewN_drewN _ _ _) (congrArg (World.drewN _) (Nat.add_assoc _ _ _))⟩))))
      go_ret2
      exact ⟨_, eQ, by first | exact Kd.R_nil _ _ _ _ _ | exact Kd.N_nil _ _ _ _ _ | exact Kd.V_nil _ _ _ _ _ | exact Kd.Q_nil _ _ _ _ _ | exact Kd.S_nil _ _ _ _ _, by repeat (first | (with_reducible first | exact HB.out | apply bA | apply bN | apply bD | refine below_set ?_ GE129.out) | exact HB.out)⟩
    ·rw [if_neg c3] at H
     exact absurd H (by simp)
   ·rw [if_neg c2] at H
    have c2b0 : decide (x4_1 < (l0.length : Int)) = false := decide_eq_false c2
    clear c2
    obtain ⟨y133, hy133⟩ : ∃ y_ : List Int, y_ = (([] : List Int)) := ⟨_, rfl⟩
    replace H : (spec_ClassOfRanges.l1 k1 l0 y133 0) = some (r1, r2) := by first | (rw [hy133]; with_reducible exact H) | (have H2_ := bS H; rw [hy133]; with_reducible exact H2_) | (have H2_ := bS H; with_reducible exact H2_) | with_reducible exact H | (rw [hy133]; exact H) | exact H
    have Ny133 := aM hy133
    clear hy133
    have H' := aM H
    clear H
    go_wp2_with (first | ((with_reducible refine gate_dst (N := 46) rfl ?_); refine Kd.R_lit (Kd.int .i64) _ 2 ?hg (N := 46) ?hd (xs := ([] : List Int)) (inner := []) (ok := fun _ => True) (okp := fun _ => True) ?hr ?hp (fun _ hk => hk) trivial (Below.refl _ _) (Nat.le_refl _) (by simp) ?_; (case hd => rfl); (case hg => rfl); (case hr => first | (go_simp; done) | (go_simp; rfl)); (case hp => exact (Reps.none _ _)); intro v134 w23 ho24 hb hg_ hnew_; clear hg_ hnew_; (first | rw [← Ny133.out] at ho24 | (simp only [Int.reduceToNat] at ho24; rw [← Ny133.out] at ho24)); have n0_ := aM (Kd.R_lower ho24 (below_size bQ)); have n1_ := aM (below_step bQ hb); clear HB; have HO135 := n0_; have HB := n1_; clear n0_ n1_; clear hb ho24))
    repeat (go_quiet (first | ((with_reducible refine gate_dst (N := 46) rfl ?_); refine Kd.R_lit (Kd.int .i64) _ 2 ?hg (N := 46) ?hd (xs := ([] : List Int)) (inner := []) (ok := fun _ => True) (okp := fun _ => True) ?hr ?hp (fun _ hk => hk) trivial (Below.refl _ _) (Nat.le_refl _) (by simp) ?_; (case hd => rfl); (case hg => rfl); (case hr => first | (go_simp; done) | (go_simp; rfl)); (case hp => exact (Reps.none _ _)); intro v134 w23 ho24 hb hg_ hnew_; clear hg_ hnew_; (first | rw [← Ny133.out] at ho24 | (simp only [Int.reduceToNat] at ho24; rw [← Ny133.out] at ho24)); have n0_ := aM (Kd.R_lower ho24 (below_size bQ)); have n1_ := aM (below_step bQ hb); clear HB; have HO135 := n0_; have HB := n1_; clear n0_ n1_; clear hb ho24)); try go_wp2_with (first | ((with_reducible refine gate_dst (N := 46) rfl ?_); refine Kd.R_lit (Kd.int .i64) _ 2 ?hg (N := 46) ?hd (xs := ([] : List Int)) (inner := []) (ok := fun _ => True) (okp := fun _ => True) ?hr ?hp (fun _ hk => hk) trivial (Below.refl _ _) (Nat.le_refl _) (by simp) ?_; (case hd => rfl); (case hg => rfl); (case hr => first | (go_simp; done) | (go_simp; rfl)); (case hp => exact (Reps.none _ _)); intro v134 w23 ho24 hb hg_ hnew_; clear hg_ hnew_; (first | rw [← Ny133.out] at ho24 | (simp only [Int.reduceToNat] at ho24; rw [← Ny133.out] at ho24)); have n0_ := aM (Kd.R_lower ho24 (below_size bQ)); have n1_ := aM (below_step bQ hb); clear HB; have HO135 := n0_; have HB := n1_; clear n0_ n1_; clear hb ho24)))
    go_loopg [6, 7] k1 (fun kq v6 v7 w' => ∃ (x6_2 : List Int) (x7_2 : Int), v7 = .int .i64 x7_2 ∧ Aside0 (spec_ClassOfRanges.l1 kq l0 x6_2 x7_2 = some (r1, r2)) ∧ Aside0 (kq ≤ k1) ∧ Aside0 (Kd.R (Kd.int .i64) 2 w' w.heap.size (fun _ => True) v6 x6_2) ∧ Aside0 (Below w.heap.size w w'))
    case atStart => exact ⟨(y133), (0), rQ, H', ⟨Nat.le_refl _⟩, ⟨by (with_reducible repeat (first | apply rA | apply rN | apply rD)); exact HO135.out⟩, ⟨bQ⟩⟩
    case round =>
     clear H'
     try clear c1
     try clear p1
     try clear q1
     try clear hx1
     try clear c2
     try clear c2b0
     try clear p2
     try clear c3
     try clear c3b0
     try clear c5
     try clear p6
     try clear c7
     try clear c8
     try clear c8b0
     try clear c10
     try clear c10b0
     try clear c11
     try clear c11b0
     try clear c12
     try clear c12b0
     try clear p12
     try clear q12
     try clear hx12
     try clear p13
     try clear q13
     try clear hx13
     try clear hcz14_0
     try clear hcz14_1
     try clear hcz16_0
     try clear hcz16_1
     try clear hcz18_0
     try clear hcz18_1
     try clear hcz20_0
     try clear hcz20_1
     try clear hcz22_0
     try clear hcz22_1
     try clear hfz14_0
     try clear hfz14_1
     try clear hfz16_0
     try clear hfz16_1
     try clear hfz18_0
     try clear hfz18_1
     try clear hfz20_0
     try clear hfz20_1
     try clear hfz22_0
     try clear hfz22_1
     try clear hx128_0
     try clear hx128_1
     try clear hx132_0
     try clear hx132_1
     try clear p128
     try clear p132
     try clear q128
     try clear q132
     obtain ⟨x6_2, x7_2, rfl, HA, HK2, HO_6, HB⟩ := hrel
     cases gk with
     | zero => exact absurd HA.out (by simp [spec_ClassOfRanges.l1])
     | succ k2 =>
      have H := HA.out
      clear HA
      simp only [spec_ClassOfRanges.l1] at H
      by_cases c25 : x7_2 < (l0.length : Int)
      ·rw [if_pos c25] at H
       have c25b0 : decide (x7_2 < (l0.length : Int)) = true := decide_eq_true c25
       clear c25
       by_cases c26 : 0 ≤ x7_2
       ·rw [if_pos c26] at H
        have c26b0 : decide (0 ≤ x7_2) = true := decide_eq_true c26
        clear c26
        have H' := aM H
        clear H
        have p136 : 0 ≤ (x7_2 : Int) := dA
        have q136 : x7_2 < (l0.length : Int) := dA
        obtain ⟨ad136, e136, hx136_0, hx136_1⟩ := at_T63 HR0.out x7_2 p136 q136
        cases e136
        replace hx136_0 := cB HB.out hx136_0
        replace hx136_1 := cB HB.out hx136_1
        replace p136 := eq_true p136
        replace q136 := eq_true q136
        go_wp2
        repeat (go_quiet (fail); try go_wp2)
        go_loopg [6, 8] k2 (fun kq v6 v8 w' => ∃ (x6_3 : List Int) (x8_3 : Int), v8 = .int .i64 x8_3 ∧ Aside0 (spec_ClassOfRanges.l2 kq l0 x6_3 x7_2 x8_3 = some (r1, r2)) ∧ Aside0 (kq ≤ k2) ∧ Aside0 (Kd.R (Kd.int .i64) 2 w' w.heap.size (fun _ => True) v6 x6_3) ∧ Aside0 (Below w.heap.size w w'))
        case atStart => exact ⟨(x6_2), ((rd_T63 l0 x7_2).f0), rQ, H', ⟨Nat.le_refl _⟩, ⟨by (with_reducible repeat (first | apply rA | apply rN | apply rD)); exact HO_6.out⟩, ⟨bQ⟩⟩
        case round =>
         clear H'
         try clear c1
         try clear p1
         try clear q1
         try clear hx1
         try clear c2
         try clear c2b0
         try clear p2
         try clear c3
         try clear c3b0
         try clear c5
         try clear p6
         try clear c7
         try clear c8
         try clear c8b0
         try clear c10
         try clear c10b0
         try clear c11
         try clear c11b0
         try clear c12
         try clear c12b0
         try clear p12
         try clear q12
         try clear hx12
         try clear p13
         try clear q13
         try clear hx13
         try clear c25
         try clear c25b0
         try clear c26
         try clear c26b0
         try clear hcz14_0
         try clear hcz14_1
         try clear hcz16_0
         try clear hcz16_1
         try clear hcz18_0
         try clear hcz18_1
         try clear hcz20_0
         try clear hcz20_1
         try clear hcz22_0
         try clear hcz22_1
         try clear hfz14_0
         try clear hfz14_1
         try clear hfz16_0
         try clear hfz16_1
         try clear hfz18_0
         try clear hfz18_1
         try clear hfz20_0
         try clear hfz20_1
         try clear hfz22_0
         try clear hfz22_1
         try clear hx128_0
         try clear hx128_1
         try clear hx132_0
         try clear hx132_1
         try clear hx136_0
         try clear hx136_1
         try clear p1
         try clear p12
         try clear p128
         try clear p13
         try clear p132
         try clear p136
         try clear p2
         try clear p6
         try clear q1
         try clear q12
         try clear q128
         try clear q13
         try clear q132
         try clear q136
         obtain ⟨x6_3, x8_3, rfl, HA, HK3, HO_6, HB⟩ := hrel
         cases gk with
         | zero => exact absurd HA.out (by simp [spec_ClassOfRanges.l2])
         | succ k3 =>
          have H := HA.out
          clear HA
          simp only [spec_ClassOfRanges.l2] at H
          by_cases c27 : 0 ≤ x7_2
          ·rw [if_pos c27] at H
           have c27b0 : decide (0 ≤ x7_2) = true := decide_eq_true c27
           clear c27
           by_cases c28 : x7_2 < (l0.length : Int)
           ·rw [if_pos c28] at H
            have c28b0 : decide (x7_2 < (l0.length : Int)) = true := decide_eq_true c28
            clear c28
            by_cases c29 : x8_3 ≤ ((rd_T63 l0 x7_2).f1)
            ·rw [if_pos c29] at H
             have c29b0 : decide (x8_3 ≤ ((rd_T63 l0 x7_2).f1)) = true := decide_eq_true c29
             clear c29
             by_cases c30 : x6_3.length < 17592186044416
             ·rw [if_pos c30] at H
              have LMc30 := aM c30
              clear c30
              obtain ⟨y138, hy138⟩ : ∃ y_ : List Int, y_ = (x6_3 ++ [x8_3]) := ⟨_, rfl⟩
              replace H : (spec_ClassOfRanges.l2 k3 l0 y138 x7_2 (wrap64 (x8_3 + 1))) = some (r1, r2) := by first | (rw [hy138]; with_reducible exact H) | (have H2_ := bS H; rw [hy138]; with_reducible exact H2_) | (have H2_ := bS H; with_reducible exact H2_) | with_reducible exact H | (rw [hy138]; exact H) | exact H
              have Ny138 := aM hy138
              clear hy138
              have H' := aM H
              clear H
              have p137 : 0 ≤ (x7_2 : Int) := dA
              have q137 : x7_2 < (l0.length : Int) := dA
              obtain ⟨ad137, e137, hx137_0, hx137_1⟩ := at_T63 HR0.out x7_2 p137 q137
              obtain rfl : ad136 = ad137 := (by injection e137)
              replace hx137_0 := cB HB.out hx137_0
              replace hx137_1 := cB HB.out hx137_1
              replace p137 := eq_true p137
              replace q137 := eq_true q137
              go_wp2_with (first | ((with_reducible refine gate_builtin (b := .append) (xs := #[.tmp 67, .tmp 69]) rfl ?_); at_builtin; refine Kd.R_append (Kd.int .i64) (w0 := w) w.heap.size rfl (.tmp 67) (.tmp 69) 22 2 (.int .i64 0) 8 rfl Tryd.underlying22 info2 rfl (by decide) (by omega) u6 x6_3 x8_3 [.int .i64 x8_3] (fun _ => True) (fun _ => False) rfl rfl ?aP (fun _ hk => hk.elim) ?aF ?aO ?aB ?aS ?aL ?_; (case aP => exact rfl); (case aB => exact bQ); (case aF => exact (fun _ _ => trivial)); (case aO => exact (by (with_reducible repeat (first | apply rA | apply rN | apply rD)); exact HO_6.out)); (case aS => exact (below_size bQ)); (case aL => have := LMc30.out; omega); intro v139 w31 ho hb hg hat; rw [← Ny138.out] at ho; have n0_ := aM (hb); have n1_ := aM (ho); clear HB; clear HO_6; have HB := n0_; have HO140 := n1_; clear n0_ n1_; clear ho hb hg hat))
              repeat (go_quiet (first | ((with_reducible refine gate_builtin (b := .append) (xs := #[.tmp 67, .tmp 69]) rfl ?_); at_builtin; refine Kd.R_append (Kd.int .i64) (w0 := w) w.heap.size rfl (.tmp 67) (.tmp 69) 22 2 (.int .i64 0) 8 rfl Tryd.underlying22 info2 rfl (by decide) (by omega) u6 x6_3 x8_3 [.int .i64 x8_3] (fun _ => True) (fun _ => False) rfl rfl ?aP (fun _ hk => hk.elim) ?aF ?aO ?aB ?aS ?aL ?_; (case aP => exact rfl); (case aB => exact bQ); (case aF => exact (fun _ _ => trivial)); (case aO => exact (by (with_reducible repeat (first | apply rA | apply rN | apply rD)); exact HO_6.out)); (case aS => exact (below_size bQ)); (case aL => have := LMc30.out; omega); intro v139 w31 ho hb hg hat; rw [← Ny138.out] at ho; have n0_ := aM (hb); have n1_ := aM (ho); clear HB; clear HO_6; have HB := n0_; have HO140 := n1_; clear n0_ n1_; clear ho hb hg hat)); try go_wp2_with (first | ((with_reducible refine gate_builtin (b := .append) (xs := #[.tmp 67, .tmp 69]) rfl ?_); at_builtin; refine Kd.R_append (Kd.int .i64) (w0 := w) w.heap.size rfl (.tmp 67) (.tmp 69) 22 2 (.int .i64 0) 8 rfl Tryd.underlying22 info2 rfl (by decide) (by omega) u6 x6_3 x8_3 [.int .i64 x8_3] (fun _ => True) (fun _ => False) rfl rfl ?aP (fun _ hk => hk.elim) ?aF ?aO ?aB ?aS ?aL ?_; (case aP => exact rfl); (case aB => exact bQ); (case aF => exact (fun _ _ => trivial)); (case aO => exact (by (with_reducible repeat (first | apply rA | apply rN | apply rD)); exact HO_6.out)); (case aS => exact (below_size bQ)); (case aL => have := LMc30.out; omega); intro v139 w31 ho hb hg hat; rw [← Ny138.out] at ho; have n0_ := aM (hb); have n1_ := aM (ho); clear HB; clear HO_6; have HB := n0_; have HO140 := n1_; clear n0_ n1_; clear ho hb hg hat)))
              go_roundg k3
              case measure => have := HK1.out; have := HK2.out; have := HK3.out; omega
              case rel => exact ⟨(y138), (wrap64 (x8_3 + 1)), rQ, H', ⟨by have := HK1.out; have := HK2.out; have := HK3.out; omega⟩, ⟨by (with_reducible repeat (first | apply rA | apply rN | apply rD)); exact HO140.out⟩, ⟨bQ⟩⟩
             ·rw [if_neg c30] at H
              exact absurd H (by simp)
            ·rw [if_neg c29] at H
             have c29b0 : decide (x8_3 ≤ ((rd_T63 l0 x7_2).f1)) = false := decide_eq_false c29
             clear c29
             have H' := aM H
             clear H
             have p137 : 0 ≤ (x7_2 : Int) := dA
             have q137 : x7_2 < (l0.length : Int) := dA
             obtain ⟨ad137, e137, hx137_0, hx137_1⟩ := at_T63 HR0.out x7_2 p137 q137
             obtain rfl : ad136 = ad137 := (by injection e137)
             replace hx137_0 := cB HB.out hx137_0
             replace hx137_1 := cB HB.out hx137_1
             replace p137 := eq_true p137
             replace q137 := eq_true q137
             go_wp2
             repeat (go_quiet (fail); try go_wp2)
             go_roundg k3
             case measure => have := HK1.out; have := HK2.out; have := HK3.out; omega
             case rel => exact ⟨(x6_3), (wrap64 (x7_2 + 1)), rQ, H', ⟨by have := HK1.out; have := HK2.out; have := HK3.out; omega⟩, ⟨by (with_reducible repeat (first | apply rA | apply rN | apply rD)); exact HO_6.out⟩, ⟨bQ⟩⟩
           ·rw [if_neg c28] at H
            exact absurd H (by simp)
          ·rw [if_neg c27] at H
           exact absurd H (by simp)
       ·rw [if_neg c26] at H
        exact absurd H (by simp)
      ·rw [if_neg c25] at H
       have c25b0 : decide (x7_2 < (l0.length : Int)) = false := decide_eq_false c25
       clear c25
       simp only [Option.some.injEq, Prod.mk.injEq] at H
       obtain ⟨rfl, rfl⟩ := H
       go_wp2
       repeat (go_quiet (fail); try go_wp2)
       go_ret2
       exact ⟨_, eQ, by (with_reducible repeat (first | apply rA | apply rN | apply rD)); exact HO_6.out, bQ⟩

end Go.Proofs.YtdahcapolipnbaaDoor.QFnExactReadClass
