/- What some Go functions answer, each as a Lean function, and that the machine answers so: written by a program of this session out of the translation. -/
import Derived.Test.YtdahcapolipnbaaQFnExactRuleForx0
import Derived.Test.YtdahcapolipnbaaQFnExactRuleForx3
namespace Go.Proofs.Ytdahcapolipnbaa.QFnExactRuleFor
open Go.RowKit Go.Proofs.YtdahcapolipnbaaW.PrintWords Go.Proofs.YtdahcapolipnbaaW.PrintLast Go.Proofs.YtdahcapolipnbaaW.PrintMore Go.Proofs.Ytdahcapolipnbaa.Rp
attribute [local go_sem] max2_int min2_int max_two min_two max_three min_three max_four min_four   -- for this text's walks alone
set_option linter.unusedVariables false
set_option linter.unusedSimpArgs false

/-! ### spec_l25Lookups: function 141 -/
mutual
def spec_l25Lookups.l0 : Nat → List (S61) → Int → Option (Bool)
 | 0, _, _ => none
 | k + 1, x0, x3 => if x3 < (x0.length : Int) then (if 0 ≤ x3 then ((spec_IsName.f k ((rd_T61 x0 x3).f0)).bind fun t162 => (if t162 = true then (spec_l25Lookups.j1 k x0 x3 (decide ((((rd_T61 x0 x3).f1).length : Int) > 40))) else (spec_l25Lookups.j1 k x0 x3 true))) else (none)) else (some (decide ((x0.length : Int) ≤ 8)))
def spec_l25Lookups.j1 : Nat → List (S61) → Int → Bool → Option (Bool)
 | 0, _, _, _ => none
 | k + 1, x0, x3, x27 => if x27 = true then (some false) else (spec_l25Lookups.l1 k x0 x3 0)
def spec_l25Lookups.l1 : Nat → List (S61) → Int → Int → Option (Bool)
 | 0, _, _, _ => none
 | k + 1, x0, x3, x4 => if x4 < x3 then (if 0 ≤ x4 then (if x4 < (x0.length : Int) then (if 0 ≤ x3 then (if x3 < (x0.length : Int) then (if ((rd_T61 x0 x4).f0).toList = ((rd_T61 x0 x3).f0).toList then (some false) else (spec_l25Lookups.l1 k x0 x3 (wrap64 (x4 + 1)))) else (none)) else (none)) else (none)) else (none)) else (spec_l25Lookups.l2 k x0 x3 0)
def spec_l25Lookups.l2 : Nat → List (S61) → Int → Int → Option (Bool)
 | 0, _, _, _ => none
 | k + 1, x0, x3, x5 => if 0 ≤ x3 then (if x3 < (x0.length : Int) then (if x5 < (((rd_T61 x0 x3).f1).length : Int) then (if 0 ≤ x5 then ((spec_l25Rule_at.f k ((rd_T61 x0 x3).f1) x5).bind fun t169 => (if t169 = true then (spec_l25Lookups.l2 k x0 x3 (wrap64 (x5 + 1))) else (some false))) else (none)) else (spec_l25Lookups.l0 k x0 (wrap64 (x3 + 1)))) else (none)) else (none)
end
def spec_l25Lookups.f (k : Nat) (l0 : List (S61)) : Option (Bool) := spec_l25Lookups.l0 k l0 0
theorem spec_l25Lookups.mono_l : ∀ k, (∀ y0 y1, LeO (spec_l25Lookups.l0 k y0 y1) (spec_l25Lookups.l0 (k + 1) y0 y1)) ∧ (∀ y0 y1 y2, LeO (spec_l25Lookups.j1 k y0 y1 y2) (spec_l25Lookups.j1 (k + 1) y0 y1 y2)) ∧ (∀ y0 y1 y2, LeO (spec_l25Lookups.l1 k y0 y1 y2) (spec_l25Lookups.l1 (k + 1) y0 y1 y2)) ∧ (∀ y0 y1 y2, LeO (spec_l25Lookups.l2 k y0 y1 y2) (spec_l25Lookups.l2 (k + 1) y0 y1 y2))
 | 0 => ⟨fun _ _ r h => by simp [spec_l25Lookups.l0] at h, fun _ _ _ r h => by simp [spec_l25Lookups.j1] at h, fun _ _ _ r h => by simp [spec_l25Lookups.l1] at h, fun _ _ _ r h => by simp [spec_l25Lookups.l2] at h⟩
 | k + 1 => by
  obtain ⟨ih0, ih1, ih2, ih3⟩ := spec_l25Lookups.mono_l k
  refine ⟨?_, ?_, ?_, ?_⟩
  ·intro y0 y1
   unfold spec_l25Lookups.l0
   repeat' first
   | (with_reducible exact ih0 _ _)
   | (with_reducible exact ih1 _ _ _)
   | (with_reducible exact ih2 _ _ _)
   | (with_reducible exact ih3 _ _ _)
   | (with_reducible exact spec_IsName.mono _ _)
   | (with_reducible exact spec_l25Rule_at.mono _ _ _)
   | (with_reducible exact LeO.refl _)
   | (with_reducible exact LeO.none _)
   | (with_reducible refine LeO.ite ?_ ?_)
   | (with_reducible refine LeO.bind ?_ (fun _ => ?_))
   | exact ih0 _ _
   | exact ih1 _ _ _
   | exact ih2 _ _ _
   | exact ih3 _ _ _
   | exact spec_IsName.mono _ _
   | exact spec_l25Rule_at.mono _ _ _
   | exact LeO.none _
   | refine LeO.ite ?_ ?_
   | refine LeO.bind ?_ (fun _ => ?_)
  ·intro y0 y1 y2
   unfold spec_l25Lookups.j1
   repeat' first
   | (with_reducible exact ih0 _ _)
   | (with_reducible exact ih1 _ _ _)
   | (with_reducible exact ih2 _ _ _)
   | (with_reducible exact ih3 _ _ _)
   | (with_reducible exact spec_IsName.mono _ _)
   | (with_reducible exact spec_l25Rule_at.mono _ _ _)
   | (with_reducible exact LeO.refl _)
   | (with_reducible exact LeO.none _)
   | (with_reducible refine LeO.ite ?_ ?_)
   | (with_reducible refine LeO.bind ?_ (fun _ => ?_))
   | exact ih0 _ _
   | exact ih1 _ _ _
   | exact ih2 _ _ _
   | exact ih3 _ _ _
   | exact spec_IsName.mono _ _
   | exact spec_l25Rule_at.mono _ _ _
   | exact LeO.none _
   | refine LeO.ite ?_ ?_
   | refine LeO.bind ?_ (fun _ => ?_)
  ·intro y0 y1 y2
   unfold spec_l25Lookups.l1
   repeat' first
   | (with_reducible exact ih0 _ _)
   | (with_reducible exact ih1 _ _ _)
   | (with_reducible exact ih2 _ _ _)
   | (with_reducible exact ih3 _ _ _)
   | (with_reducible exact spec_IsName.mono _ _)
   | (with_reducible exact spec_l25Rule_at.mono _ _ _)
   | (with_reducible exact LeO.refl _)
   | (with_reducible exact LeO.none _)
   | (with_reducible refine LeO.ite ?_ ?_)
   | (with_reducible refine LeO.bind ?_ (fun _ => ?_))
   | exact ih0 _ _
   | exact ih1 _ _ _
   | exact ih2 _ _ _
   | exact ih3 _ _ _
   | exact spec_IsName.mono _ _
   | exact spec_l25Rule_at.mono _ _ _
   | exact LeO.none _
   | refine LeO.ite ?_ ?_
   | refine LeO.bind ?_ (fun _ => ?_)
  ·intro y0 y1 y2
   unfold spec_l25Lookups.l2
   repeat' first
   | (with_reducible exact ih0 _ _)
   | (with_reducible exact ih1 _ _ _)
   | (with_reducible exact ih2 _ _ _)
   | (with_reducible exact ih3 _ _ _)
   | (with_reducible exact spec_IsName.mono _ _)
   | (with_reducible exact spec_l25Rule_at.mono _ _ _)
   | (with_reducible exact LeO.refl _)
   | (with_reducible exact LeO.none _)
   | (with_reducible refine LeO.ite ?_ ?_)
   | (with_reducible refine LeO.bind ?_ (fun _ => ?_))
   | exact ih0 _ _
   | exact ih1 _ _ _
   | exact ih2 _ _ _
   | exact ih3 _ _ _
   | exact spec_IsName.mono _ _
   | exact spec_l25Rule_at.mono _ _ _
   | exact LeO.none _
   | refine LeO.ite ?_ ?_
   | refine LeO.bind ?_ (fun _ => ?_)
theorem spec_l25Lookups.mono : ∀ a0 k, LeO (spec_l25Lookups.f k a0) (spec_l25Lookups.f (k + 1) a0) := by
 intro a0 k
 obtain ⟨ih0, ih1, ih2, ih3⟩ := spec_l25Lookups.mono_l k
 unfold spec_l25Lookups.f
 repeat' first
   | (with_reducible exact ih0 _ _)
   | (with_reducible exact ih1 _ _ _)
   | (with_reducible exact ih2 _ _ _)
   | (with_reducible exact ih3 _ _ _)
   | (with_reducible exact spec_IsName.mono _ _)
   | (with_reducible exact spec_l25Rule_at.mono _ _ _)
   | (with_reducible exact LeO.refl _)
   | (with_reducible exact LeO.none _)
   | (with_reducible refine LeO.ite ?_ ?_)
   | (with_reducible refine LeO.bind ?_ (fun _ => ?_))
   | exact ih0 _ _
   | exact ih1 _ _ _
   | exact ih2 _ _ _
   | exact ih3 _ _ _
   | exact spec_IsName.mono _ _
   | exact spec_l25Rule_at.mono _ _ _
   | exact LeO.none _
   | refine LeO.ite ?_ ?_
   | refine LeO.bind ?_ (fun _ => ?_)
set_option maxHeartbeats 8000000 in
set_option maxRecDepth 100000 in
theorem spec_l25Lookups.calls (k : Nat) (A0 : Option Addr) (c0 : Nat) (l0 : List (S61)) (r : Bool) (w : World) (hr0 : Kd.C k61 w A0 l0.length l0) (hc0 : l0.length ≤ c0) (h : spec_l25Lookups.f k l0 = some r) :
  Calls Try.prog 141 #[.slice A0 l0.length c0] w fun e w' => e = .returned (.bool r) ∧ Below w.heap.size w w' := by
 have HR0 := aM hr0
 have HC0 := aM hc0
 clear hr0 hc0
 have HB := aM (Below.refl w.heap.size w)
 have H : (spec_l25Lookups.l0 k l0 0) = some r := h
 clear h
 have H' := aM H
 clear H
 go_enter Try.func141, Try.ntmps141
 go_wp2
 repeat (go_quiet (fail); try go_wp2)
 go_loopg [3] k (fun kq v3 w' => ∃ (x3_1 : Int), v3 = .int .i64 x3_1 ∧ Aside0 (spec_l25Lookups.l0 kq l0 x3_1 = some r) ∧ Aside0 (kq ≤ k) ∧ Aside0 (Below w.heap.size w w'))
 case atStart => exact ⟨(0), rQ, H', ⟨Nat.le_refl _⟩, ⟨bQ⟩⟩
 case round =>
  clear H'
  try clear c1
  obtain ⟨x3_1, rfl, HA, HK1, HB⟩ := hrel
  cases gk with
  | zero => exact absurd HA.out (by simp [spec_l25Lookups.l0])
  | succ k1 =>
   have H := HA.out
   clear HA
   simp only [spec_l25Lookups.l0] at H
   by_cases c2 : x3_1 < (l0.length : Int)
   ·rw [if_pos c2] at H
    have c2b0 : decide (x3_1 < (l0.length : Int)) = true := decide_eq_true c2
    clear c2
    have HC3 := aM H
    clear H
    go_upto_region 4 with (fail)
    repeat (go_quiet (fail); go_upto_region 4 with (fail))
    go_cut [27] (fun v27 wc => ∃ (kq : Nat) (x27_2 : Bool), v27 = .bool x27_2 ∧ Aside0 (spec_l25Lookups.j1 kq l0 x3_1 x27_2 = some r) ∧ Aside0 (kq ≤ k1) ∧ Aside0 (Below w.heap.size w wc))
    case first =>
     have H := HC3.out
     clear HC3
     by_cases c4 : 0 ≤ x3_1
     ·rw [if_pos c4] at H
      have c4b0 : decide (0 ≤ x3_1) = true := decide_eq_true c4
      clear c4
      (first | rw [c4b0] | (simp only [i64_w, i32_w]; rw [c4b0]) | rw [c4b1] | rw [c4b2] | rw [c4b3] | rw [c4b4] | skip)
      replace H := Option.bind_eq_some_iff.mp H
      obtain ⟨t162, A50, H⟩ := H
      replace H : (if t162 = true then (spec_l25Lookups.j1 k1 l0 x3_1 (decide ((((rd_T61 l0 x3_1).f1).length : Int) > 40))) else (spec_l25Lookups.j1 k1 l0 x3_1 true)) = some r := H
      have A5 := aM A50
      clear A50
      by_cases c6 : t162 = true
      ·subst c6
       have H1 : (spec_l25Lookups.j1 k1 l0 x3_1 (decide ((((rd_T61 l0 x3_1).f1).length : Int) > 40))) = some r := by rw [if_pos rfl] at H; exact H
       clear H
       have H := H1
       clear H1
       have H' := aM H
       clear H
       have p161 : 0 ≤ (x3_1 : Int) := dA
       have q161 : x3_1 < (l0.length : Int) := dA
       obtain ⟨ad161, A161_1, c161_1, e161, hx161_0, hx161_1, hl161_1, hi161_1⟩ := at_T61 HR0.out x3_1 p161 q161
       cases e161
       replace hx161_0 := cB HB.out hx161_0
       replace hx161_1 := cB HB.out hx161_1
       have HR161_1 := aM hi161_1
       have HC161_1 := aM hl161_1
       clear hi161_1 hl161_1
       replace p161 := eq_true p161
       replace q161 := eq_true q161
       go_wp2_with (first | (go_at_call 173; (with_reducible refine (spec_IsName.calls k1 ((rd_T61 l0 x3_1).f0) true _ A5.out).mono ?_); rintro e w' ⟨rfl, ⟨nd, rfl⟩⟩; (try first | exact ⟨rfl, _, World.drewN_drewN _ _ _⟩ | exact ⟨rfl, _, Eq.trans (World.drewN_drewN _ _ _) (congrArg (World.drewN _) (Nat.add_assoc _ _ _))⟩); have p163 : 0 ≤ (x3_1 : Int) := dA; have q163 : x3_1 < (l0.length : Int) := dA; obtain ⟨ad163, A163_1, c163_1, e163, hx163_0, hx163_1, hl163_1, hi163_1⟩ := at_T61 HR0.out x3_1 p163 q163; obtain rfl : ad161 = ad163 := (by injection e163); replace hx163_0 := cB HB.out hx163_0; replace hx163_1 := cB HB.out hx163_1; have HR163_1 := aM hi163_1; have HC163_1 := aM hl163_1; clear hi163_1 hl163_1; replace p163 := eq_true p163; replace q163 := eq_true q163; obtain ⟨rfl, rfl⟩ := sE hx161_1 hx163_1))
       repeat (go_quiet (first | (go_at_call 173; (with_reducible refine (spec_IsName.calls k1 ((rd_T61 l0 x3_1).f0) true _ A5.out).mono ?_); rintro e w' ⟨rfl, ⟨nd, rfl⟩⟩; (try first | exact ⟨rfl, _, World.drewN_drewN _ _ _⟩ | exact ⟨rfl, _, Eq.trans (World.drewN_drewN _ _ _) (congrArg (World.drewN _) (Nat.add_assoc _ _ _))⟩); have p163 : 0 ≤ (x3_1 : Int) := dA; have q163 : x3_1 < (l0.length : Int) := dA; obtain ⟨ad163, A163_1, c163_1, e163, hx163_0, hx163_1, hl163_1, hi163_1⟩ := at_T61 HR0.out x3_1 p163 q163; obtain rfl : ad161 = ad163 := (by injection e163); replace hx163_0 := cB HB.out hx163_0; replace hx163_1 := cB HB.out hx163_1; have HR163_1 := aM hi163_1; have HC163_1 := aM hl163_1; clear hi163_1 hl163_1; replace p163 := eq_true p163; replace q163 := eq_true q163; obtain ⟨rfl, rfl⟩ := sE hx161_1 hx163_1)); try go_wp2_with (first | (go_at_call 173; (with_reducible refine (spec_IsName.calls k1 ((rd_T61 l0 x3_1).f0) true _ A5.out).mono ?_); rintro e w' ⟨rfl, ⟨nd, rfl⟩⟩; (try first | exact ⟨rfl, _, World.drewN_drewN _ _ _⟩ | exact ⟨rfl, _, Eq.trans (World.drewN_drewN _ _ _) (congrArg (World.drewN _) (Nat.add_assoc _ _ _))⟩); have p163 : 0 ≤ (x3_1 : Int) := dA; have q163 : x3_1 < (l0.length : Int) := dA; obtain ⟨ad163, A163_1, c163_1, e163, hx163_0, hx163_1, hl163_1, hi163_1⟩ := at_T61 HR0.out x3_1 p163 q163; obtain rfl : ad161 = ad163 := (by injection e163); replace hx163_0 := cB HB.out hx163_0; replace hx163_1 := cB HB.out hx163_1; have HR163_1 := aM hi163_1; have HC163_1 := aM hl163_1; clear hi163_1 hl163_1; replace p163 := eq_true p163; replace q163 := eq_true q163; obtain ⟨rfl, rfl⟩ := sE hx161_1 hx163_1)))
       go_meet
       case rel => exact ⟨_, (decide ((((rd_T61 l0 x3_1).f1).length : Int) > 40)), rQ, H', ⟨by have := HK1.out; first | omega | exact Nat.le_refl _⟩, ⟨bQ⟩⟩
      ·replace c6 := Bool.eq_false_iff.mpr c6
       subst c6
       have H1 : (spec_l25Lookups.j1 k1 l0 x3_1 true) = some r := by rw [if_neg (show ¬ (false = true) by decide)] at H; exact H
       clear H
       have H := H1
       clear H1
       have H' := aM H
       clear H
       have p161 : 0 ≤ (x3_1 : Int) := dA
       have q161 : x3_1 < (l0.length : Int) := dA
       obtain ⟨ad161, A161_1, c161_1, e161, hx161_0, hx161_1, hl161_1, hi161_1⟩ := at_T61 HR0.out x3_1 p161 q161
       cases e161
       replace hx161_0 := cB HB.out hx161_0
       replace hx161_1 := cB HB.out hx161_1
       have HR161_1 := aM hi161_1
       have HC161_1 := aM hl161_1
       clear hi161_1 hl161_1
       replace p161 := eq_true p161
       replace q161 := eq_true q161
       go_wp2_with (first | (go_at_call 173; (with_reducible refine (spec_IsName.calls k1 ((rd_T61 l0 x3_1).f0) false _ A5.out).mono ?_); rintro e w' ⟨rfl, ⟨nd, rfl⟩⟩; (try first | exact ⟨rfl, _, World.drewN_drewN _ _ _⟩ | exact ⟨rfl, _, Eq.trans (World.drewN_drewN _ _ _) (congrArg (World.drewN _) (Nat.add_assoc _ _ _))⟩)))
       repeat (go_quiet (first | (go_at_call 173; (with_reducible refine (spec_IsName.calls k1 ((rd_T61 l0 x3_1).f0) false _ A5.out).mono ?_); rintro e w' ⟨rfl, ⟨nd, rfl⟩⟩; (try first | exact ⟨rfl, _, World.drewN_drewN _ _ _⟩ | exact ⟨rfl, _, Eq.trans (World.drewN_drewN _ _ _) (congrArg (World.drewN _) (Nat.add_assoc _ _ _))⟩))); try go_wp2_with (first | (go_at_call 173; (with_reducible refine (spec_IsName.calls k1 ((rd_T61 l0 x3_1).f0) false _ A5.out).mono ?_); rintro e w' ⟨rfl, ⟨nd, rfl⟩⟩; (try first | exact ⟨rfl, _, World.drewN_drewN _ _ _⟩ | exact ⟨rfl, _, Eq.trans (World.drewN_drewN _ _ _) (congrArg (World.drewN _) (Nat.add_assoc _ _ _))⟩))))
       go_meet
       case rel => exact ⟨_, (true), rQ, H', ⟨by have := HK1.out; first | omega | exact Nat.le_refl _⟩, ⟨bQ⟩⟩
     ·rw [if_neg c4] at H
      exact absurd H (by simp)
    case rest =>
     clear HC3
     try clear c1
     try clear p1
     try clear q1
     try clear hx1
     try clear c2
     try clear c2b0
     try clear p2
     try clear c4
     try clear c4b0
     try clear c4b1
     try clear c4b2
     try clear c6
     try clear hx161_0
     try clear hx161_1
     try clear hx163_0
     try clear hx163_1
     try clear p161
     try clear p163
     try clear q161
     try clear q163
     obtain ⟨kq, x27_2, rfl, HA, HJ2, HB⟩ := hcut
     cases kq with
     | zero => exact absurd HA.out (by simp [spec_l25Lookups.j1])
     | succ kj2 =>
      have H := HA.out
      clear HA
      simp only [spec_l25Lookups.j1] at H
      by_cases c7 : x27_2 = true
      ·subst c7
       have H1 : (some false) = some r := by rw [if_pos rfl] at H; exact H
       clear H
       have H := H1
       clear H1
       obtain rfl := Option.some.inj H
       go_wp2
       repeat (go_quiet (fail); try go_wp2)
       go_ret
       exact ⟨eQ, bQ⟩
      ·replace c7 := Bool.eq_false_iff.mpr c7
       subst c7
       have H1 : (spec_l25Lookups.l1 kj2 l0 x3_1 0) = some r := by rw [if_neg (show ¬ (false = true) by decide)] at H; exact H
       clear H
       have H := H1
       clear H1
       have H' := aM H
       clear H
       go_wp2
       repeat (go_quiet (fail); try go_wp2)
       go_loopg [4] kj2 (fun kq v4 w' => ∃ (x4_3 : Int), v4 = .int .i64 x4_3 ∧ Aside0 (spec_l25Lookups.l1 kq l0 x3_1 x4_3 = some r) ∧ Aside0 (kq ≤ kj2) ∧ Aside0 (Below w.heap.size w w'))
       case atStart => exact ⟨(0), rQ, H', ⟨Nat.le_refl _⟩, ⟨bQ⟩⟩
       case round =>
        clear H'
        try clear c1
        try clear p1
        try clear q1
        try clear hx1
        try clear c2
        try clear c2b0
        try clear p2
        try clear c4
        try clear c4b0
        try clear c4b1
        try clear c4b2
        try clear c6
        try clear c7
        try clear hx161_0
        try clear hx161_1
        try clear hx163_0
        try clear hx163_1
        try clear p1
        try clear p161
        try clear p163
        try clear p2
        try clear q1
        try clear q161
        try clear q163
        obtain ⟨x4_3, rfl, HA, HK3, HB⟩ := hrel
        cases gk with
        | zero => exact absurd HA.out (by simp [spec_l25Lookups.l1])
        | succ k3 =>
         have H := HA.out
         clear HA
         simp only [spec_l25Lookups.l1] at H
         by_cases c8 : x4_3 < x3_1
         ·rw [if_pos c8] at H
          have c8b0 : decide (x4_3 < x3_1) = true := decide_eq_true c8
          clear c8
          by_cases c9 : 0 ≤ x4_3
          ·rw [if_pos c9] at H
           have c9b0 : decide (0 ≤ x4_3) = true := decide_eq_true c9
           clear c9
           by_cases c10 : x4_3 < (l0.length : Int)
           ·rw [if_pos c10] at H
            have c10b0 : decide (x4_3 < (l0.length : Int)) = true := decide_eq_true c10
            clear c10
            by_cases c11 : 0 ≤ x3_1
            ·rw [if_pos c11] at H
             have c11b0 : decide (0 ≤ x3_1) = true := decide_eq_true c11
             clear c11
             by_cases c12 : x3_1 < (l0.length : Int)
             ·rw [if_pos c12] at H
              have c12b0 : decide (x3_1 < (l0.length : Int)) = true := decide_eq_true c12
              clear c12
              by_cases c13 : ((rd_T61 l0 x4_3).f0).toList = ((rd_T61 l0 x3_1).f0).toList
              ·rw [if_pos c13] at H
               have c13b0 : (((rd_T61 l0 x4_3).f0).toList == ((rd_T61 l0 x3_1).f0).toList) = true := beq_iff_eq.mpr c13
               have c13b1 : (((rd_T61 l0 x4_3).f0).toList != ((rd_T61 l0 x3_1).f0).toList) = false := bne_eq_false_iff_eq.mpr c13
               clear c13
               obtain rfl := Option.some.inj H
               have p164 : 0 ≤ (x4_3 : Int) := dA
               have q164 : x4_3 < (l0.length : Int) := dA
               obtain ⟨ad164, A164_1, c164_1, e164, hx164_0, hx164_1, hl164_1, hi164_1⟩ := at_T61 HR0.out x4_3 p164 q164
               cases e164
               replace hx164_0 := cB HB.out hx164_0
               replace hx164_1 := cB HB.out hx164_1
               have HR164_1 := aM hi164_1
               have HC164_1 := aM hl164_1
               clear hi164_1 hl164_1
               replace p164 := eq_true p164
               replace q164 := eq_true q164
               have p165 : 0 ≤ (x3_1 : Int) := dA
               have q165 : x3_1 < (l0.length : Int) := dA
               obtain ⟨ad165, A165_1, c165_1, e165, hx165_0, hx165_1, hl165_1, hi165_1⟩ := at_T61 HR0.out x3_1 p165 q165
               obtain rfl : ad164 = ad165 := (by injection e165)
               replace hx165_0 := cB HB.out hx165_0
               replace hx165_1 := cB HB.out hx165_1
               have HR165_1 := aM hi165_1
               have HC165_1 := aM hl165_1
               clear hi165_1 hl165_1
               replace p165 := eq_true p165
               replace q165 := eq_true q165
               go_wp2
               repeat (go_quiet (fail); try go_wp2)
               go_ret
               exact ⟨eQ, bQ⟩
              ·rw [if_neg c13] at H
               have c13b0 : (((rd_T61 l0 x4_3).f0).toList == ((rd_T61 l0 x3_1).f0).toList) = false := beq_eq_false_iff_ne.mpr c13
               have c13b1 : (((rd_T61 l0 x4_3).f0).toList != ((rd_T61 l0 x3_1).f0).toList) = true := bne_iff_ne.mpr c13
               have H' := aM H
               clear H
               have p164 : 0 ≤ (x4_3 : Int) := dA
               have q164 : x4_3 < (l0.length : Int) := dA
               obtain ⟨ad164, A164_1, c164_1, e164, hx164_0, hx164_1, hl164_1, hi164_1⟩ := at_T61 HR0.out x4_3 p164 q164
               cases e164
               replace hx164_0 := cB HB.out hx164_0
               replace hx164_1 := cB HB.out hx164_1
               have HR164_1 := aM hi164_1
               have HC164_1 := aM hl164_1
               clear hi164_1 hl164_1
               replace p164 := eq_true p164
               replace q164 := eq_true q164
               have p165 : 0 ≤ (x3_1 : Int) := dA
               have q165 : x3_1 < (l0.length : Int) := dA
               obtain ⟨ad165, A165_1, c165_1, e165, hx165_0, hx165_1, hl165_1, hi165_1⟩ := at_T61 HR0.out x3_1 p165 q165
               obtain rfl : ad164 = ad165 := (by injection e165)
               replace hx165_0 := cB HB.out hx165_0
               replace hx165_1 := cB HB.out hx165_1
               have HR165_1 := aM hi165_1
               have HC165_1 := aM hl165_1
               clear hi165_1 hl165_1
               replace p165 := eq_true p165
               replace q165 := eq_true q165
               go_wp2
               repeat (go_quiet (fail); try go_wp2)
               go_roundg k3
               case measure => have := HK1.out; have := HJ2.out; have := HK3.out; omega
               case rel => exact ⟨(wrap64 (x4_3 + 1)), rQ, H', ⟨by have := HK1.out; have := HJ2.out; have := HK3.out; omega⟩, ⟨bQ⟩⟩
             ·rw [if_neg c12] at H
              exact absurd H (by simp)
            ·rw [if_neg c11] at H
             exact absurd H (by simp)
           ·rw [if_neg c10] at H
            exact absurd H (by simp)
          ·rw [if_neg c9] at H
           exact absurd H (by simp)
         ·rw [if_neg c8] at H
          have c8b0 : decide (x4_3 < x3_1) = false := decide_eq_false c8
          clear c8
          have H' := aM H
          clear H
          go_wp2
          repeat (go_quiet (fail); try go_wp2)
          go_loopg [5] k3 (fun kq v5 w' => ∃ (x5_4 : Int), v5 = .int .i64 x5_4 ∧ Aside0 (spec_l25Lookups.l2 kq l0 x3_1 x5_4 = some r) ∧ Aside0 (kq ≤ k3) ∧ Aside0 (Below w.heap.size w w'))
          case atStart => exact ⟨(0), rQ, H', ⟨Nat.le_refl _⟩, ⟨bQ⟩⟩
          case round =>
           clear H'
           try clear c1
           try clear p1
           try clear q1
           try clear hx1
           try clear c2
           try clear c2b0
           try clear p2
           try clear c4
           try clear c4b0
           try clear c4b1
           try clear c4b2
           try clear c6
           try clear p6
           try clear c7
           try clear c8
           try clear c8b0
           try clear c9
           try clear c9b0
           try clear c10
           try clear c10b0
           try clear c11
           try clear c11b0
           try clear c12
           try clear c12b0
           try clear c13
           try clear c13b0
           try clear c13b1
           try clear hx161_0
           try clear hx161_1
           try clear hx163_0
           try clear hx163_1
           try clear hx164_0
           try clear hx164_1
           try clear hx165_0
           try clear hx165_1
           try clear p1
           try clear p161
           try clear p163
           try clear p164
           try clear p165
           try clear p2
           try clear q1
           try clear q161
           try clear q163
           try clear q164
           try clear q165
           obtain ⟨x5_4, rfl, HA, HK4, HB⟩ := hrel
           cases gk with
           | zero => exact absurd HA.out (by simp [spec_l25Lookups.l2])
           | succ k4 =>
            have H := HA.out
            clear HA
            simp only [spec_l25Lookups.l2] at H
            by_cases c14 : 0 ≤ x3_1
            ·rw [if_pos c14] at H
             have c14b0 : decide (0 ≤ x3_1) = true := decide_eq_true c14
             clear c14
             by_cases c15 : x3_1 < (l0.length : Int)
             ·rw [if_pos c15] at H
              have c15b0 : decide (x3_1 < (l0.length : Int)) = true := decide_eq_true c15
              clear c15
              by_cases c16 : x5_4 < (((rd_T61 l0 x3_1).f1).length : Int)
              ·rw [if_pos c16] at H
               have c16b0 : decide (x5_4 < (((rd_T61 l0 x3_1).f1).length : Int)) = true := decide_eq_true c16
               clear c16
               by_cases c17 : 0 ≤ x5_4
               ·rw [if_pos c17] at H
                have c17b0 : decide (0 ≤ x5_4) = true := decide_eq_true c17
                clear c17
                replace H := Option.bind_eq_some_iff.mp H
                obtain ⟨t169, A180, H⟩ := H
                replace H : (if t169 = true then (spec_l25Lookups.l2 k4 l0 x3_1 (wrap64 (x5_4 + 1))) else (some false)) = some r := H
                have A18 := aM A180
                clear A180
                by_cases c19 : t169 = true
                ·subst c19
                 have H1 : (spec_l25Lookups.l2 k4 l0 x3_1 (wrap64 (x5_4 + 1))) = some r := by rw [if_pos rfl] at H; exact H
                 clear H
                 have H := H1
                 clear H1
                 have H' := aM H
                 clear H
                 have p166 : 0 ≤ (x3_1 : Int) := dA
                 have q166 : x3_1 < (l0.length : Int) := dA
                 obtain ⟨ad166, A166_1, c166_1, e166, hx166_0, hx166_1, hl166_1, hi166_1⟩ := at_T61 HR0.out x3_1 p166 q166
                 cases e166
                 replace hx166_0 := cB HB.out hx166_0
                 replace hx166_1 := cB HB.out hx166_1
                 have HR166_1 := aM hi166_1
                 have HC166_1 := aM hl166_1
                 clear hi166_1 hl166_1
                 replace p166 := eq_true p166
                 replace q166 := eq_true q166
                 have p167 : 0 ≤ (x3_1 : Int) := dA
                 have q167 : x3_1 < (l0.length : Int) := dA
                 obtain ⟨ad167, A167_1, c167_1, e167, hx167_0, hx167_1, hl167_1, hi167_1⟩ := at_T61 HR0.out x3_1 p167 q167
                 obtain rfl : ad166 = ad167 := (by injection e167)
                 replace hx167_0 := cB HB.out hx167_0
                 replace hx167_1 := cB HB.out hx167_1
                 have HR167_1 := aM hi167_1
                 have HC167_1 := aM hl167_1
                 clear hi167_1 hl167_1
                 replace p167 := eq_true p167
                 replace q167 := eq_true q167
                 have ea_ := Option.some.inj (hx166_1.symm.trans hx167_1)
                 injection ea_ with ea_ en_ ec_
                 subst ea_
                 subst ec_
                 clear en_
                 have p168 : 0 ≤ (x5_4 : Int) := dA
                 have q168 : x5_4 < (((rd_T61 l0 x3_1).f1).length : Int) := dA
                 obtain ⟨ad168, A168_0, c168_0, A168_1, c168_1, A168_2, c168_2, A168_3, c168_3, e168, hx168_0, hx168_1, hx168_2, hx168_3, hl168_0, hi168_0, hl168_1, hi168_1, hl168_2, hi168_2, hl168_3, hi168_3⟩ := at_T38 HR167_1.out x5_4 p168 q168
                 cases e168
                 replace hx168_0 := cB HB.out hx168_0
                 replace hx168_1 := cB HB.out hx168_1
                 replace hx168_2 := cB HB.out hx168_2
                 replace hx168_3 := cB HB.out hx168_3
                 have HR168_0 := aM hi168_0
                 have HC168_0 := aM hl168_0
                 clear hi168_0 hl168_0
                 have HR168_1 := aM hi168_1
                 have HC168_1 := aM hl168_1
                 clear hi168_1 hl168_1
                 have HR168_2 := aM hi168_2
                 have HC168_2 := aM hl168_2
                 clear hi168_2 hl168_2
                 have HR168_3 := aM hi168_3
                 have HC168_3 := aM hl168_3
                 clear hi168_3 hl168_3
                 replace p168 := eq_true p168
                 replace q168 := eq_true q168
                 go_wp2_with (first | (go_at_call 66; (with_reducible refine (spec_l25Rule_at.calls k4 _ ((rd_T61 l0 x3_1).f1) x5_4 true _ ?side1 A18.out).mono ?_); (case side1 => refine RPtr.mk_ (by repeat (first | exact (Kd.C_below HR167_1.out HB.out) | (with_reducible first | refine cA ?_ _ | refine cN ?_ _ | refine cD ?_))) (by first | rfl | exact (Addr.add_zero' _).symm) (by first | omega | exact dA | simp_all) (by first | exact dA | omega | simp_all)); rintro e w20 ⟨rfl, hb⟩; have n0_ := aM (below_step bQ hb); clear HB; have HB := n0_; clear n0_; (try clear hb); (try clear hb2); (try clear hk); (try clear hi)))
                 repeat (go_quiet (first | (go_at_call 66; (with_reducible refine (spec_l25Rule_at.calls k4 _ ((rd_T61 l0 x3_1).f1) x5_4 true _ ?side1 A18.out).mono ?_); (case side1 => refine RPtr.mk_ (by repeat (first | exact (Kd.C_below HR167_1.out HB.out) | (with_reducible first | refine cA ?_ _ | refine cN ?_ _ | refine cD ?_))) (by first | rfl | exact (Addr.add_zero' _).symm) (by first | omega | exact dA | simp_all) (by first | exact dA | omega | simp_all)); rintro e w20 ⟨rfl, hb⟩; have n0_ := aM (below_step bQ hb); clear HB; have HB := n0_; clear n0_; (try clear hb); (try clear hb2); (try clear hk); (try clear hi))); try go_wp2_with (first | (go_at_call 66; (with_reducible refine (spec_l25Rule_at.calls k4 _ ((rd_T61 l0 x3_1).f1) x5_4 true _ ?side1 A18.out).mono ?_); (case side1 => refine RPtr.mk_ (by repeat (first | exact (Kd.C_below HR167_1.out HB.out) | (with_reducible first | refine cA ?_ _ | refine cN ?_ _ | refine cD ?_))) (by first | rfl | exact (Addr.add_zero' _).symm) (by first | omega | exact dA | simp_all) (by first | exact dA | omega | simp_all)); rintro e w20 ⟨rfl, hb⟩; have n0_ := aM (below_step bQ hb); clear HB; have HB := n0_; clear n0_; (try clear hb); (try clear hb2); (try clear hk); (try clear hi))))
                 go_roundg k4
                 case measure => have := HK1.out; have := HJ2.out; have := HK3.out; have := HK4.out; omega
                 case rel => exact ⟨(wrap64 (x5_4 + 1)), rQ, H', ⟨by have := HK1.out; have := HJ2.out; have := HK3.out; have := HK4.out; omega⟩, ⟨bQ⟩⟩
                ·replace c19 := Bool.eq_false_iff.mpr c19
                 subst c19
                 have H1 : (some false) = some r := by rw [if_neg (show ¬ (false = true) by decide)] at H; exact H
                 clear H
                 have H := H1
                 clear H1
                 obtain rfl := Option.some.inj H
                 have p166 : 0 ≤ (x3_1 : Int) := dA
                 have q166 : x3_1 < (l0.length : Int) := dA
                 obtain ⟨ad166, A166_1, c166_1, e166, hx166_0, hx166_1, hl166_1, hi166_1⟩ := at_T61 HR0.out x3_1 p166 q166
                 cases e166
                 replace hx166_0 := cB HB.out hx166_0
                 replace hx166_1 := cB HB.out hx166_1
                 have HR166_1 := aM hi166_1
                 have HC166_1 := aM hl166_1
                 clear hi166_1 hl166_1
                 replace p166 := eq_true p166
                 replace q166 := eq_true q166
                 have p167 : 0 ≤ (x3_1 : Int) := dA
                 have q167 : x3_1 < (l0.length : Int) := dA
                 obtain ⟨ad167, A167_1, c167_1, e167, hx167_0, hx167_1, hl167_1, hi167_1⟩ := at_T61 HR0.out x3_1 p167 q167
                 obtain rfl : ad166 = ad167 := (by injection e167)
                 replace hx167_0 := cB HB.out hx167_0
                 replace hx167_1 := cB HB.out hx167_1
                 have HR167_1 := aM hi167_1
                 have HC167_1 := aM hl167_1
                 clear hi167_1 hl167_1
                 replace p167 := eq_true p167
                 replace q167 := eq_true q167
                 have ea_ := Option.some.inj (hx166_1.symm.trans hx167_1)
                 injection ea_ with ea_ en_ ec_
                 subst ea_
                 subst ec_
                 clear en_
                 have p168 : 0 ≤ (x5_4 : Int) := dA
                 have q168 : x5_4 < (((rd_T61 l0 x3_1).f1).length : Int) := dA
                 obtain ⟨ad168, A168_0, c168_0, A168_1, c168_1, A168_2, c168_2, A168_3, c168_3, e168, hx168_0, hx168_1, hx168_2, hx168_3, hl168_0, hi168_0, hl168_1, hi168_1, hl168_2, hi168_2, hl168_3, hi168_3⟩ := at_T38 HR167_1.out x5_4 p168 q168
                 cases e168
                 replace hx168_0 := cB HB.out hx168_0
                 replace hx168_1 := cB HB.out hx168_1
                 replace hx168_2 := cB HB.out hx168_2
                 replace hx168_3 := cB HB.out hx168_3
                 have HR168_0 := aM hi168_0
                 have HC168_0 := aM hl168_0
                 clear hi168_0 hl168_0
                 have HR168_1 := aM hi168_1
                 have HC168_1 := aM hl168_1
                 clear hi168_1 hl168_1
                 have HR168_2 := aM hi168_2
                 have HC168_2 := aM hl168_2
                 clear hi168_2 hl168_2
                 have HR168_3 := aM hi168_3
                 have HC168_3 := aM hl168_3
                 clear hi168_3 hl168_3
                 replace p168 := eq_true p168
                 replace q168 := eq_true q168
                 go_wp2_with (first | (go_at_call 66; (with_reducible refine (spec_l25Rule_at.calls k4 _ ((rd_T61 l0 x3_1).f1) x5_4 false _ ?side1 A18.out).mono ?_); (case side1 => refine RPtr.mk_ (by repeat (first | exact (Kd.C_below HR167_1.out HB.out) | (with_reducible first | refine cA ?_ _ | refine cN ?_ _ | refine cD ?_))) (by first | rfl | exact (Addr.add_zero' _).symm) (by first | omega | exact dA | simp_all) (by first | exact dA | omega | simp_all)); rintro e w21 ⟨rfl, hb⟩; have n0_ := aM (below_step bQ hb); clear HB; have HB := n0_; clear n0_; (try clear hb); (try clear hb2); (try clear hk); (try clear hi)))
                 repeat (go_quiet (first | (go_at_call 66; (with_reducible refine (spec_l25Rule_at.calls k4 _ ((rd_T61 l0 x3_1).f1) x5_4 false _ ?side1 A18.out).mono ?_); (case side1 => refine RPtr.mk_ (by repeat (first | exact (Kd.C_below HR167_1.out HB.out) | (with_reducible first | refine cA ?_ _ | refine cN ?_ _ | refine cD ?_))) (by first | rfl | exact (Addr.add_zero' _).symm) (by first | omega | exact dA | simp_all) (by first | exact dA | omega | simp_all)); rintro e w21 ⟨rfl, hb⟩; have n0_ := aM (below_step bQ hb); clear HB; have HB := n0_; clear n0_; (try clear hb); (try clear hb2); (try clear hk); (try clear hi))); try go_wp2_with (first | (go_at_call 66; (with_reducible refine (spec_l25Rule_at.calls k4 _ ((rd_T61 l0 x3_1).f1) x5_4 false _ ?side1 A18.out).mono ?_); (case side1 => refine RPtr.mk_ (by repeat (first | exact (Kd.C_below HR167_1.out HB.out) | (with_reducible first | refine cA ?_ _ | refine cN ?_ _ | refine cD ?_))) (by first | rfl | exact (Addr.add_zero' _).symm) (by first | omega | exact dA | simp_all) (by first | exact dA | omega | simp_all)); rintro e w21 ⟨rfl, hb⟩; have n0_ := aM (below_step bQ hb); clear HB; have HB := n0_; clear n0_; (try clear hb); (try clear hb2); (try clear hk); (try clear hi))))
                 go_ret
                 exact ⟨eQ, bQ⟩
               ·rw [if_neg c17] at H
                exact absurd H (by simp)
              ·rw [if_neg c16] at H
               have c16b0 : decide (x5_4 < (((rd_T61 l0 x3_1).f1).length : Int)) = false := decide_eq_false c16
               clear c16
               have H' := aM H
               clear H
               have p166 : 0 ≤ (x3_1 : Int) := dA
               have q166 : x3_1 < (l0.length : Int) := dA
               obtain ⟨ad166, A166_1, c166_1, e166, hx166_0, hx166_1, hl166_1, hi166_1⟩ := at_T61 HR0.out x3_1 p166 q166
               cases e166
               replace hx166_0 := cB HB.out hx166_0
               replace hx166_1 := cB HB.out hx166_1
               have HR166_1 := aM hi166_1
               have HC166_1 := aM hl166_1
               clear hi166_1 hl166_1
               replace p166 := eq_true p166
               replace q166 := eq_true q166
               go_wp2
               repeat (go_quiet (fail); try go_wp2)
               go_roundg k4
               case measure => have := HK1.out; have := HJ2.out; have := HK3.out; have := HK4.out; omega
               case rel => exact ⟨(wrap64 (x3_1 + 1)), rQ, H', ⟨by have := HK1.out; have := HJ2.out; have := HK3.out; have := HK4.out; omega⟩, ⟨bQ⟩⟩
             ·rw [if_neg c15] at H
              exact absurd H (by simp)
            ·rw [if_neg c14] at H
             exact absurd H (by simp)
   ·rw [if_neg c2] at H
    have c2b0 : decide (x3_1 < (l0.length : Int)) = false := decide_eq_false c2
    clear c2
    obtain rfl := Option.some.inj H
    go_wp2
    repeat (go_quiet (fail); try go_wp2)
    go_ret
    exact ⟨eQ, bQ⟩

/-! ### spec_l00Has: function 126 -/
def spec_l00Has.l0 : Nat → List Int → Int → Int → Option (Bool)
 | 0, _, _, _ => none
 | k + 1, x0, x1, x5 => if x5 < (x0.length : Int) then (if 0 ≤ x5 then (if (rd x0 x5) = x1 then (some true) else (spec_l00Has.l0 k x0 x1 (wrap64 (x5 + 1)))) else (none)) else (some false)
def spec_l00Has.f (k : Nat) (l0 : List Int) (a1 : Int) : Option (Bool) := spec_l00Has.l0 k l0 a1 0
theorem spec_l00Has.mono_l : ∀ k, (∀ y0 y1 y2, LeO (spec_l00Has.l0 k y0 y1 y2) (spec_l00Has.l0 (k + 1) y0 y1 y2))
 | 0 => fun _ _ _ r h => by simp [spec_l00Has.l0] at h
 | k + 1 => by
  have ih0 := spec_l00Has.mono_l k
  ·intro y0 y1 y2
   unfold spec_l00Has.l0
   repeat' first
   | (with_reducible exact ih0 _ _ _)
   | (with_reducible exact LeO.refl _)
   | (with_reducible exact LeO.none _)
   | (with_reducible refine LeO.ite ?_ ?_)
   | (with_reducible refine LeO.bind ?_ (fun _ => ?_))
   | exact ih0 _ _ _
   | exact LeO.none _
   | refine LeO.ite ?_ ?_
   | refine LeO.bind ?_ (fun _ => ?_)
theorem spec_l00Has.mono : ∀ a0 a1 k, LeO (spec_l00Has.f k a0 a1) (spec_l00Has.f (k + 1) a0 a1) := by
 intro a0 a1 k
 have ih0 := spec_l00Has.mono_l k
 unfold spec_l00Has.f
 repeat' first
   | (with_reducible exact ih0 _ _ _)
   | (with_reducible exact LeO.refl _)
   | (with_reducible exact LeO.none _)
   | (with_reducible refine LeO.ite ?_ ?_)
   | (with_reducible refine LeO.bind ?_ (fun _ => ?_))
   | exact ih0 _ _ _
   | exact LeO.none _
   | refine LeO.ite ?_ ?_
   | refine LeO.bind ?_ (fun _ => ?_)
set_option maxHeartbeats 8000000 in
set_option maxRecDepth 100000 in
theorem spec_l00Has.calls (k : Nat) (A0 : Option Addr) (c0 : Nat) (l0 : List Int) (a1 : Int) (r : Bool) (w : World) (hr0 : Kd.C (Kd.int .i64) w A0 l0.length l0) (hc0 : l0.length ≤ c0) (h : spec_l00Has.f k l0 a1 = some r) :
  Calls Try.prog 126 #[.slice A0 l0.length c0, .int .i64 a1] w fun e w' => e = .returned (.bool r) ∧ Drawn0 w w' := by
 have HR0 := aM hr0
 have HC0 := aM hc0
 clear hr0 hc0
 have H : (spec_l00Has.l0 k l0 a1 0) = some r := h
 clear h
 have H' := aM H
 clear H
 go_enter Try.func126, Try.ntmps126
 go_wp2
 go_loopg [5] k (fun kq v5 w' => ∃ (x5_1 : Int), v5 = .int .i64 x5_1 ∧ Aside0 (spec_l00Has.l0 kq l0 a1 x5_1 = some r) ∧ Aside0 (kq ≤ k) ∧ Drawn0 w w')
 case atStart => exact ⟨(0), rQ, H', ⟨Nat.le_refl _⟩, by repeat (first | exact Drawn0.refl _ | apply Drawn0.step)⟩
 case round =>
  clear H'
  try clear c1
  try clear p2
  obtain ⟨x5_1, rfl, HA, HK1, ⟨m1, rfl⟩⟩ := hrel
  cases gk with
  | zero => exact absurd HA.out (by simp [spec_l00Has.l0])
  | succ k1 =>
   have H := HA.out
   clear HA
   simp only [spec_l00Has.l0] at H
   by_cases c3 : x5_1 < (l0.length : Int)
   ·rw [if_pos c3] at H
    have c3b0 : decide (x5_1 < (l0.length : Int)) = true := decide_eq_true c3
    clear c3
    by_cases c4 : 0 ≤ x5_1
    ·rw [if_pos c4] at H
     have c4b0 : decide (0 ≤ x5_1) = true := decide_eq_true c4
     clear c4
     by_cases c5 : (rd l0 x5_1) = a1
     ·rw [if_pos c5] at H
      have c5b0 : ((rd l0 x5_1) == a1) = true := beq_iff_eq.mpr c5
      have c5b1 : ((rd l0 x5_1) != a1) = false := bne_eq_false_iff_eq.mpr c5
      clear c5
      obtain rfl := Option.some.inj H
      have p170 : 0 ≤ (x5_1 : Int) := dA
      have q170 : x5_1 < (l0.length : Int) := dA
      obtain ⟨ad170, e170, hx170_0⟩ := Kd.at_int HR0.out x5_1 p170 q170
      cases e170
      replace p170 := eq_true p170
      replace q170 := eq_true q170
      go_wp2
      go_ret
      exact ⟨rQ, by repeat (first | exact Drawn0.refl _ | apply Drawn0.step)⟩
     ·rw [if_neg c5] at H
      have c5b0 : ((rd l0 x5_1) == a1) = false := beq_eq_false_iff_ne.mpr c5
      have c5b1 : ((rd l0 x5_1) != a1) = true := bne_iff_ne.mpr c5
      have H' := aM H
      clear H
      have p170 : 0 ≤ (x5_1 : Int) := dA
      have q170 : x5_1 < (l0.length : Int) := dA
      obtain ⟨ad170, e170, hx170_0⟩ := Kd.at_int HR0.out x5_1 p170 q170
      cases e170
      replace p170 := eq_true p170
      replace q170 := eq_true q170
      go_wp2
      go_roundg k1
      case measure => have := HK1.out; omega
      case rel => exact ⟨(wrap64 (x5_1 + 1)), rQ, H', ⟨by have := HK1.out; omega⟩, by repeat (first | exact Drawn0.refl _ | apply Drawn0.step)⟩
    ·rw [if_neg c4] at H
     exact absurd H (by simp)
   ·rw [if_neg c3] at H
    have c3b0 : decide (x5_1 < (l0.length : Int)) = false := decide_eq_false c3
    clear c3
    obtain rfl := Option.some.inj H
    go_wp2
    go_ret
    exact ⟨rQ, by repeat (first | exact Drawn0.refl _ | apply Drawn0.step)⟩

end Go.Proofs.Ytdahcapolipnbaa.QFnExactRuleFor
