/- What some Go functions answer, each as a Lean function, and that the machine answers so: written by a program of this session out of the translation. -/
import Derived.Test.YthngjfipdfckkaaDoorQFnExactInkOfx0
import Derived.Test.YthngjfipdfckkaaDoorQFnExactInkOfx2
namespace Go.Proofs.YthngjfipdfckkaaDoor.QFnExactInkOf
open Go.RowKit Go.Proofs.YthngjfipdfckkaaDoorW.PrintWords Go.Proofs.YthngjfipdfckkaaDoorW.PrintLast Go.Proofs.YthngjfipdfckkaaDoorW.PrintMore Go.Proofs.YthngjfipdfckkaaDoor.Rp
attribute [local go_sem] max2_int min2_int max_two min_two max_three min_three max_four min_four   -- for this text's walks alone
set_option linter.unusedVariables false
set_option linter.unusedSimpArgs false

/-! ### spec_l22Ink_at: function 40 -/
mutual
def spec_l22Ink_at.l0 : Nat → Int → Int → List (S27) → Int → Option (Int)
 | 0, _, _, _, _ => none
 | k + 1, x3, x4, x1000, x1001 => if x4 < (((rd_T27 x1000 x1001).f3).length : Int) then (spec_l22Ink_at.l1 k x3 x4 0 x1000 x1001) else (some x3)
def spec_l22Ink_at.l1 : Nat → Int → Int → Int → List (S27) → Int → Option (Int)
 | 0, _, _, _, _, _ => none
 | k + 1, x3, x4, x5, x1000, x1001 => if 0 ≤ x4 then (if x4 < (((rd_T27 x1000 x1001).f3).length : Int) then (if x5 < ((rdOf ByteArray.empty ((rd_T27 x1000 x1001).f3) x4).size : Int) then (if 0 ≤ x5 then (if (bt (rdOf ByteArray.empty ((rd_T27 x1000 x1001).f3) x4) x5) = 35 then (spec_l22Ink_at.l1 k (wrap64 (x3 + 1)) x4 (wrap64 (x5 + 1)) x1000 x1001) else (spec_l22Ink_at.l1 k x3 x4 (wrap64 (x5 + 1)) x1000 x1001)) else (none)) else (spec_l22Ink_at.l0 k x3 (wrap64 (x4 + 1)) x1000 x1001)) else (none)) else (none)
end
def spec_l22Ink_at.f (k : Nat) (l0_0 : List (S27)) (a0_1 : Int) : Option (Int) := spec_l22Ink_at.l0 k 0 0 l0_0 a0_1
theorem spec_l22Ink_at.mono_l : ∀ k, (∀ y0 y1 y2 y3, LeO (spec_l22Ink_at.l0 k y0 y1 y2 y3) (spec_l22Ink_at.l0 (k + 1) y0 y1 y2 y3)) ∧ (∀ y0 y1 y2 y3 y4, LeO (spec_l22Ink_at.l1 k y0 y1 y2 y3 y4) (spec_l22Ink_at.l1 (k + 1) y0 y1 y2 y3 y4))
 | 0 => ⟨fun _ _ _ _ r h => by simp [spec_l22Ink_at.l0] at h, fun _ _ _ _ _ r h => by simp [spec_l22Ink_at.l1] at h⟩
 | k + 1 => by
  obtain ⟨ih0, ih1⟩ := spec_l22Ink_at.mono_l k
  refine ⟨?_, ?_⟩
  ·intro y0 y1 y2 y3
   unfold spec_l22Ink_at.l0
   repeat' first
   | (with_reducible exact ih0 _ _ _ _)
   | (with_reducible exact ih1 _ _ _ _ _)
   | (with_reducible exact LeO.refl _)
   | (with_reducible exact LeO.none _)
   | (with_reducible refine LeO.ite ?_ ?_)
   | (with_reducible refine LeO.bind ?_ (fun _ => ?_))
   | exact ih0 _ _ _ _
   | exact ih1 _ _ _ _ _
   | exact LeO.none _
   | refine LeO.ite ?_ ?_
   | refine LeO.bind ?_ (fun _ => ?_)
  ·intro y0 y1 y2 y3 y4
   unfold spec_l22Ink_at.l1
   repeat' first
   | (with_reducible exact ih0 _ _ _ _)
   | (with_reducible exact ih1 _ _ _ _ _)
   | (with_reducible exact LeO.refl _)
   | (with_reducible exact LeO.none _)
   | (with_reducible refine LeO.ite ?_ ?_)
   | (with_reducible refine LeO.bind ?_ (fun _ => ?_))
   | exact ih0 _ _ _ _
   | exact ih1 _ _ _ _ _
   | exact LeO.none _
   | refine LeO.ite ?_ ?_
   | refine LeO.bind ?_ (fun _ => ?_)
theorem spec_l22Ink_at.mono : ∀ a0 a1 k, LeO (spec_l22Ink_at.f k a0 a1) (spec_l22Ink_at.f (k + 1) a0 a1) := by
 intro a0 a1 k
 obtain ⟨ih0, ih1⟩ := spec_l22Ink_at.mono_l k
 unfold spec_l22Ink_at.f
 repeat' first
   | (with_reducible exact ih0 _ _ _ _)
   | (with_reducible exact ih1 _ _ _ _ _)
   | (with_reducible exact LeO.refl _)
   | (with_reducible exact LeO.none _)
   | (with_reducible refine LeO.ite ?_ ?_)
   | (with_reducible refine LeO.bind ?_ (fun _ => ?_))
   | exact ih0 _ _ _ _
   | exact ih1 _ _ _ _ _
   | exact LeO.none _
   | refine LeO.ite ?_ ?_
   | refine LeO.bind ?_ (fun _ => ?_)
set_option maxHeartbeats 8000000 in
set_option maxRecDepth 100000 in
theorem spec_l22Ink_at.calls (k : Nat) (p0_ : Addr) (l0_0 : List (S27)) (a0_1 : Int) (r : Int) (w : World) (hP0_ : RPtr k27 ((a0_1 : Int).toNat * 4) w p0_ l0_0 a0_1) (h : spec_l22Ink_at.f k l0_0 a0_1 = some r) :
  Calls Tryd.prog 40 #[.pointer (some p0_)] w fun e w' => e = .returned (.int .i64 r) ∧ Below w.heap.size w w' := by
 obtain ⟨ad0_, rfl, hr0_0, hi0_, hj0_⟩ := hP0_
 have hc0_0 : l0_0.length ≤ l0_0.length := Nat.le_refl _
 replace hi0_ := decide_eq_true hi0_
 replace hj0_ := decide_eq_true hj0_
 obtain ⟨ad9000, A9000_3, c9000_3, e9000, HX9000_0, HX9000_1, HX9000_2, HX9000_3, HC9000_3, HR9000_3⟩ := at_T27 hr0_0 a0_1 (of_decide_eq_true hi0_) (of_decide_eq_true hj0_)
 obtain rfl : ad0_ = ad9000 := (by injection e9000)
 replace HX9000_0 := aM HX9000_0
 replace HX9000_1 := aM HX9000_1
 replace HX9000_2 := aM HX9000_2
 replace HX9000_3 := aM HX9000_3
 replace HC9000_3 := aM HC9000_3
 replace HR9000_3 := aM HR9000_3
 have HR0_0 := aM hr0_0
 have HC0_0 := aM hc0_0
 clear hr0_0 hc0_0
 have HB := aM (Below.refl w.heap.size w)
 have H : (spec_l22Ink_at.l0 k 0 0 l0_0 a0_1) = some r := h
 clear h
 have H' := aM H
 clear H
 go_enter Tryd.func40, Tryd.ntmps40
 go_wp2
 go_loopg [3, 4] k (fun kq v3 v4 w' => ∃ (x3_1 : Int) (x4_1 : Int), v3 = .int .i64 x3_1 ∧ v4 = .int .i64 x4_1 ∧ Aside0 (spec_l22Ink_at.l0 kq x3_1 x4_1 l0_0 a0_1 = some r) ∧ Aside0 (kq ≤ k) ∧ Aside0 (Below w.heap.size w w'))
 case atStart => exact ⟨(0), (0), rQ, rQ, H', ⟨Nat.le_refl _⟩, ⟨bQ⟩⟩
 case round =>
  clear H'
  obtain ⟨x3_1, x4_1, rfl, rfl, HA, HK1, HB⟩ := hrel
  cases gk with
  | zero => exact absurd HA.out (by simp [spec_l22Ink_at.l0])
  | succ k1 =>
   have H := HA.out
   clear HA
   simp only [spec_l22Ink_at.l0] at H
   by_cases c2 : x4_1 < (((rd_T27 l0_0 a0_1).f3).length : Int)
   ·rw [if_pos c2] at H
    have c2b0 : decide (x4_1 < (((rd_T27 l0_0 a0_1).f3).length : Int)) = true := decide_eq_true c2
    clear c2
    have H' := aM H
    clear H
    have hx141_0 := HX9000_0.out
    have hx141_1 := HX9000_1.out
    have hx141_2 := HX9000_2.out
    have hx141_3 := HX9000_3.out
    replace hx141_0 := cB HB.out hx141_0
    replace hx141_1 := cB HB.out hx141_1
    replace hx141_2 := cB HB.out hx141_2
    replace hx141_3 := cB HB.out hx141_3
    have HR141_3 := HR9000_3
    have HC141_3 := HC9000_3
    go_wp2
    go_loopg [3, 5] k1 (fun kq v3 v5 w' => ∃ (x3_2 : Int) (x5_2 : Int), v3 = .int .i64 x3_2 ∧ v5 = .int .i64 x5_2 ∧ Aside0 (spec_l22Ink_at.l1 kq x3_2 x4_1 x5_2 l0_0 a0_1 = some r) ∧ Aside0 (kq ≤ k1) ∧ Aside0 (Below w.heap.size w w'))
    case atStart => exact ⟨(x3_1), (0), rQ, rQ, H', ⟨Nat.le_refl _⟩, ⟨bQ⟩⟩
    case round =>
     clear H'
     try clear hx1
     try clear c2
     try clear c2b0
     try clear p2
     try clear hx141_0
     try clear hx141_1
     try clear hx141_2
     try clear hx141_3
     obtain ⟨x3_2, x5_2, rfl, rfl, HA, HK2, HB⟩ := hrel
     cases gk with
     | zero => exact absurd HA.out (by simp [spec_l22Ink_at.l1])
     | succ k2 =>
      have H := HA.out
      clear HA
      simp only [spec_l22Ink_at.l1] at H
      by_cases c3 : 0 ≤ x4_1
      ·rw [if_pos c3] at H
       have c3b0 : decide (0 ≤ x4_1) = true := decide_eq_true c3
       clear c3
       by_cases c4 : x4_1 < (((rd_T27 l0_0 a0_1).f3).length : Int)
       ·rw [if_pos c4] at H
        have c4b0 : decide (x4_1 < (((rd_T27 l0_0 a0_1).f3).length : Int)) = true := decide_eq_true c4
        clear c4
        by_cases c5 : x5_2 < ((rdOf ByteArray.empty ((rd_T27 l0_0 a0_1).f3) x4_1).size : Int)
        ·rw [if_pos c5] at H
         have c5b0 : decide (x5_2 < ((rdOf ByteArray.empty ((rd_T27 l0_0 a0_1).f3) x4_1).size : Int)) = true := decide_eq_true c5
         clear c5
         by_cases c6 : 0 ≤ x5_2
         ·rw [if_pos c6] at H
          have c6b0 : decide (0 ≤ x5_2) = true := decide_eq_true c6
          clear c6
          by_cases c8 : (bt (rdOf ByteArray.empty ((rd_T27 l0_0 a0_1).f3) x4_1) x5_2) = 35
          ·rw [if_pos c8] at H
           have c8b0 : ((bt (rdOf ByteArray.empty ((rd_T27 l0_0 a0_1).f3) x4_1) x5_2) == 35) = true := beq_iff_eq.mpr c8
           have c8b1 : ((bt (rdOf ByteArray.empty ((rd_T27 l0_0 a0_1).f3) x4_1) x5_2) != 35) = false := bne_eq_false_iff_eq.mpr c8
           clear c8
           have H' := aM H
           clear H
           have hx142_0 := HX9000_0.out
           have hx142_1 := HX9000_1.out
           have hx142_2 := HX9000_2.out
           have hx142_3 := HX9000_3.out
           replace hx142_0 := cB HB.out hx142_0
           replace hx142_1 := cB HB.out hx142_1
           replace hx142_2 := cB HB.out hx142_2
           replace hx142_3 := cB HB.out hx142_3
           have HR142_3 := HR9000_3
           have HC142_3 := HC9000_3
           have p143 : 0 ≤ (x4_1 : Int) := dA
           have q143 : x4_1 < (((rd_T27 l0_0 a0_1).f3).length : Int) := dA
           obtain ⟨ad143, e143, hx143_0⟩ := Kd.at_string HR142_3.out x4_1 p143 q143
           cases e143
           replace hx143_0 := cB HB.out hx143_0
           replace p143 := eq_true p143
           replace q143 := eq_true q143
           have hx144_0 := HX9000_0.out
           have hx144_1 := HX9000_1.out
           have hx144_2 := HX9000_2.out
           have hx144_3 := HX9000_3.out
           replace hx144_0 := cB HB.out hx144_0
           replace hx144_1 := cB HB.out hx144_1
           replace hx144_2 := cB HB.out hx144_2
           replace hx144_3 := cB HB.out hx144_3
           have HR144_3 := HR9000_3
           have HC144_3 := HC9000_3
           have p145 : 0 ≤ (x4_1 : Int) := dA
           have q145 : x4_1 < (((rd_T27 l0_0 a0_1).f3).length : Int) := dA
           obtain ⟨ad145, e145, hx145_0⟩ := Kd.at_string HR144_3.out x4_1 p145 q145
           obtain rfl : ad143 = ad145 := (by injection e145)
           replace hx145_0 := cB HB.out hx145_0
           replace p145 := eq_true p145
           replace q145 := eq_true q145
           have p7 : 0 ≤ (x5_2 : Int) := dA
           have q7 : x5_2 < ((rdOf ByteArray.empty ((rd_T27 l0_0 a0_1).f3) x4_1).size : Int) := dA
           have hx7 := bt_at (rdOf ByteArray.empty ((rd_T27 l0_0 a0_1).f3) x4_1) x5_2
           replace p7 := eq_true p7
           replace q7 := eq_true q7
           go_wp2
           go_roundg k2
           case measure => have := HK1.out; have := HK2.out; omega
           case rel => exact ⟨(wrap64 (x3_2 + 1)), (wrap64 (x5_2 + 1)), rQ, rQ, H', ⟨by have := HK1.out; have := HK2.out; omega⟩, ⟨bQ⟩⟩
          ·rw [if_neg c8] at H
           have c8b0 : ((bt (rdOf ByteArray.empty ((rd_T27 l0_0 a0_1).f3) x4_1) x5_2) == 35) = false := beq_eq_false_iff_ne.mpr c8
           have c8b1 : ((bt (rdOf ByteArray.empty ((rd_T27 l0_0 a0_1).f3) x4_1) x5_2) != 35) = true := bne_iff_ne.mpr c8
           have H' := aM H
           clear H
           have hx142_0 := HX9000_0.out
           have hx142_1 := HX9000_1.out
           have hx142_2 := HX9000_2.out
           have hx142_3 := HX9000_3.out
           replace hx142_0 := cB HB.out hx142_0
           replace hx142_1 := cB HB.out hx142_1
           replace hx142_2 := cB HB.out hx142_2
           replace hx142_3 := cB HB.out hx142_3
           have HR142_3 := HR9000_3
           have HC142_3 := HC9000_3
           have p143 : 0 ≤ (x4_1 : Int) := dA
           have q143 : x4_1 < (((rd_T27 l0_0 a0_1).f3).length : Int) := dA
           obtain ⟨ad143, e143, hx143_0⟩ := Kd.at_string HR142_3.out x4_1 p143 q143
           cases e143
           replace hx143_0 := cB HB.out hx143_0
           replace p143 := eq_true p143
           replace q143 := eq_true q143
           have hx144_0 := HX9000_0.out
           have hx144_1 := HX9000_1.out
           have hx144_2 := HX9000_2.out
           have hx144_3 := HX9000_3.out
           replace hx144_0 := cB HB.out hx144_0
           replace hx144_1 := cB HB.out hx144_1
           replace hx144_2 := cB HB.out hx144_2
           replace hx144_3 := cB HB.out hx144_3
           have HR144_3 := HR9000_3
           have HC144_3 := HC9000_3
           have p145 : 0 ≤ (x4_1 : Int) := dA
           have q145 : x4_1 < (((rd_T27 l0_0 a0_1).f3).length : Int) := dA
           obtain ⟨ad145, e145, hx145_0⟩ := Kd.at_string HR144_3.out x4_1 p145 q145
           obtain rfl : ad143 = ad145 := (by injection e145)
           replace hx145_0 := cB HB.out hx145_0
           replace p145 := eq_true p145
           replace q145 := eq_true q145
           have p7 : 0 ≤ (x5_2 : Int) := dA
           have q7 : x5_2 < ((rdOf ByteArray.empty ((rd_T27 l0_0 a0_1).f3) x4_1).size : Int) := dA
           have hx7 := bt_at (rdOf ByteArray.empty ((rd_T27 l0_0 a0_1).f3) x4_1) x5_2
           replace p7 := eq_true p7
           replace q7 := eq_true q7
           go_wp2
           go_roundg k2
           case measure => have := HK1.out; have := HK2.out; omega
           case rel => exact ⟨(x3_2), (wrap64 (x5_2 + 1)), rQ, rQ, H', ⟨by have := HK1.out; have := HK2.out; omega⟩, ⟨bQ⟩⟩
         ·rw [if_neg c6] at H
          exact absurd H (by simp)
        ·rw [if_neg c5] at H
         have c5b0 : decide (x5_2 < ((rdOf ByteArray.empty ((rd_T27 l0_0 a0_1).f3) x4_1).size : Int)) = false := decide_eq_false c5
         clear c5
         have H' := aM H
         clear H
         have hx142_0 := HX9000_0.out
         have hx142_1 := HX9000_1.out
         have hx142_2 := HX9000_2.out
         have hx142_3 := HX9000_3.out
         replace hx142_0 := cB HB.out hx142_0
         replace hx142_1 := cB HB.out hx142_1
         replace hx142_2 := cB HB.out hx142_2
         replace hx142_3 := cB HB.out hx142_3
         have HR142_3 := HR9000_3
         have HC142_3 := HC9000_3
         have p143 : 0 ≤ (x4_1 : Int) := dA
         have q143 : x4_1 < (((rd_T27 l0_0 a0_1).f3).length : Int) := dA
         obtain ⟨ad143, e143, hx143_0⟩ := Kd.at_string HR142_3.out x4_1 p143 q143
         cases e143
         replace hx143_0 := cB HB.out hx143_0
         replace p143 := eq_true p143
         replace q143 := eq_true q143
         go_wp2
         go_roundg k2
         case measure => have := HK1.out; have := HK2.out; omega
         case rel => exact ⟨(x3_2), (wrap64 (x4_1 + 1)), rQ, rQ, H', ⟨by have := HK1.out; have := HK2.out; omega⟩, ⟨bQ⟩⟩
       ·rw [if_neg c4] at H
        exact absurd H (by simp)
      ·rw [if_neg c3] at H
       exact absurd H (by simp)
   ·rw [if_neg c2] at H
    have c2b0 : decide (x4_1 < (((rd_T27 l0_0 a0_1).f3).length : Int)) = false := decide_eq_false c2
    clear c2
    obtain rfl := Option.some.inj H
    have hx141_0 := HX9000_0.out
    have hx141_1 := HX9000_1.out
    have hx141_2 := HX9000_2.out
    have hx141_3 := HX9000_3.out
    replace hx141_0 := cB HB.out hx141_0
    replace hx141_1 := cB HB.out hx141_1
    replace hx141_2 := cB HB.out hx141_2
    replace hx141_3 := cB HB.out hx141_3
    have HR141_3 := HR9000_3
    have HC141_3 := HC9000_3
    go_wp2
    go_ret
    exact ⟨eQ, bQ⟩

/-! ### spec_InkOf: function 20 -/
def spec_InkOf.f (k : Nat) (a0_0 : Int) (a0_1 : Int) (a0_2 : Int) (l0_3 : List ByteArray) : Option (Int × Int) := (spec_l22Ok_at.f k [(⟨a0_0, a0_1, a0_2, l0_3⟩ : S27)] 0).bind fun t147 => (if t147 = true then ((spec_l22Ink_at.f k [(⟨a0_0, a0_1, a0_2, l0_3⟩ : S27)] 0).bind fun t148 => (some (t148, 0))) else (some (0, 1)))
theorem spec_InkOf.mono : ∀ a0 a1 a2 a3 k, LeO (spec_InkOf.f k a0 a1 a2 a3) (spec_InkOf.f (k + 1) a0 a1 a2 a3) := by
 intro a0 a1 a2 a3 k
 unfold spec_InkOf.f
 repeat' first
   | (with_reducible exact spec_l22Ink_at.mono _ _ _)
   | (with_reducible exact spec_l22Ok_at.mono _ _ _)
   | (with_reducible exact LeO.refl _)
   | (with_reducible exact LeO.none _)
   | (with_reducible refine LeO.ite ?_ ?_)
   | (with_reducible refine LeO.bind ?_ (fun _ => ?_))
   | exact spec_l22Ink_at.mono _ _ _
   | exact spec_l22Ok_at.mono _ _ _
   | exact LeO.none _
   | refine LeO.ite ?_ ?_
   | refine LeO.bind ?_ (fun _ => ?_)
set_option maxHeartbeats 8000000 in
set_option maxRecDepth 100000 in
theorem spec_InkOf.calls (k : Nat) (a0_0 : Int) (a0_1 : Int) (a0_2 : Int) (A0_3 : Option Addr) (c0_3 : Nat) (l0_3 : List ByteArray) (r1 : Int) (r2 : Int) (w : World) (hr0_3 : Kd.C Kd.string w A0_3 l0_3.length l0_3) (hc0_3 : l0_3.length ≤ c0_3) (h : spec_InkOf.f k a0_0 a0_1 a0_2 l0_3 = some (r1, r2)) :
  Calls Tryd.prog 20 #[.agg #[.int .i64 a0_0, .int .i64 a0_1, .int .i64 a0_2, .slice A0_3 l0_3.length c0_3]] w fun e w' => e = .returned (.tuple #[.int .i64 r1, .int .i64 r2]) ∧ Below w.heap.size w w' := by
 have hu27 := Tryd.underlying27
 have HR0_3 := aM hr0_3
 have HC0_3 := aM hc0_3
 clear hr0_3 hc0_3
 have HB := aM (Below.refl w.heap.size w)
 have H : ((spec_l22Ok_at.f k [(⟨a0_0, a0_1, a0_2, l0_3⟩ : S27)] 0).bind fun t147 => (if t147 = true then ((spec_l22Ink_at.f k [(⟨a0_0, a0_1, a0_2, l0_3⟩ : S27)] 0).bind fun t148 => (some (t148, 0))) else (some (0, 1)))) = some (r1, r2) := h
 clear h
 replace H := Option.bind_eq_some_iff.mp H
 obtain ⟨t147, A20, H⟩ := H
 replace H : (if t147 = true then ((spec_l22Ink_at.f k [(⟨a0_0, a0_1, a0_2, l0_3⟩ : S27)] 0).bind fun t148 => (some (t148, 0))) else (some (0, 1))) = some (r1, r2) := H
 have A2 := aM A20
 clear A20
 by_cases c3 : t147 = true
 ·subst c3
  have H1 : ((spec_l22Ink_at.f k [(⟨a0_0, a0_1, a0_2, l0_3⟩ : S27)] 0).bind fun t148 => (some (t148, 0))) = some (r1, r2) := by rw [if_pos rfl] at H; exact H
  clear H
  have H := H1
  clear H1
  replace H := Option.bind_eq_some_iff.mp H
  obtain ⟨t148, A40, H⟩ := H
  replace H : (some (t148, 0)) = some (r1, r2) := H
  have A4 := aM A40
  clear A40
  simp only [Option.some.injEq, Prod.mk.injEq] at H
  obtain ⟨rfl, rfl⟩ := H
  go_enter Tryd.func20, Tryd.ntmps20
  go_wp2_with (first | ((with_reducible refine gate_dst (N := 1) rfl ?_); refine box_event ?hg (N := 1) ?hd (cs := #[.int .i64 a0_0, .int .i64 a0_1, .int .i64 a0_2, .slice A0_3 l0_3.length c0_3]) (t := 27) ?hr ?_; (case hd => rfl); (case hg => rfl); (case hr => first | (go_simp; done) | (go_simp; rfl)); intro gb146 hg w5 hbox hb; have n0_ := aM (below_step bQ hb); have n1_ := aM (hbox); have n2_ := aM ((by rw [hg]; exact (below_size bQ) : w.heap.size ≤ gb146)); have n3_ := aM ((by rw [hg]; exact (below_size bQ) : w.heap.size ≤ gb146)); clear HB; have HB := n0_; have BK146 := n1_; have GW146 := n2_; have GE146 := n3_; clear n0_ n1_ n2_ n3_; clear hb hbox hg; have hcz6_0 : w5.cell? ⟨gb146, 0, none⟩ = some (.int .i64 a0_0) := (blk_cell BK146.out 0).trans rfl; have hcz6_1 : w5.cell? ⟨gb146, 1, none⟩ = some (.int .i64 a0_1) := (blk_cell BK146.out 1).trans rfl; have hcz6_2 : w5.cell? ⟨gb146, 2, none⟩ = some (.int .i64 a0_2) := (blk_cell BK146.out 2).trans rfl; have hcz6_3 : w5.cell? ⟨gb146, 3, none⟩ = some (.slice A0_3 l0_3.length c0_3) := (blk_cell BK146.out 3).trans rfl; have hfz6_0 := blk_frozen BK146.out 0; have hfz6_1 := blk_frozen BK146.out 1; have hfz6_2 := blk_frozen BK146.out 2; have hfz6_3 := blk_frozen BK146.out 3) | ((with_reducible refine gate_callee (f := 27) rfl ?_); refine goesL_ (some 4) rfl rfl Tryd.func27 (by kernel_rfl) rfl #[.pointer (some ⟨gb146, 0, none⟩)] rfl gQ ?_; (with_reducible refine (spec_l22Ok_at.calls k _ [(⟨a0_0, a0_1, a0_2, l0_3⟩ : S27)] 0 true _ ?side1 A2.out).mono ?_); (case side1 => exact RPtr.box (k27_mk _ _ (by exact HC0_3.out) (by repeat (first | exact (Kd.C_below HR0_3.out HB.out) | (with_reducible first | refine cA ?_ _ | refine cN ?_ _ | refine cD ?_)))) (by (with_reducible repeat (first | refine blk_drewN ?_ _ | refine blk_drew ?_ | refine blk_alloc ?_ _)); exact BK146.out) rfl); rintro e w7 ⟨rfl, hb⟩; refine ⟨_, rfl, ?_⟩; have n0_ := aM (blk_below (g := gb146) (o := .cells #[.int .i64 a0_0, .int .i64 a0_1, .int .i64 a0_2, .slice A0_3 l0_3.length c0_3] 27 (0, 0)) (by (with_reducible repeat (first | refine blk_drewN ?_ _ | refine blk_drew ?_ | refine blk_alloc ?_ _)); exact BK146.out) hb); have n1_ := aM (below_step (by repeat (first | (with_reducible first | exact HB.out | apply bA | apply bN | apply bD | refine below_set ?_ GE146.out) | exact HB.out)) hb); clear BK146; clear HB; have BK146 := n0_; have HB := n1_; clear n0_ n1_; (try clear hb); (try clear hb2); (try clear hk); (try clear hi); have hcz8_0 : w7.cell? ⟨gb146, 0, none⟩ = some (.int .i64 a0_0) := (blk_cell BK146.out 0).trans rfl; have hcz8_1 : w7.cell? ⟨gb146, 1, none⟩ = some (.int .i64 a0_1) := (blk_cell BK146.out 1).trans rfl; have hcz8_2 : w7.cell? ⟨gb146, 2, none⟩ = some (.int .i64 a0_2) := (blk_cell BK146.out 2).trans rfl; have hcz8_3 : w7.cell? ⟨gb146, 3, none⟩ = some (.slice A0_3 l0_3.length c0_3) := (blk_cell BK146.out 3).trans rfl; have hfz8_0 := blk_frozen BK146.out 0; have hfz8_1 := blk_frozen BK146.out 1; have hfz8_2 := blk_frozen BK146.out 2; have hfz8_3 := blk_frozen BK146.out 3) | ((with_reducible refine gate_callee (f := 40) rfl ?_); refine goesL_ (some 6) rfl rfl Tryd.func40 (by kernel_rfl) rfl #[.pointer (some ⟨gb146, 0, none⟩)] rfl gQ ?_; (with_reducible refine (spec_l22Ink_at.calls k _ [(⟨a0_0, a0_1, a0_2, l0_3⟩ : S27)] 0 t148 _ ?side1 A4.out).mono ?_); (case side1 => exact RPtr.box (k27_mk _ _ (by exact HC0_3.out) (by repeat (first | exact (Kd.C_below HR0_3.out HB.out) | (with_reducible first | refine cA ?_ _ | refine cN ?_ _ | refine cD ?_)))) (by (with_reducible repeat (first | refine blk_drewN ?_ _ | refine blk_drew ?_ | refine blk_alloc ?_ _)); exact BK146.out) rfl); rintro e w9 ⟨rfl, hb⟩; refine ⟨_, rfl, ?_⟩; have n0_ := aM (blk_below (g := gb146) (o := .cells #[.int .i64 a0_0, .int .i64 a0_1, .int .i64 a0_2, .slice A0_3 l0_3.length c0_3] 27 (0, 0)) (by (with_reducible repeat (first | refine blk_drewN ?_ _ | refine blk_drew ?_ | refine blk_alloc ?_ _)); exact BK146.out) hb); have n1_ := aM (below_step (by repeat (first | (with_reducible first | exact HB.out | apply bA | apply bN | apply bD | refine below_set ?_ GE146.out) | exact HB.out)) hb); clear BK146; clear HB; have BK146 := n0_; have HB := n1_; clear n0_ n1_; (try clear hb); (try clear hb2); (try clear hk); (try clear hi)))
  go_ret2
  exact ⟨eQ, by repeat (first | (with_reducible first | exact HB.out | apply bA | apply bN | apply bD | refine below_set ?_ GE146.out) | exact HB.out)⟩
 ·replace c3 := Bool.eq_false_iff.mpr c3
  subst c3
  have H1 : (some (0, 1)) = some (r1, r2) := by rw [if_neg (show ¬ (false = true) by decide)] at H; exact H
  clear H
  have H := H1
  clear H1
  simp only [Option.some.injEq, Prod.mk.injEq] at H
  obtain ⟨rfl, rfl⟩ := H
  go_enter Tryd.func20, Tryd.ntmps20
  go_wp2_with (first | ((with_reducible refine gate_dst (N := 1) rfl ?_); refine box_event ?hg (N := 1) ?hd (cs := #[.int .i64 a0_0, .int .i64 a0_1, .int .i64 a0_2, .slice A0_3 l0_3.length c0_3]) (t := 27) ?hr ?_; (case hd => rfl); (case hg => rfl); (case hr => first | (go_simp; done) | (go_simp; rfl)); intro gb146 hg w10 hbox hb; have n0_ := aM (below_step bQ hb); have n1_ := aM (hbox); have n2_ := aM ((by rw [hg]; exact (below_size bQ) : w.heap.size ≤ gb146)); have n3_ := aM ((by rw [hg]; exact (below_size bQ) : w.heap.size ≤ gb146)); clear HB; have HB := n0_; have BK146 := n1_; have GW146 := n2_; have GE146 := n3_; clear n0_ n1_ n2_ n3_; clear hb hbox hg; have hcz11_0 : w10.cell? ⟨gb146, 0, none⟩ = some (.int .i64 a0_0) := (blk_cell BK146.out 0).trans rfl; have hcz11_1 : w10.cell? ⟨gb146, 1, none⟩ = some (.int .i64 a0_1) := (blk_cell BK146.out 1).trans rfl; have hcz11_2 : w10.cell? ⟨gb146, 2, none⟩ = some (.int .i64 a0_2) := (blk_cell BK146.out 2).trans rfl; have hcz11_3 : w10.cell? ⟨gb146, 3, none⟩ = some (.slice A0_3 l0_3.length c0_3) := (blk_cell BK146.out 3).trans rfl; have hfz11_0 := blk_frozen BK146.out 0; have hfz11_1 := blk_frozen BK146.out 1; have hfz11_2 := blk_frozen BK146.out 2; have hfz11_3 := blk_frozen BK146.out 3) | ((with_reducible refine gate_callee (f := 27) rfl ?_); refine goesL_ (some 4) rfl rfl Tryd.func27 (by kernel_rfl) rfl #[.pointer (some ⟨gb146, 0, none⟩)] rfl gQ ?_; (with_reducible refine (spec_l22Ok_at.calls k _ [(⟨a0_0, a0_1, a0_2, l0_3⟩ : S27)] 0 false _ ?side1 A2.out).mono ?_); (case side1 => exact RPtr.box (k27_mk _ _ (by exact HC0_3.out) (by repeat (first | exact (Kd.C_below HR0_3.out HB.out) | (with_reducible first | refine cA ?_ _ | refine cN ?_ _ | refine cD ?_)))) (by (with_reducible repeat (first | refine blk_drewN ?_ _ | refine blk_drew ?_ | refine blk_alloc ?_ _)); exact BK146.out) rfl); rintro e w12 ⟨rfl, hb⟩; refine ⟨_, rfl, ?_⟩; have n0_ := aM (blk_below (g := gb146) (o := .cells #[.int .i64 a0_0, .int .i64 a0_1, .int .i64 a0_2, .slice A0_3 l0_3.length c0_3] 27 (0, 0)) (by (with_reducible repeat (first | refine blk_drewN ?_ _ | refine blk_drew ?_ | refine blk_alloc ?_ _)); exact BK146.out) hb); have n1_ := aM (below_step (by repeat (first | (with_reducible first | exact HB.out | apply bA | apply bN | apply bD | refine below_set ?_ GE146.out) | exact HB.out)) hb); clear BK146; clear HB; have BK146 := n0_; have HB := n1_; clear n0_ n1_; (try clear hb); (try clear hb2); (try clear hk); (try clear hi)))
  go_ret2
  exact ⟨eQ, by repeat (first | (with_reducible first | exact HB.out | apply bA | apply bN | apply bD | refine below_set ?_ GE146.out) | exact HB.out)⟩

/-! ### strings_Trim: function 31, given -/
def strings_Trim.f (a0 : ByteArray) (a1 : ByteArray) : Option (ByteArray) := Go.Proofs.YthngjfipdfckkaaDoor.Gv.trimF a0 a1
theorem strings_Trim.calls (a0 : ByteArray) (a1 : ByteArray) (r : ByteArray) (w : World) (h : strings_Trim.f a0 a1 = some r) :
  Calls Tryd.prog 31 #[.string a0, .string a1] w fun e w' => e = .returned (.string r) ∧ Below w.heap.size w w' := Go.Proofs.YthngjfipdfckkaaDoor.Gv.trimF_calls a0 a1 r w h

/-! ### impl_ValidBitmap_1_at: function 30 -/
def impl_ValidBitmap_1_at.f (a0 : ByteArray) (l1_0 : List (S27)) (a1_1 : Int) : Option (Bool) := if (a0.size : Int) = ((rd_T27 l1_0 a1_1).f2) then ((strings_Trim.f a0 (⟨#[35, 46]⟩ : ByteArray)).bind fun t151 => (some (t151.toList != ([] : List UInt8)))) else (some true)
set_option maxHeartbeats 8000000 in
set_option maxRecDepth 100000 in
theorem impl_ValidBitmap_1_at.calls (a0 : ByteArray) (p1_ : Addr) (l1_0 : List (S27)) (a1_1 : Int) (r : Bool) (w : World) (hP1_ : RPtr k27 ((a1_1 : Int).toNat * 4) w p1_ l1_0 a1_1) (h : impl_ValidBitmap_1_at.f a0 l1_0 a1_1 = some r) :
  Calls Tryd.prog 30 #[.string a0, .pointer (some p1_)] w fun e w' => e = .returned (.bool r) ∧ Below w.heap.size w w' := by
 obtain ⟨ad1_, rfl, hr1_0, hi1_, hj1_⟩ := hP1_
 have hc1_0 : l1_0.length ≤ l1_0.length := Nat.le_refl _
 replace hi1_ := decide_eq_true hi1_
 replace hj1_ := decide_eq_true hj1_
 obtain ⟨ad9010, A9010_3, c9010_3, e9010, HX9010_0, HX9010_1, HX9010_2, HX9010_3, HC9010_3, HR9010_3⟩ := at_T27 hr1_0 a1_1 (of_decide_eq_true hi1_) (of_decide_eq_true hj1_)
 obtain rfl : ad1_ = ad9010 := (by injection e9010)
 replace HX9010_0 := aM HX9010_0
 replace HX9010_1 := aM HX9010_1
 replace HX9010_2 := aM HX9010_2
 replace HX9010_3 := aM HX9010_3
 replace HC9010_3 := aM HC9010_3
 replace HR9010_3 := aM HR9010_3
 have HR1_0 := aM hr1_0
 have HC1_0 := aM hc1_0
 clear hr1_0 hc1_0
 have HB := aM (Below.refl w.heap.size w)
 have H : (if (a0.size : Int) = ((rd_T27 l1_0 a1_1).f2) then ((strings_Trim.f a0 (⟨#[35, 46]⟩ : ByteArray)).bind fun t151 => (some (t151.toList != ([] : List UInt8)))) else (some true)) = some r := h
 clear h
 by_cases c3 : (a0.size : Int) = ((rd_T27 l1_0 a1_1).f2)
 ·rw [if_pos c3] at H
  have c3b0 : ((a0.size : Int) == ((rd_T27 l1_0 a1_1).f2)) = true := beq_iff_eq.mpr c3
  have c3b1 : ((a0.size : Int) != ((rd_T27 l1_0 a1_1).f2)) = false := bne_eq_false_iff_eq.mpr c3
  clear c3
  replace H := Option.bind_eq_some_iff.mp H
  obtain ⟨t151, A40, H⟩ := H
  replace H : (some (t151.toList != ([] : List UInt8))) = some r := H
  have A4 := aM A40
  clear A40
  obtain rfl := Option.some.inj H
  have hx150_0 := HX9010_0.out
  have hx150_1 := HX9010_1.out
  have hx150_2 := HX9010_2.out
  have hx150_3 := HX9010_3.out
  have HR150_3 := HR9010_3
  have HC150_3 := HC9010_3
  go_enter Tryd.func30, Tryd.ntmps30
  go_wp2_with (first | (go_at_call 31; (with_reducible refine (strings_Trim.calls a0 (⟨#[35, 46]⟩ : ByteArray) t151 _ A4.out).mono ?_); rintro e w5 ⟨rfl, hb⟩; have n0_ := aM (below_step bQ hb); clear HB; have HB := n0_; clear n0_; (try clear hb); (try clear hb2); (try clear hk); (try clear hi)))
  go_ret
  exact ⟨eQ, bQ⟩
 ·rw [if_neg c3] at H
  have c3b0 : ((a0.size : Int) == ((rd_T27 l1_0 a1_1).f2)) = false := beq_eq_false_iff_ne.mpr c3
  have c3b1 : ((a0.size : Int) != ((rd_T27 l1_0 a1_1).f2)) = true := bne_iff_ne.mpr c3
  obtain rfl := Option.some.inj H
  have hx150_0 := HX9010_0.out
  have hx150_1 := HX9010_1.out
  have hx150_2 := HX9010_2.out
  have hx150_3 := HX9010_3.out
  have HR150_3 := HR9010_3
  have HC150_3 := HC9010_3
  go_enter Tryd.func30, Tryd.ntmps30
  go_wp2
  go_ret
  exact ⟨eQ, bQ⟩

/-! ### slices_IndexFunc_string_string_by_impl_ValidBitmap_1: function 51 -/
def slices_IndexFunc_string_string_by_impl_ValidBitmap_1.l0 : Nat → List ByteArray → Int → Int → List (S27) → Int → Option (Int)
 | 0, _, _, _, _, _ => none
 | k + 1, x0, x7, x8, x1016, x1017 => if x8 < x7 then (if 0 ≤ x8 then (if x8 < (x0.length : Int) then ((impl_ValidBitmap_1_at.f (rdOf ByteArray.empty x0 x8) x1016 x1017).bind fun t153 => (if t153 = true then (some x8) else (slices_IndexFunc_string_string_by_impl_ValidBitmap_1.l0 k x0 x7 (wrap64 (x8 + 1)) x1016 x1017))) else (none)) else (none)) else (some (-1))
def slices_IndexFunc_string_string_by_impl_ValidBitmap_1.f (k : Nat) (l0 : List ByteArray) (l1_0 : List (S27)) (a1_1 : Int) : Option (Int) := slices_IndexFunc_string_string_by_impl_ValidBitmap_1.l0 k l0 (l0.length : Int) 0 l1_0 a1_1
theorem slices_IndexFunc_string_string_by_impl_ValidBitmap_1.mono_l : ∀ k, (∀ y0 y1 y2 y3 y4, LeO (slices_IndexFunc_string_string_by_impl_ValidBitmap_1.l0 k y0 y1 y2 y3 y4) (slices_IndexFunc_string_string_by_impl_ValidBitmap_1.l0 (k + 1) y0 y1 y2 y3 y4))
 | 0 => fun _ _ _ _ _ r h => by simp [slices_IndexFunc_string_string_by_impl_ValidBitmap_1.l0] at h
 | k + 1 => by
  have ih0 := slices_IndexFunc_string_string_by_impl_ValidBitmap_1.mono_l k
  ·intro y0 y1 y2 y3 y4
   unfold slices_IndexFunc_string_string_by_impl_ValidBitmap_1.l0
   repeat' first
   | (with_reducible exact ih0 _ _ _ _ _)
   | (with_reducible exact LeO.refl _)
   | (with_reducible exact LeO.none _)
   | (with_reducible refine LeO.ite ?_ ?_)
   | (with_reducible refine LeO.bind ?_ (fun _ => ?_))
   | exact ih0 _ _ _ _ _
   | exact LeO.none _
   | refine LeO.ite ?_ ?_
   | refine LeO.bind ?_ (fun _ => ?_)
theorem slices_IndexFunc_string_string_by_impl_ValidBitmap_1.mono : ∀ a0 a1 a2 k, LeO (slices_IndexFunc_string_string_by_impl_ValidBitmap_1.f k a0 a1 a2) (slices_IndexFunc_string_string_by_impl_ValidBitmap_1.f (k + 1) a0 a1 a2) := by
 intro a0 a1 a2 k
 have ih0 := slices_IndexFunc_string_string_by_impl_ValidBitmap_1.mono_l k
 unfold slices_IndexFunc_string_string_by_impl_ValidBitmap_1.f
 repeat' first
   | (with_reducible exact ih0 _ _ _ _ _)
   | (with_reducible exact LeO.refl _)
   | (with_reducible exact LeO.none _)
   | (with_reducible refine LeO.ite ?_ ?_)
   | (with_reducible refine LeO.bind ?_ (fun _ => ?_))
   | exact ih0 _ _ _ _ _
   | exact LeO.none _
   | refine LeO.ite ?_ ?_
   | refine LeO.bind ?_ (fun _ => ?_)
set_option maxHeartbeats 8000000 in
set_option maxRecDepth 100000 in
theorem slices_IndexFunc_string_string_by_impl_ValidBitmap_1.calls (k : Nat) (A0 : Option Addr) (c0 : Nat) (l0 : List ByteArray) (p1_ : Addr) (l1_0 : List (S27)) (a1_1 : Int) (r : Int) (w : World) (hr0 : Kd.C Kd.string w A0 l0.length l0) (hc0 : l0.length ≤ c0) (hP1_ : RPtr k27 ((a1_1 : Int).toNat * 4) w p1_ l1_0 a1_1) (h : slices_IndexFunc_string_string_by_impl_ValidBitmap_1.f k l0 l1_0 a1_1 = some r) :
  Calls Tryd.prog 51 #[.slice A0 l0.length c0, .func (.func 30) #[] #[.pointer (some p1_)]] w fun e w' => e = .returned (.int .i64 r) ∧ Below w.heap.size w w' := by
 obtain ⟨ad1_, rfl, hr1_0, hi1_, hj1_⟩ := hP1_
 have hc1_0 : l1_0.length ≤ l1_0.length := Nat.le_refl _
 replace hi1_ := decide_eq_true hi1_
 replace hj1_ := decide_eq_true hj1_
 obtain ⟨ad9010, A9010_3, c9010_3, e9010, HX9010_0, HX9010_1, HX9010_2, HX9010_3, HC9010_3, HR9010_3⟩ := at_T27 hr1_0 a1_1 (of_decide_eq_true hi1_) (of_decide_eq_true hj1_)
 obtain rfl : ad1_ = ad9010 := (by injection e9010)
 replace HX9010_0 := aM HX9010_0
 replace HX9010_1 := aM HX9010_1
 replace HX9010_2 := aM HX9010_2
 replace HX9010_3 := aM HX9010_3
 replace HC9010_3 := aM HC9010_3
 replace HR9010_3 := aM HR9010_3
 have HR0 := aM hr0
 have HC0 := aM hc0
 clear hr0 hc0
 have HR1_0 := aM hr1_0
 have HC1_0 := aM hc1_0
 clear hr1_0 hc1_0
 have HB := aM (Below.refl w.heap.size w)
 have H : (slices_IndexFunc_string_string_by_impl_ValidBitmap_1.l0 k l0 (l0.length : Int) 0 l1_0 a1_1) = some r := h
 clear h
 have H' := aM H
 clear H
 go_enter Tryd.func51, Tryd.ntmps51
 go_wp2
 go_loopg [8] k (fun kq v8 w' => ∃ (x8_1 : Int), v8 = .int .i64 x8_1 ∧ Aside0 (slices_IndexFunc_string_string_by_impl_ValidBitmap_1.l0 kq l0 (l0.length : Int) x8_1 l1_0 a1_1 = some r) ∧ Aside0 (kq ≤ k) ∧ Aside0 (Below w.heap.size w w'))
 case atStart => exact ⟨(0), rQ, H', ⟨Nat.le_refl _⟩, ⟨bQ⟩⟩
 case round =>
  clear H'
  try clear c1
  try clear p2
  obtain ⟨x8_1, rfl, HA, HK1, HB⟩ := hrel
  cases gk with
  | zero => exact absurd HA.out (by simp [slices_IndexFunc_string_string_by_impl_ValidBitmap_1.l0])
  | succ k1 =>
   have H := HA.out
   clear HA
   simp only [slices_IndexFunc_string_string_by_impl_ValidBitmap_1.l0] at H
   by_cases c3 : x8_1 < (l0.length : Int)
   ·rw [if_pos c3] at H
    have c3b0 : decide (x8_1 < (l0.length : Int)) = true := decide_eq_true c3
    clear c3
    by_cases c4 : 0 ≤ x8_1
    ·rw [if_pos c4] at H
     have c4b0 : decide (0 ≤ x8_1) = true := decide_eq_true c4
     clear c4
     by_cases c5 : x8_1 < (l0.length : Int)
     ·rw [if_pos c5] at H
      have c5b0 : decide (x8_1 < (l0.length : Int)) = true := decide_eq_true c5
      clear c5
      replace H := Option.bind_eq_some_iff.mp H
      obtain ⟨t153, A60, H⟩ := H
      replace H : (if t153 = true then (some x8_1) else (slices_IndexFunc_string_string_by_impl_ValidBitmap_1.l0 k1 l0 (l0.length : Int) (wrap64 (x8_1 + 1)) l1_0 a1_1)) = some r := H
      have A6 := aM A60
      clear A60
      by_cases c7 : t153 = true
      ·subst c7
       have H1 : (some x8_1) = some r := by rw [if_pos rfl] at H; exact H
       clear H
       have H := H1
       clear H1
       obtain rfl := Option.some.inj H
       have p152 : 0 ≤ (x8_1 : Int) := dA
       have q152 : x8_1 < (l0.length : Int) := dA
       obtain ⟨ad152, e152, hx152_0⟩ := Kd.at_string HR0.out x8_1 p152 q152
       cases e152
       replace hx152_0 := cB HB.out hx152_0
       replace p152 := eq_true p152
       replace q152 := eq_true q152
       go_wp2_with (first | (go_at_call 30; (with_reducible refine (impl_ValidBitmap_1_at.calls (rdOf ByteArray.empty l0 x8_1) _ l1_0 a1_1 true _ ?side1 A6.out).mono ?_); (case side1 => refine RPtr.mk_ (by repeat (first | exact (Kd.C_below HR1_0.out HB.out) | (with_reducible first | refine cA ?_ _ | refine cN ?_ _ | refine cD ?_))) (by first | rfl | exact (Addr.add_zero' _).symm) (by first | omega | exact dA | simp_all) (by first | exact dA | omega | simp_all)); rintro e w8 ⟨rfl, hb⟩; have n0_ := aM (below_step bQ hb); clear HB; have HB := n0_; clear n0_; (try clear hb); (try clear hb2); (try clear hk); (try clear hi)))
       go_ret
       exact ⟨eQ, bQ⟩
      ·replace c7 := Bool.eq_false_iff.mpr c7
       subst c7
       have H1 : (slices_IndexFunc_string_string_by_impl_ValidBitmap_1.l0 k1 l0 (l0.length : Int) (wrap64 (x8_1 + 1)) l1_0 a1_1) = some r := by rw [if_neg (show ¬ (false = true) by decide)] at H; exact H
       clear H
       have H := H1
       clear H1
       have H' := aM H
       clear H
       have p152 : 0 ≤ (x8_1 : Int) := dA
       have q152 : x8_1 < (l0.length : Int) := dA
       obtain ⟨ad152, e152, hx152_0⟩ := Kd.at_string HR0.out x8_1 p152 q152
       cases e152
       replace hx152_0 := cB HB.out hx152_0
       replace p152 := eq_true p152
       replace q152 := eq_true q152
       go_wp2_with (first | (go_at_call 30; (with_reducible refine (impl_ValidBitmap_1_at.calls (rdOf ByteArray.empty l0 x8_1) _ l1_0 a1_1 false _ ?side1 A6.out).mono ?_); (case side1 => refine RPtr.mk_ (by repeat (first | exact (Kd.C_below HR1_0.out HB.out) | (with_reducible first | refine cA ?_ _ | refine cN ?_ _ | refine cD ?_))) (by first | rfl | exact (Addr.add_zero' _).symm) (by first | omega | exact dA | simp_all) (by first | exact dA | omega | simp_all)); rintro e w9 ⟨rfl, hb⟩; have n0_ := aM (below_step bQ hb); clear HB; have HB := n0_; clear n0_; (try clear hb); (try clear hb2); (try clear hk); (try clear hi)))
       go_roundg k1
       case measure => have := HK1.out; omega
       case rel => exact ⟨(wrap64 (x8_1 + 1)), rQ, H', ⟨by have := HK1.out; omega⟩, ⟨bQ⟩⟩
     ·rw [if_neg c5] at H
      exact absurd H (by simp)
    ·rw [if_neg c4] at H
     exact absurd H (by simp)
   ·rw [if_neg c3] at H
    have c3b0 : decide (x8_1 < (l0.length : Int)) = false := decide_eq_false c3
    clear c3
    obtain rfl := Option.some.inj H
    go_wp2
    go_ret
    exact ⟨eQ, bQ⟩

/-! ### slices_ContainsFunc_string_string_by_impl_ValidBitmap_1: function 29 -/
def slices_ContainsFunc_string_string_by_impl_ValidBitmap_1.f (k : Nat) (l0 : List ByteArray) (l1_0 : List (S27)) (a1_1 : Int) : Option (Bool) := (slices_IndexFunc_string_string_by_impl_ValidBitmap_1.f k l0 l1_0 a1_1).bind fun t154 => (some (decide (t154 ≥ 0)))
theorem slices_ContainsFunc_string_string_by_impl_ValidBitmap_1.mono : ∀ a0 a1 a2 k, LeO (slices_ContainsFunc_string_string_by_impl_ValidBitmap_1.f k a0 a1 a2) (slices_ContainsFunc_string_string_by_impl_ValidBitmap_1.f (k + 1) a0 a1 a2) := by
 intro a0 a1 a2 k
 unfold slices_ContainsFunc_string_string_by_impl_ValidBitmap_1.f
 repeat' first
   | (with_reducible exact slices_IndexFunc_string_string_by_impl_ValidBitmap_1.mono _ _ _ _)
   | (with_reducible exact LeO.refl _)
   | (with_reducible exact LeO.none _)
   | (with_reducible refine LeO.ite ?_ ?_)
   | (with_reducible refine LeO.bind ?_ (fun _ => ?_))
   | exact slices_IndexFunc_string_string_by_impl_ValidBitmap_1.mono _ _ _ _
   | exact LeO.none _
   | refine LeO.ite ?_ ?_
   | refine LeO.bind ?_ (fun _ => ?_)
set_option maxHeartbeats 8000000 in
set_option maxRecDepth 100000 in
theorem slices_ContainsFunc_string_string_by_impl_ValidBitmap_1.calls (k : Nat) (A0 : Option Addr) (c0 : Nat) (l0 : List ByteArray) (p1_ : Addr) (l1_0 : List (S27)) (a1_1 : Int) (r : Bool) (w : World) (hr0 : Kd.C Kd.string w A0 l0.length l0) (hc0 : l0.length ≤ c0) (hP1_ : RPtr k27 ((a1_1 : Int).toNat * 4) w p1_ l1_0 a1_1) (h : slices_ContainsFunc_string_string_by_impl_ValidBitmap_1.f k l0 l1_0 a1_1 = some r) :
  Calls Tryd.prog 29 #[.slice A0 l0.length c0, .func (.func 30) #[] #[.pointer (some p1_)]] w fun e w' => e = .returned (.bool r) ∧ Below w.heap.size w w' := by
 obtain ⟨ad1_, rfl, hr1_0, hi1_, hj1_⟩ := hP1_
 have hc1_0 : l1_0.length ≤ l1_0.length := Nat.le_refl _
 replace hi1_ := decide_eq_true hi1_
 replace hj1_ := decide_eq_true hj1_
 obtain ⟨ad9010, A9010_3, c9010_3, e9010, HX9010_0, HX9010_1, HX9010_2, HX9010_3, HC9010_3, HR9010_3⟩ := at_T27 hr1_0 a1_1 (of_decide_eq_true hi1_) (of_decide_eq_true hj1_)
 obtain rfl : ad1_ = ad9010 := (by injection e9010)
 replace HX9010_0 := aM HX9010_0
 replace HX9010_1 := aM HX9010_1
 replace HX9010_2 := aM HX9010_2
 replace HX9010_3 := aM HX9010_3
 replace HC9010_3 := aM HC9010_3
 replace HR9010_3 := aM HR9010_3
 have HR0 := aM hr0
 have HC0 := aM hc0
 clear hr0 hc0
 have HR1_0 := aM hr1_0
 have HC1_0 := aM hc1_0
 clear hr1_0 hc1_0
 have HB := aM (Below.refl w.heap.size w)
 have H : ((slices_IndexFunc_string_string_by_impl_ValidBitmap_1.f k l0 l1_0 a1_1).bind fun t154 => (some (decide (t154 ≥ 0)))) = some r := h
 clear h
 replace H := Option.bind_eq_some_iff.mp H
 obtain ⟨t154, A30, H⟩ := H
 replace H : (some (decide (t154 ≥ 0))) = some r := H
 have A3 := aM A30
 clear A30
 obtain rfl := Option.some.inj H
 go_enter Tryd.func29, Tryd.ntmps29
 go_wp2_with (first | ((with_reducible refine gate_callee (f := 51) rfl ?_); refine goesL_ (some 7) rfl rfl Tryd.func51 (by kernel_rfl) rfl #[.slice A0 l0.length c0, .func (.func 30) #[] #[.pointer (some (ad1_.add ((a1_1 : Int).toNat * 4)))]] rfl gQ ?_; (with_reducible refine (slices_IndexFunc_string_string_by_impl_ValidBitmap_1.calls k _ _ l0 _ l1_0 a1_1 t154 _ ?side1 ?side2 ?side3 A3.out).mono ?_); (case side1 => repeat (first | exact HR0.out | (with_reducible first | refine cA ?_ _ | refine cN ?_ _ | refine cD ?_))); (case side2 => exact HC0.out); (case side3 => refine RPtr.mk_ (by repeat (first | exact HR1_0.out | (with_reducible first | refine cA ?_ _ | refine cN ?_ _ | refine cD ?_))) (by first | rfl | exact (Addr.add_zero' _).symm) (by first | omega | exact dA | simp_all) (by first | exact dA | omega | simp_all)); rintro e w4 ⟨rfl, hb⟩; refine ⟨_, rfl, ?_⟩; have n0_ := aM (below_step bQ hb); clear HB; have HB := n0_; clear n0_; (try clear hb); (try clear hb2); (try clear hk); (try clear hi)))
 go_ret
 exact ⟨eQ, bQ⟩

/-! ### impl_ValidBitmap: function 12 -/
def impl_ValidBitmap.f (k : Nat) (a0_0 : Int) (a0_1 : Int) (a0_2 : Int) (l0_3 : List ByteArray) : Option (Bool) := if (mx a0_0 a0_1) > 1048576 then (some false) else (if (mn a0_0 a0_1) < (-1048576) then (some false) else (if (l0_3.length : Int) > 128 then (some false) else (if a0_2 < 0 then (some false) else (if a0_2 > 128 then (some false) else (if ((a0_2 == 0) != ((l0_3.length : Int) == 0)) = true then (some false) else ((slices_ContainsFunc_string_string_by_impl_ValidBitmap_1.f k l0_3 [(⟨a0_0, a0_1, a0_2, l0_3⟩ : S27)] 0).bind fun t156 => (some (!t156))))))))
theorem impl_ValidBitmap.mono : ∀ a0 a1 a2 a3 k, LeO (impl_ValidBitmap.f k a0 a1 a2 a3) (impl_ValidBitmap.f (k + 1) a0 a1 a2 a3) := by
 intro a0 a1 a2 a3 k
 unfold impl_ValidBitmap.f
 repeat' first
   | (with_reducible exact slices_ContainsFunc_string_string_by_impl_ValidBitmap_1.mono _ _ _ _)
   | (with_reducible exact LeO.refl _)
   | (with_reducible exact LeO.none _)
   | (with_reducible refine LeO.ite ?_ ?_)
   | (with_reducible refine LeO.bind ?_ (fun _ => ?_))
   | exact slices_ContainsFunc_string_string_by_impl_ValidBitmap_1.mono _ _ _ _
   | exact LeO.none _
   | refine LeO.ite ?_ ?_
   | refine LeO.bind ?_ (fun _ => ?_)
set_option maxHeartbeats 8000000 in
set_option maxRecDepth 100000 in
theorem impl_ValidBitmap.calls (k : Nat) (a0_0 : Int) (a0_1 : Int) (a0_2 : Int) (A0_3 : Option Addr) (c0_3 : Nat) (l0_3 : List ByteArray) (r : Bool) (w : World) (hr0_3 : Kd.C Kd.string w A0_3 l0_3.length l0_3) (hc0_3 : l0_3.length ≤ c0_3) (h : impl_ValidBitmap.f k a0_0 a0_1 a0_2 l0_3 = some r) :
  Calls Tryd.prog 12 #[.agg #[.int .i64 a0_0, .int .i64 a0_1, .int .i64 a0_2, .slice A0_3 l0_3.length c0_3]] w fun e w' => e = .returned (.bool r) ∧ Below w.heap.size w w' := by
 have hu27 := Tryd.underlying27
 have HR0_3 := aM hr0_3
 have HC0_3 := aM hc0_3
 clear hr0_3 hc0_3
 have HB := aM (Below.refl w.heap.size w)
 have H : (if (mx a0_0 a0_1) > 1048576 then (some false) else (if (mn a0_0 a0_1) < (-1048576) then (some false) else (if (l0_3.length : Int) > 128 then (some false) else (if a0_2 < 0 then (some false) else (if a0_2 > 128 then (some false) else (if ((a0_2 == 0) != ((l0_3.length : Int) == 0)) = true then (some false) else ((slices_ContainsFunc_string_string_by_impl_ValidBitmap_1.f k l0_3 [(⟨a0_0, a0_1, a0_2, l0_3⟩ : S27)] 0).bind fun t156 => (some (!t156))))))))) = some r := h
 clear h
 obtain ⟨ji2, hji2⟩ : ∃ j_ : Int, (mx a0_0 a0_1) = j_ := ⟨_, rfl⟩
 replace H : (if (ji2) > 1048576 then (some false) else (if (mn a0_0 a0_1) < (-1048576) then (some false) else (if (l0_3.length : Int) > 128 then (some false) else (if a0_2 < 0 then (some false) else (if a0_2 > 128 then (some false) else (if ((a0_2 == 0) != ((l0_3.length : Int) == 0)) = true then (some false) else ((slices_ContainsFunc_string_string_by_impl_ValidBitmap_1.f k l0_3 [(⟨a0_0, a0_1, a0_2, l0_3⟩ : S27)] 0).bind fun t156 => (some (!t156))))))))) = some r := by first | (rw [hji2] at H; exact H) | (simp only [hji2] at H ⊢; exact H)
 have hji2_ : (if a0_0 < a0_1 then a0_1 else a0_0) = ji2 := hji2
 by_cases c3 : (ji2) > 1048576
 ·rw [if_pos c3] at H
  have c3b0 : decide (1048576 < (ji2)) = true := decide_eq_true c3
  clear c3
  obtain rfl := Option.some.inj H
  go_enter Tryd.func12, Tryd.ntmps12
  go_wp2_with (first | ((with_reducible refine gate_dst (N := 1) rfl ?_); (try (refine gate_guard (by rfl) ?_; dsimp only)); refine box_event ?hg (N := 1) ?hd (cs := #[.int .i64 a0_0, .int .i64 a0_1, .int .i64 a0_2, .slice A0_3 l0_3.length c0_3]) (t := 27) ?hr ?_; (case hd => rfl); (case hg => rfl); (case hr => first | (go_simp; done) | (go_simp; rfl)); intro gb155 hg w4 hbox hb; have n0_ := aM (below_step bQ hb); have n1_ := aM (hbox); have n2_ := aM ((by rw [hg]; exact (below_size bQ) : w.heap.size ≤ gb155)); have n3_ := aM ((by rw [hg]; exact (below_size bQ) : w.heap.size ≤ gb155)); clear HB; have HB := n0_; have BK155 := n1_; have GW155 := n2_; have GE155 := n3_; clear n0_ n1_ n2_ n3_; clear hb hbox hg; have hcz5_0 : w4.cell? ⟨gb155, 0, none⟩ = some (.int .i64 a0_0) := (blk_cell BK155.out 0).trans rfl; have hcz5_1 : w4.cell? ⟨gb155, 1, none⟩ = some (.int .i64 a0_1) := (blk_cell BK155.out 1).trans rfl; have hcz5_2 : w4.cell? ⟨gb155, 2, none⟩ = some (.int .i64 a0_2) := (blk_cell BK155.out 2).trans rfl; have hcz5_3 : w4.cell? ⟨gb155, 3, none⟩ = some (.slice A0_3 l0_3.length c0_3) := (blk_cell BK155.out 3).trans rfl; have hfz5_0 := blk_frozen BK155.out 0; have hfz5_1 := blk_frozen BK155.out 1; have hfz5_2 := blk_frozen BK155.out 2; have hfz5_3 := blk_frozen BK155.out 3))
  go_ret
  exact ⟨by first | rfl | (simp [errW_none, errW_some] <;> rfl) | (simp only [← hji2]; first | rfl | (simp [errW_none, errW_some] <;> rfl)) | (simp [*, errW_none, errW_some] <;> rfl), by repeat (first | (with_reducible first | exact HB.out | apply bA | apply bN | apply bD | refine below_set ?_ GE155.out) | exact HB.out)⟩
 ·rw [if_neg c3] at H
  have c3b0 : decide (1048576 < (ji2)) = false := decide_eq_false c3
  clear c3
  obtain ⟨ji6, hji6⟩ : ∃ j_ : Int, (mn a0_0 a0_1) = j_ := ⟨_, rfl⟩
  replace H : (if (ji6) < (-1048576) then (some false) else (if (l0_3.length : Int) > 128 then (some false) else (if a0_2 < 0 then (some false) else (if a0_2 > 128 then (some false) else (if ((a0_2 == 0) != ((l0_3.length : Int) == 0)) = true then (some false) else ((slices_ContainsFunc_string_string_by_impl_ValidBitmap_1.f k l0_3 [(⟨a0_0, a0_1, a0_2, l0_3⟩ : S27)] 0).bind fun t156 => (some (!t156)))))))) = some r := by first | (rw [hji6] at H; exact H) | (simp only [hji6] at H ⊢; exact H)
  have hji6_ : (if a0_1 < a0_0 then a0_1 else a0_0) = ji6 := hji6
  by_cases c7 : (ji6) < (-1048576)
  ·rw [if_pos c7] at H
   have c7b0 : decide ((ji6) < (-1048576)) = true := decide_eq_true c7
   clear c7
   obtain rfl := Option.some.inj H
   go_enter Tryd.func12, Tryd.ntmps12
   go_wp2_with (first | ((with_reducible refine gate_dst (N := 1) rfl ?_); (try (refine gate_guard (by rfl) ?_; dsimp only)); refine box_event ?hg (N := 1) ?hd (cs := #[.int .i64 a0_0, .int .i64 a0_1, .int .i64 a0_2, .slice A0_3 l0_3.length c0_3]) (t := 27) ?hr ?_; (case hd => rfl); (case hg => rfl); (case hr => first | (go_simp; done) | (go_simp; rfl)); intro gb155 hg w8 hbox hb; have n0_ := aM (below_step bQ hb); have n1_ := aM (hbox); have n2_ := aM ((by rw [hg]; exact (below_size bQ) : w.heap.size ≤ gb155)); have n3_ := aM ((by rw [hg]; exact (below_size bQ) : w.heap.size ≤ gb155)); clear HB; have HB := n0_; have BK155 := n1_; have GW155 := n2_; have GE155 := n3_; clear n0_ n1_ n2_ n3_; clear hb hbox hg; have hcz9_0 : w8.cell? ⟨gb155, 0, none⟩ = some (.int .i64 a0_0) := (blk_cell BK155.out 0).trans rfl; have hcz9_1 : w8.cell? ⟨gb155, 1, none⟩ = some (.int .i64 a0_1) := (blk_cell BK155.out 1).trans rfl; have hcz9_2 : w8.cell? ⟨gb155, 2, none⟩ = some (.int .i64 a0_2) := (blk_cell BK155.out 2).trans rfl; have hcz9_3 : w8.cell? ⟨gb155, 3, none⟩ = some (.slice A0_3 l0_3.length c0_3) := (blk_cell BK155.out 3).trans rfl; have hfz9_0 := blk_frozen BK155.out 0; have hfz9_1 := blk_frozen BK155.out 1; have hfz9_2 := blk_frozen BK155.out 2; have hfz9_3 := blk_frozen BK155.out 3))
   go_ret
   exact ⟨by first | rfl | (simp [errW_none, errW_some] <;> rfl) | (simp only [← hji2, ← hji6]; first | rfl | (simp [errW_none, errW_some] <;> rfl)) | (simp [*, errW_none, errW_some] <;> rfl), by repeat (first | (with_reducible first | exact HB.out | apply bA | apply bN | apply bD | refine below_set ?_ GE155.out) | exact HB.out)⟩
  ·rw [if_neg c7] at H
   have c7b0 : decide ((ji6) < (-1048576)) = false := decide_eq_false c7
   clear c7
   by_cases c10 : (l0_3.length : Int) > 128
   ·rw [if_pos c10] at H
    have c10b0 : decide (128 < (l0_3.length : Int)) = true := decide_eq_true c10
    have c10b1 : decide (128 < l0_3.length) = true := decide_eq_true (by omega)
    clear c10
    obtain rfl := Option.some.inj H
    go_enter Tryd.func12, Tryd.ntmps12
    go_wp2_with (first | ((with_reducible refine gate_dst (N := 1) rfl ?_); (try (refine gate_guard (by rfl) ?_; dsimp only)); refine box_event ?hg (N := 1) ?hd (cs := #[.int .i64 a0_0, .int .i64 a0_1, .int .i64 a0_2, .slice A0_3 l0_3.length c0_3]) (t := 27) ?hr ?_; (case hd => rfl); (case hg => rfl); (case hr => first | (go_simp; done) | (go_simp; rfl)); intro gb155 hg w11 hbox hb; have n0_ := aM (below_step bQ hb); have n1_ := aM (hbox); have n2_ := aM ((by rw [hg]; exact (below_size bQ) : w.heap.size ≤ gb155)); have n3_ := aM ((by rw [hg]; exact (below_size bQ) : w.heap.size ≤ gb155)); clear HB; have HB := n0_; have BK155 := n1_; have GW155 := n2_; have GE155 := n3_; clear n0_ n1_ n2_ n3_; clear hb hbox hg; have hcz12_0 : w11.cell? ⟨gb155, 0, none⟩ = some (.int .i64 a0_0) := (blk_cell BK155.out 0).trans rfl; have hcz12_1 : w11.cell? ⟨gb155, 1, none⟩ = some (.int .i64 a0_1) := (blk_cell BK155.out 1).trans rfl; have hcz12_2 : w11.cell? ⟨gb155, 2, none⟩ = some (.int .i64 a0_2) := (blk_cell BK155.out 2).trans rfl; have hcz12_3 : w11.cell? ⟨gb155, 3, none⟩ = some (.slice A0_3 l0_3.length c0_3) := (blk_cell BK155.out 3).trans rfl; have hfz12_0 := blk_frozen BK155.out 0; have hfz12_1 := blk_frozen BK155.out 1; have hfz12_2 := blk_frozen BK155.out 2; have hfz12_3 := blk_frozen BK155.out 3))
    go_ret
    exact ⟨by first | rfl | (simp [errW_none, errW_some] <;> rfl) | (simp only [← hji2, ← hji6]; first | rfl | (simp [errW_none, errW_some] <;> rfl)) | (simp [*, errW_none, errW_some] <;> rfl), by repeat (first | (with_reducible first | exact HB.out | apply bA | apply bN | apply bD | refine below_set ?_ GE155.out) | exact HB.out)⟩
   ·rw [if_neg c10] at H
    have c10b0 : decide (128 < (l0_3.length : Int)) = false := decide_eq_false c10
    have c10b1 : decide (128 < l0_3.length) = false := decide_eq_false (by omega)
    clear c10
    by_cases c13 : a0_2 < 0
    ·rw [if_pos c13] at H
     have c13b0 : decide (a0_2 < 0) = true := decide_eq_true c13
     clear c13
     obtain rfl := Option.some.inj H
     go_enter Tryd.func12, Tryd.ntmps12
     go_wp2_with (first | ((with_reducible refine gate_dst (N := 1) rfl ?_); (try (refine gate_guard (by rfl) ?_; dsimp only)); refine box_event ?hg (N := 1) ?hd (cs := #[.int .i64 a0_0, .int .i64 a0_1, .int .i64 a0_2, .slice A0_3 l0_3.length c0_3]) (t := 27) ?hr ?_; (case hd => rfl); (case hg => rfl); (case hr => first | (go_simp; done) | (go_simp; rfl)); intro gb155 hg w14 hbox hb; have n0_ := aM (below_step bQ hb); have n1_ := aM (hbox); have n2_ := aM ((by rw [hg]; exact (below_size bQ) : w.heap.size ≤ gb155)); have n3_ := aM ((by rw [hg]; exact (below_size bQ) : w.heap.size ≤ gb155)); clear HB; have HB := n0_; have BK155 := n1_; have GW155 := n2_; have GE155 := n3_; clear n0_ n1_ n2_ n3_; clear hb hbox hg; have hcz15_0 : w14.cell? ⟨gb155, 0, none⟩ = some (.int .i64 a0_0) := (blk_cell BK155.out 0).trans rfl; have hcz15_1 : w14.cell? ⟨gb155, 1, none⟩ = some (.int .i64 a0_1) := (blk_cell BK155.out 1).trans rfl; have hcz15_2 : w14.cell? ⟨gb155, 2, none⟩ = some (.int .i64 a0_2) := (blk_cell BK155.out 2).trans rfl; have hcz15_3 : w14.cell? ⟨gb155, 3, none⟩ = some (.slice A0_3 l0_3.length c0_3) := (blk_cell BK155.out 3).trans rfl; have hfz15_0 := blk_frozen BK155.out 0; have hfz15_1 := blk_frozen BK155.out 1; have hfz15_2 := blk_frozen BK155.out 2; have hfz15_3 := blk_frozen BK155.out 3))
     go_ret
     exact ⟨by first | rfl | (simp [errW_none, errW_some] <;> rfl) | (simp only [← hji2, ← hji6]; first | rfl | (simp [errW_none, errW_some] <;> rfl)) | (simp [*, errW_none, errW_some] <;> rfl), by repeat (first | (with_reducible first | exact HB.out | apply bA | apply bN | apply bD | refine below_set ?_ GE155.out) | exact HB.out)⟩
    ·rw [if_neg c13] at H
     have c13b0 : decide (a0_2 < 0) = false := decide_eq_false c13
     clear c13
     by_cases c16 : a0_2 > 128
     ·rw [if_pos c16] at H
      have c16b0 : decide (128 < a0_2) = true := decide_eq_true c16
      clear c16
      obtain rfl := Option.some.inj H
      go_enter Tryd.func12, Tryd.ntmps12
      go_wp2_with (first | ((with_reducible refine gate_dst (N := 1) rfl ?_); (try (refine gate_guard (by rfl) ?_; dsimp only)); refine box_event ?hg (N := 1) ?hd (cs := #[.int .i64 a0_0, .int .i64 a0_1, .int .i64 a0_2, .slice A0_3 l0_3.length c0_3]) (t := 27) ?hr ?_; (case hd => rfl); (case hg => rfl); (case hr => first | (go_simp; done) | (go_simp; rfl)); intro gb155 hg w17 hbox hb; have n0_ := aM (below_step bQ hb); have n1_ := aM (hbox); have n2_ := aM ((by rw [hg]; exact (below_size bQ) : w.heap.size ≤ gb155)); have n3_ := aM ((by rw [hg]; exact (below_size bQ) : w.heap.size ≤ gb155)); clear HB; have HB := n0_; have BK155 := n1_; have GW155 := n2_; have GE155 := n3_; clear n0_ n1_ n2_ n3_; clear hb hbox hg; have hcz18_0 : w17.cell? ⟨gb155, 0, none⟩ = some (.int .i64 a0_0) := (blk_cell BK155.out 0).trans rfl; have hcz18_1 : w17.cell? ⟨gb155, 1, none⟩ = some (.int .i64 a0_1) := (blk_cell BK155.out 1).trans rfl; have hcz18_2 : w17.cell? ⟨gb155, 2, none⟩ = some (.int .i64 a0_2) := (blk_cell BK155.out 2).trans rfl; have hcz18_3 : w17.cell? ⟨gb155, 3, none⟩ = some (.slice A0_3 l0_3.length c0_3) := (blk_cell BK155.out 3).trans rfl; have hfz18_0 := blk_frozen BK155.out 0; have hfz18_1 := blk_frozen BK155.out 1; have hfz18_2 := blk_frozen BK155.out 2; have hfz18_3 := blk_frozen BK155.out 3))
      go_ret
      exact ⟨by first | rfl | (simp [errW_none, errW_some] <;> rfl) | (simp only [← hji2, ← hji6]; first | rfl | (simp [errW_none, errW_some] <;> rfl)) | (simp [*, errW_none, errW_some] <;> rfl), by repeat (first | (with_reducible first | exact HB.out | apply bA | apply bN | apply bD | refine below_set ?_ GE155.out) | exact HB.out)⟩
     ·rw [if_neg c16] at H
      have c16b0 : decide (128 < a0_2) = false := decide_eq_false c16
      clear c16
      by_cases c19 : ((a0_2 == 0) != ((l0_3.length : Int) == 0)) = true
      ·rw [if_pos c19] at H
       have c19b0 : ((a0_2 == 0) != ((l0_3.length : Int) == 0)) = true := c19
       (try (have c19b1 : decide ((a0_2 == 0) = ((l0_3.length : Int) == 0)) = false := by simpa using c19))
       (try (have c19b2 : ((a0_2 == 0) == ((l0_3.length : Int) == 0)) = false := by simpa using c19))
       (try (have c19b3 : ¬ ((a0_2 == 0) = ((l0_3.length : Int) == 0)) := by simpa using c19))
       (try (have c19b4 : (!((a0_2 == 0) == ((l0_3.length : Int) == 0))) = true := by simpa using c19))
       clear c19
       obtain rfl := Option.some.inj H
       go_enter Tryd.func12, Tryd.ntmps12
       go_wp2_with (first | ((with_reducible refine gate_dst (N := 1) rfl ?_); (try (refine gate_guard (by rfl) ?_; dsimp only)); refine box_event ?hg (N := 1) ?hd (cs := #[.int .i64 a0_0, .int .i64 a0_1, .int .i64 a0_2, .slice A0_3 l0_3.length c0_3]) (t := 27) ?hr ?_; (case hd => rfl); (case hg => rfl); (case hr => first | (go_simp; done) | (go_simp; rfl)); intro gb155 hg w20 hbox hb; have n0_ := aM (below_step bQ hb); have n1_ := aM (hbox); have n2_ := aM ((by rw [hg]; exact (below_size bQ) : w.heap.size ≤ gb155)); have n3_ := aM ((by rw [hg]; exact (below_size bQ) : w.heap.size ≤ gb155)); clear HB; have HB := n0_; have BK155 := n1_; have GW155 := n2_; have GE155 := n3_; clear n0_ n1_ n2_ n3_; clear hb hbox hg; have hcz21_0 : w20.cell? ⟨gb155, 0, none⟩ = some (.int .i64 a0_0) := (blk_cell BK155.out 0).trans rfl; have hcz21_1 : w20.cell? ⟨gb155, 1, none⟩ = some (.int .i64 a0_1) := (blk_cell BK155.out 1).trans rfl; have hcz21_2 : w20.cell? ⟨gb155, 2, none⟩ = some (.int .i64 a0_2) := (blk_cell BK155.out 2).trans rfl; have hcz21_3 : w20.cell? ⟨gb155, 3, none⟩ = some (.slice A0_3 l0_3.length c0_3) := (blk_cell BK155.out 3).trans rfl; have hfz21_0 := blk_frozen BK155.out 0; have hfz21_1 := blk_frozen BK155.out 1; have hfz21_2 := blk_frozen BK155.out 2; have hfz21_3 := blk_frozen BK155.out 3))
       go_ret
       exact ⟨by first | rfl | (simp [errW_none, errW_some] <;> rfl) | (simp only [← hji2, ← hji6]; first | rfl | (simp [errW_none, errW_some] <;> rfl)) | (simp [*, errW_none, errW_some] <;> rfl), by repeat (first | (with_reducible first | exact HB.out | apply bA | apply bN | apply bD | refine below_set ?_ GE155.out) | exact HB.out)⟩
      ·rw [if_neg c19] at H
       have c19b0 : ((a0_2 == 0) != ((l0_3.length : Int) == 0)) = false := by simpa using c19
       (try (have c19b1 : decide ((a0_2 == 0) = ((l0_3.length : Int) == 0)) = true := by simpa using c19))
       (try (have c19b2 : ((a0_2 == 0) == ((l0_3.length : Int) == 0)) = true := by simpa using c19))
       (try (have c19b3 : (!((a0_2 == 0) == ((l0_3.length : Int) == 0))) = false := by simpa using c19))
       clear c19
       replace H := Option.bind_eq_some_iff.mp H
       obtain ⟨t156, A220, H⟩ := H
       replace H : (some (!t156)) = some r := H
       have A22 := aM A220
       clear A220
       obtain rfl := Option.some.inj H
       go_enter Tryd.func12, Tryd.ntmps12
       go_wp2_with (first | ((with_reducible refine gate_dst (N := 1) rfl ?_); (try (refine gate_guard (by rfl) ?_; dsimp only)); refine box_event ?hg (N := 1) ?hd (cs := #[.int .i64 a0_0, .int .i64 a0_1, .int .i64 a0_2, .slice A0_3 l0_3.length c0_3]) (t := 27) ?hr ?_; (case hd => rfl); (case hg => rfl); (case hr => first | (go_simp; done) | (go_simp; rfl)); intro gb155 hg w23 hbox hb; have n0_ := aM (below_step bQ hb); have n1_ := aM (hbox); have n2_ := aM ((by rw [hg]; exact (below_size bQ) : w.heap.size ≤ gb155)); have n3_ := aM ((by rw [hg]; exact (below_size bQ) : w.heap.size ≤ gb155)); clear HB; have HB := n0_; have BK155 := n1_; have GW155 := n2_; have GE155 := n3_; clear n0_ n1_ n2_ n3_; clear hb hbox hg; have hcz24_0 : w23.cell? ⟨gb155, 0, none⟩ = some (.int .i64 a0_0) := (blk_cell BK155.out 0).trans rfl; have hcz24_1 : w23.cell? ⟨gb155, 1, none⟩ = some (.int .i64 a0_1) := (blk_cell BK155.out 1).trans rfl; have hcz24_2 : w23.cell? ⟨gb155, 2, none⟩ = some (.int .i64 a0_2) := (blk_cell BK155.out 2).trans rfl; have hcz24_3 : w23.cell? ⟨gb155, 3, none⟩ = some (.slice A0_3 l0_3.length c0_3) := (blk_cell BK155.out 3).trans rfl; have hfz24_0 := blk_frozen BK155.out 0; have hfz24_1 := blk_frozen BK155.out 1; have hfz24_2 := blk_frozen BK155.out 2; have hfz24_3 := blk_frozen BK155.out 3) | ((with_reducible refine gate_callee (f := 29) rfl ?_); refine goesL_ (some 46) rfl rfl Tryd.func29 (by kernel_rfl) rfl #[.slice A0_3 l0_3.length c0_3, .func (.func 30) #[] #[.pointer (some ⟨gb155, 0, none⟩)]] rfl gQ ?_; (with_reducible refine (slices_ContainsFunc_string_string_by_impl_ValidBitmap_1.calls k _ _ l0_3 _ [(⟨a0_0, a0_1, a0_2, l0_3⟩ : S27)] 0 t156 _ ?side1 ?side2 ?side3 A22.out).mono ?_); (case side1 => exact cQ HR0_3.out); (case side2 => exact HC0_3.out); (case side3 => exact RPtr.box (k27_mk _ _ (by exact HC0_3.out) (by repeat (first | exact (Kd.C_below HR0_3.out HB.out) | (with_reducible first | refine cA ?_ _ | refine cN ?_ _ | refine cD ?_)))) (by (with_reducible repeat (first | refine blk_drewN ?_ _ | refine blk_drew ?_ | refine blk_alloc ?_ _)); exact BK155.out) rfl); rintro e w25 ⟨rfl, hb⟩; refine ⟨_, rfl, ?_⟩; have n0_ := aM (blk_below (g := gb155) (o := .cells #[.int .i64 a0_0, .int .i64 a0_1, .int .i64 a0_2, .slice A0_3 l0_3.length c0_3] 27 (0, 0)) (by (with_reducible repeat (first | refine blk_drewN ?_ _ | refine blk_drew ?_ | refine blk_alloc ?_ _)); exact BK155.out) hb); have n1_ := aM (below_step (by repeat (first | (with_reducible first | exact HB.out | apply bA | apply bN | apply bD | refine below_set ?_ GE155.out) | exact HB.out)) hb); clear BK155; clear HB; have BK155 := n0_; have HB := n1_; clear n0_ n1_; (try clear hb); (try clear hb2); (try clear hk); (try clear hi)))
       go_ret
       exact ⟨by first | rfl | (simp [errW_none, errW_some] <;> rfl) | (simp only [← hji2, ← hji6]; first | rfl | (simp [errW_none, errW_some] <;> rfl)) | (simp [*, errW_none, errW_some] <;> rfl), by repeat (first | (with_reducible first | exact HB.out | apply bA | apply bN | apply bD | refine below_set ?_ GE155.out) | exact HB.out)⟩

/-! ### strings_Count: function 41, given -/
def strings_Count.f (a0 : ByteArray) (a1 : ByteArray) : Option (Int) := Go.Proofs.YthngjfipdfckkaaDoor.Gv.countF a0 a1
theorem strings_Count.calls (a0 : ByteArray) (a1 : ByteArray) (r : Int) (w : World) (h : strings_Count.f a0 a1 = some r) :
  Calls Tryd.prog 41 #[.string a0, .string a1] w fun e w' => e = .returned (.int .i64 r) ∧ Drawn0 w w' := Go.Proofs.YthngjfipdfckkaaDoor.Gv.countF_calls a0 a1 r w h

/-! ### impl_InkOf: function 21 -/
def impl_InkOf.l0 : Nat → Int → List ByteArray → Int → Int → Option (Int × Int)
 | 0, _, _, _, _ => none
 | k + 1, x4, x11, x12, x13 => if x13 < x12 then (if 0 ≤ x13 then (if x13 < (x11.length : Int) then ((strings_Count.f (rdOf ByteArray.empty x11 x13) (⟨#[35]⟩ : ByteArray)).bind fun t162 => (impl_InkOf.l0 k (wrap64 (x4 + t162)) x11 x12 (wrap64 (x13 + 1)))) else (none)) else (none)) else (some (x4, 0))
def impl_InkOf.f (k : Nat) (a0_0 : Int) (a0_1 : Int) (a0_2 : Int) (l0_3 : List ByteArray) : Option (Int × Int) := (impl_ValidBitmap.f k a0_0 a0_1 a0_2 l0_3).bind fun t160 => (if t160 = true then (impl_InkOf.l0 k 0 l0_3 (l0_3.length : Int) 0) else (some (0, 1)))
theorem impl_InkOf.mono_l : ∀ k, (∀ y0 y1 y2 y3, LeO (impl_InkOf.l0 k y0 y1 y2 y3) (impl_InkOf.l0 (k + 1) y0 y1 y2 y3))
 | 0 => fun _ _ _ _ r h => by simp [impl_InkOf.l0] at h
 | k + 1 => by
  have ih0 := impl_InkOf.mono_l k
  ·intro y0 y1 y2 y3
   unfold impl_InkOf.l0
   repeat' first
   | (with_reducible exact ih0 _ _ _ _)
   | (with_reducible exact impl_ValidBitmap.mono _ _ _ _ _)
   | (with_reducible exact LeO.refl _)
   | (with_reducible exact LeO.none _)
   | (with_reducible refine LeO.ite ?_ ?_)
   | (with_reducible refine LeO.bind ?_ (fun _ => ?_))
   | exact ih0 _ _ _ _
   | exact impl_ValidBitmap.mono _ _ _ _ _
   | exact LeO.none _
   | refine LeO.ite ?_ ?_
   | refine LeO.bind ?_ (fun _ => ?_)
theorem impl_InkOf.mono : ∀ a0 a1 a2 a3 k, LeO (impl_InkOf.f k a0 a1 a2 a3) (impl_InkOf.f (k + 1) a0 a1 a2 a3) := by
 intro a0 a1 a2 a3 k
 have ih0 := impl_InkOf.mono_l k
 unfold impl_InkOf.f
 repeat' first
   | (with_reducible exact ih0 _ _ _ _)
   | (with_reducible exact impl_ValidBitmap.mono _ _ _ _ _)
   | (with_reducible exact LeO.refl _)
   | (with_reducible exact LeO.none _)
   | (with_reducible refine LeO.ite ?_ ?_)
   | (with_reducible refine LeO.bind ?_ (fun _ => ?_))
   | exact ih0 _ _ _ _
   | exact impl_ValidBitmap.mono _ _ _ _ _
   | exact LeO.none _
   | refine LeO.ite ?_ ?_
   | refine LeO.bind ?_ (fun _ => ?_)
set_option maxHeartbeats 8000000 in
set_option maxRecDepth 100000 in
theorem impl_InkOf.calls (k : Nat) (a0_0 : Int) (a0_1 : Int) (a0_2 : Int) (A0_3 : Option Addr) (c0_3 : Nat) (l0_3 : List ByteArray) (r1 : Int) (r2 : Int) (w : World) (hr0_3 : Kd.C Kd.string w A0_3 l0_3.length l0_3) (hc0_3 : l0_3.length ≤ c0_3) (h : impl_InkOf.f k a0_0 a0_1 a0_2 l0_3 = some (r1, r2)) :
  Calls Tryd.prog 21 #[.agg #[.int .i64 a0_0, .int .i64 a0_1, .int .i64 a0_2, .slice A0_3 l0_3.length c0_3]] w fun e w' => e = .returned (.tuple #[.int .i64 r1, .int .i64 r2]) ∧ Below w.heap.size w w' := by
 have hu27 := Tryd.underlying27
 have HR0_3 := aM hr0_3
 have HC0_3 := aM hc0_3
 clear hr0_3 hc0_3
 have HB := aM (Below.refl w.heap.size w)
 have H : ((impl_ValidBitmap.f k a0_0 a0_1 a0_2 l0_3).bind fun t160 => (if t160 = true then (impl_InkOf.l0 k 0 l0_3 (l0_3.length : Int) 0) else (some (0, 1)))) = some (r1, r2) := h
 clear h
 replace H := Option.bind_eq_some_iff.mp H
 obtain ⟨t160, A20, H⟩ := H
 replace H : (if t160 = true then (impl_InkOf.l0 k 0 l0_3 (l0_3.length : Int) 0) else (some (0, 1))) = some (r1, r2) := H
 have A2 := aM A20
 clear A20
 by_cases c3 : t160 = true
 ·subst c3
  have H1 : (impl_InkOf.l0 k 0 l0_3 (l0_3.length : Int) 0) = some (r1, r2) := by rw [if_pos rfl] at H; exact H
  clear H
  have H := H1
  clear H1
  have H' := aM H
  clear H
  go_enter Tryd.func21, Tryd.ntmps21
  go_wp2_with (first | ((with_reducible refine gate_dst (N := 1) rfl ?_); refine box_event ?hg (N := 1) ?hd (cs := #[.int .i64 a0_0, .int .i64 a0_1, .int .i64 a0_2, .slice A0_3 l0_3.length c0_3]) (t := 27) ?hr ?_; (case hd => rfl); (case hg => rfl); (case hr => first | (go_simp; done) | (go_simp; rfl)); intro gb159 hg w4 hbox hb; have n0_ := aM (below_step bQ hb); have n1_ := aM (hbox); have n2_ := aM ((by rw [hg]; exact (below_size bQ) : w.heap.size ≤ gb159)); have n3_ := aM ((by rw [hg]; exact (below_size bQ) : w.heap.size ≤ gb159)); clear HB; have HB := n0_; have BK159 := n1_; have GW159 := n2_; have GE159 := n3_; clear n0_ n1_ n2_ n3_; clear hb hbox hg; have hcz5_0 : w4.cell? ⟨gb159, 0, none⟩ = some (.int .i64 a0_0) := (blk_cell BK159.out 0).trans rfl; have hcz5_1 : w4.cell? ⟨gb159, 1, none⟩ = some (.int .i64 a0_1) := (blk_cell BK159.out 1).trans rfl; have hcz5_2 : w4.cell? ⟨gb159, 2, none⟩ = some (.int .i64 a0_2) := (blk_cell BK159.out 2).trans rfl; have hcz5_3 : w4.cell? ⟨gb159, 3, none⟩ = some (.slice A0_3 l0_3.length c0_3) := (blk_cell BK159.out 3).trans rfl; have hfz5_0 := blk_frozen BK159.out 0; have hfz5_1 := blk_frozen BK159.out 1; have hfz5_2 := blk_frozen BK159.out 2; have hfz5_3 := blk_frozen BK159.out 3) | ((with_reducible refine gate_callee (f := 12) rfl ?_); refine goesL_ (some 8) rfl rfl Tryd.func12 (by kernel_rfl) rfl #[.agg #[.int .i64 a0_0, .int .i64 a0_1, .int .i64 a0_2, .slice A0_3 l0_3.length c0_3]] rfl gQ ?_; (with_reducible refine (impl_ValidBitmap.calls k a0_0 a0_1 a0_2 _ _ l0_3 true _ ?side1 ?side2 A2.out).mono ?_); (case side1 => exact cQ HR0_3.out); (case side2 => exact HC0_3.out); rintro e w6 ⟨rfl, hb⟩; refine ⟨_, rfl, ?_⟩; have n0_ := aM (blk_below (g := gb159) (o := .cells #[.int .i64 a0_0, .int .i64 a0_1, .int .i64 a0_2, .slice A0_3 l0_3.length c0_3] 27 (0, 0)) (by (with_reducible repeat (first | refine blk_drewN ?_ _ | refine blk_drew ?_ | refine blk_alloc ?_ _)); exact BK159.out) hb); have n1_ := aM (below_step (by repeat (first | (with_reducible first | exact HB.out | apply bA | apply bN | apply bD | refine below_set ?_ GE159.out) | exact HB.out)) hb); clear BK159; clear HB; have BK159 := n0_; have HB := n1_; clear n0_ n1_; (try clear hb); (try clear hb2); (try clear hk); (try clear hi); have hcz7_0 : w6.cell? ⟨gb159, 0, none⟩ = some (.int .i64 a0_0) := (blk_cell BK159.out 0).trans rfl; have hcz7_1 : w6.cell? ⟨gb159, 1, none⟩ = some (.int .i64 a0_1) := (blk_cell BK159.out 1).trans rfl; have hcz7_2 : w6.cell? ⟨gb159, 2, none⟩ = some (.int .i64 a0_2) := (blk_cell BK159.out 2).trans rfl; have hcz7_3 : w6.cell? ⟨gb159, 3, none⟩ = some (.slice A0_3 l0_3.length c0_3) := (blk_cell BK159.out 3).trans rfl; have hfz7_0 := blk_frozen BK159.out 0; have hfz7_1 := blk_frozen BK159.out 1; have hfz7_2 := blk_frozen BK159.out 2; have hfz7_3 := blk_frozen BK159.out 3))
  go_loopg [4, 13] k (fun kq v4 v13 w' => ∃ (x4_1 : Int) (x13_1 : Int), v4 = .int .i64 x4_1 ∧ v13 = .int .i64 x13_1 ∧ Aside0 (impl_InkOf.l0 kq x4_1 l0_3 (l0_3.length : Int) x13_1 = some (r1, r2)) ∧ Aside0 (kq ≤ k) ∧ Aside0 (w'.heap[gb159]? = some (.cells #[.int .i64 a0_0, .int .i64 a0_1, .int .i64 a0_2, (.slice A0_3 l0_3.length c0_3)] 27 (0, 0))) ∧ Aside0 (Below w.heap.size w w'))
  case atStart => exact ⟨(0), (0), rQ, rQ, H', ⟨Nat.le_refl _⟩, ⟨by (with_reducible repeat (first | refine blk_drewN ?_ _ | refine blk_drew ?_ | refine blk_alloc ?_ _)); exact BK159.out⟩, ⟨by repeat (first | (with_reducible first | exact HB.out | apply bA | apply bN | apply bD | refine below_set ?_ GE159.out) | exact HB.out)⟩⟩
  case round =>
   clear H'
   try clear c1
   try clear c2
   try clear p2
   try clear c3
   try clear hcz5_0
   try clear hcz5_1
   try clear hcz5_2
   try clear hcz5_3
   try clear hcz7_0
   try clear hcz7_1
   try clear hcz7_2
   try clear hcz7_3
   try clear hfz5_0
   try clear hfz5_1
   try clear hfz5_2
   try clear hfz5_3
   try clear hfz7_0
   try clear hfz7_1
   try clear hfz7_2
   try clear hfz7_3
   obtain ⟨x4_1, x13_1, rfl, rfl, HA, HK1, BK159, HB⟩ := hrel
   cases gk with
   | zero => exact absurd HA.out (by simp [impl_InkOf.l0])
   | succ k1 =>
    have H := HA.out
    clear HA
    simp only [impl_InkOf.l0] at H
    by_cases c8 : x13_1 < (l0_3.length : Int)
    ·rw [if_pos c8] at H
     have c8b0 : decide (x13_1 < (l0_3.length : Int)) = true := decide_eq_true c8
     clear c8
     by_cases c9 : 0 ≤ x13_1
     ·rw [if_pos c9] at H
      have c9b0 : decide (0 ≤ x13_1) = true := decide_eq_true c9
      clear c9
      by_cases c10 : x13_1 < (l0_3.length : Int)
      ·rw [if_pos c10] at H
       have c10b0 : decide (x13_1 < (l0_3.length : Int)) = true := decide_eq_true c10
       clear c10
       replace H := Option.bind_eq_some_iff.mp H
       obtain ⟨t162, A110, H⟩ := H
       replace H : (impl_InkOf.l0 k1 (wrap64 (x4_1 + t162)) l0_3 (l0_3.length : Int) (wrap64 (x13_1 + 1))) = some (r1, r2) := H
       have A11 := aM A110
       clear A110
       have H' := aM H
       clear H
       have p161 : 0 ≤ (x13_1 : Int) := dA
       have q161 : x13_1 < (l0_3.length : Int) := dA
       obtain ⟨ad161, e161, hx161_0⟩ := Kd.at_string HR0_3.out x13_1 p161 q161
       cases e161
       replace hx161_0 := cB HB.out hx161_0
       replace p161 := eq_true p161
       replace q161 := eq_true q161
       go_wp2_with (first | ((with_reducible refine gate_callee (f := 41) rfl ?_); refine goesL_ (some 19) rfl rfl Tryd.func41 (by kernel_rfl) rfl #[.string (rdOf ByteArray.empty l0_3 x13_1), .string (⟨#[35]⟩ : ByteArray)] rfl gQ ?_; (with_reducible refine (strings_Count.calls (rdOf ByteArray.empty l0_3 x13_1) (⟨#[35]⟩ : ByteArray) t162 _ A11.out).mono ?_); rintro e w' ⟨rfl, ⟨nd, rfl⟩⟩; refine ⟨_, rfl, ?_⟩))
       go_roundg k1
       case measure => have := HK1.out; omega
       case rel => exact ⟨(wrap64 (x4_1 + t162)), (wrap64 (x13_1 + 1)), rQ, rQ, H', ⟨by have := HK1.out; omega⟩, ⟨by (with_reducible repeat (first | refine blk_drewN ?_ _ | refine blk_drew ?_ | refine blk_alloc ?_ _)); exact BK159.out⟩, ⟨by repeat (first | (with_reducible first | exact HB.out | apply bA | apply bN | apply bD | refine below_set ?_ GE159.out) | exact HB.out)⟩⟩
      ·rw [if_neg c10] at H
       exact absurd H (by simp)
     ·rw [if_neg c9] at H
      exact absurd H (by simp)
    ·rw [if_neg c8] at H
     have c8b0 : decide (x13_1 < (l0_3.length : Int)) = false := decide_eq_false c8
     clear c8
     simp only [Option.some.injEq, Prod.mk.injEq] at H
     obtain ⟨rfl, rfl⟩ := H
     go_wp2
     go_ret2
     exact ⟨eQ, by repeat (first | (with_reducible first | exact HB.out | apply bA | apply bN | apply bD | refine below_set ?_ GE159.out) | exact HB.out)⟩
 ·replace c3 := Bool.eq_false_iff.mpr c3
  subst c3
  have H1 : (some (0, 1)) = some (r1, r2) := by rw [if_neg (show ¬ (false = true) by decide)] at H; exact H
  clear H
  have H := H1
  clear H1
  simp only [Option.some.injEq, Prod.mk.injEq] at H
  obtain ⟨rfl, rfl⟩ := H
  go_enter Tryd.func21, Tryd.ntmps21
  go_wp2_with (first | ((with_reducible refine gate_dst (N := 1) rfl ?_); refine box_event ?hg (N := 1) ?hd (cs := #[.int .i64 a0_0, .int .i64 a0_1, .int .i64 a0_2, .slice A0_3 l0_3.length c0_3]) (t := 27) ?hr ?_; (case hd => rfl); (case hg => rfl); (case hr => first | (go_simp; done) | (go_simp; rfl)); intro gb159 hg w12 hbox hb; have n0_ := aM (below_step bQ hb); have n1_ := aM (hbox); have n2_ := aM ((by rw [hg]; exact (below_size bQ) : w.heap.size ≤ gb159)); have n3_ := aM ((by rw [hg]; exact (below_size bQ) : w.heap.size ≤ gb159)); clear HB; have HB := n0_; have BK159 := n1_; have GW159 := n2_; have GE159 := n3_; clear n0_ n1_ n2_ n3_; clear hb hbox hg; have hcz13_0 : w12.cell? ⟨gb159, 0, none⟩ = some (.int .i64 a0_0) := (blk_cell BK159.out 0).trans rfl; have hcz13_1 : w12.cell? ⟨gb159, 1, none⟩ = some (.int .i64 a0_1) := (blk_cell BK159.out 1).trans rfl; have hcz13_2 : w12.cell? ⟨gb159, 2, none⟩ = some (.int .i64 a0_2) := (blk_cell BK159.out 2).trans rfl; have hcz13_3 : w12.cell? ⟨gb159, 3, none⟩ = some (.slice A0_3 l0_3.length c0_3) := (blk_cell BK159.out 3).trans rfl; have hfz13_0 := blk_frozen BK159.out 0; have hfz13_1 := blk_frozen BK159.out 1; have hfz13_2 := blk_frozen BK159.out 2; have hfz13_3 := blk_frozen BK159.out 3) | ((with_reducible refine gate_callee (f := 12) rfl ?_); refine goesL_ (some 8) rfl rfl Tryd.func12 (by kernel_rfl) rfl #[.agg #[.int .i64 a0_0, .int .i64 a0_1, .int .i64 a0_2, .slice A0_3 l0_3.length c0_3]] rfl gQ ?_; (with_reducible refine (impl_ValidBitmap.calls k a0_0 a0_1 a0_2 _ _ l0_3 false _ ?side1 ?side2 A2.out).mono ?_); (case side1 => exact cQ HR0_3.out); (case side2 => exact HC0_3.out); rintro e w14 ⟨rfl, hb⟩; refine ⟨_, rfl, ?_⟩; have n0_ := aM (blk_below (g := gb159) (o := .cells #[.int .i64 a0_0, .int .i64 a0_1, .int .i64 a0_2, .slice A0_3 l0_3.length c0_3] 27 (0, 0)) (by (with_reducible repeat (first | refine blk_drewN ?_ _ | refine blk_drew ?_ | refine blk_alloc ?_ _)); exact BK159.out) hb); have n1_ := aM (below_step (by repeat (first | (with_reducible first | exact HB.out | apply bA | apply bN | apply bD | refine below_set ?_ GE159.out) | exact HB.out)) hb); clear BK159; clear HB; have BK159 := n0_; have HB := n1_; clear n0_ n1_; (try clear hb); (try clear hb2); (try clear hk); (try clear hi)))
  go_ret2
  exact ⟨eQ, by repeat (first | (with_reducible first | exact HB.out | apply bA | apply bN | apply bD | refine below_set ?_ GE159.out) | exact HB.out)⟩

end Go.Proofs.YthngjfipdfckkaaDoor.QFnExactInkOf
