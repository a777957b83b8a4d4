/- What some Go functions answer, each as a Lean function, and that the machine answers so: written by a program of this session out of the translation. -/
import Derived.Test.YtdahcapolipnbaaQFnExactDecodeClassx0
namespace Go.Proofs.Ytdahcapolipnbaa.QFnExactDecodeClass
open Go.RowKit Go.Proofs.YtdahcapolipnbaaW.PrintWords Go.Proofs.YtdahcapolipnbaaW.PrintLast Go.Proofs.YtdahcapolipnbaaW.PrintMore Go.Proofs.Ytdahcapolipnbaa.Rp
attribute [local go_sem] max2_int min2_int max_two min_two max_three min_three max_four min_four   -- for this text's walks alone
set_option linter.unusedVariables false
set_option linter.unusedSimpArgs false

/-! ### impl_rangesOf: function 120 -/
def impl_rangesOf.l0 : Nat → List (S92) → List Int → Int → Int → Option ((List (S92)))
 | 0, _, _, _, _ => none
 | k + 1, x3, x7, x8, x9 => if x9 < x8 then (if 0 ≤ x9 then (if x9 < (x7.length : Int) then (if (x3.length : Int) > 0 then (if 0 ≤ (wrap64 ((x3.length : Int) - 1)) then (if (wrap64 ((x3.length : Int) - 1)) < (x3.length : Int) then (if ((rd_T92 x3 (wrap64 ((x3.length : Int) - 1))).f1) = (wrap64 ((rd x7 x9) - 1)) then (impl_rangesOf.l0 k (x3.set ((wrap64 ((x3.length : Int) - 1)) : Int).toNat (⟨(rd_T92 x3 (wrap64 ((x3.length : Int) - 1))).f0, rd x7 x9⟩ : S92)) x7 x8 (wrap64 (x9 + 1))) else (if x3.length < 8796093022208 then (impl_rangesOf.l0 k (x3 ++ [(⟨rd x7 x9, rd x7 x9⟩ : S92)]) x7 x8 (wrap64 (x9 + 1))) else (none))) else (none)) else (none)) else (if x3.length < 8796093022208 then (impl_rangesOf.l0 k (x3 ++ [(⟨rd x7 x9, rd x7 x9⟩ : S92)]) x7 x8 (wrap64 (x9 + 1))) else (none))) else (none)) else (none)) else (some x3)
def impl_rangesOf.f (k : Nat) (l0 : List Int) : Option ((List (S92))) := impl_rangesOf.l0 k ([] : List (S92)) l0 (l0.length : Int) 0
theorem impl_rangesOf.mono_l : ∀ k, (∀ y0 y1 y2 y3, LeO (impl_rangesOf.l0 k y0 y1 y2 y3) (impl_rangesOf.l0 (k + 1) y0 y1 y2 y3))
 | 0 => fun _ _ _ _ r h => by simp [impl_rangesOf.l0] at h
 | k + 1 => by
  have ih0 := impl_rangesOf.mono_l k
  ·intro y0 y1 y2 y3
   unfold impl_rangesOf.l0
   repeat' first
   | (with_reducible exact ih0 _ _ _ _)
   | (with_reducible exact LeO.refl _)
   | (with_reducible exact LeO.none _)
   | (with_reducible refine LeO.ite ?_ ?_)
   | (with_reducible refine LeO.bind ?_ (fun _ => ?_))
   | exact ih0 _ _ _ _
   | exact LeO.none _
   | refine LeO.ite ?_ ?_
   | refine LeO.bind ?_ (fun _ => ?_)
theorem impl_rangesOf.mono : ∀ a0 k, LeO (impl_rangesOf.f k a0) (impl_rangesOf.f (k + 1) a0) := by
 intro a0 k
 have ih0 := impl_rangesOf.mono_l k
 unfold impl_rangesOf.f
 repeat' first
   | (with_reducible exact ih0 _ _ _ _)
   | (with_reducible exact LeO.refl _)
   | (with_reducible exact LeO.none _)
   | (with_reducible refine LeO.ite ?_ ?_)
   | (with_reducible refine LeO.bind ?_ (fun _ => ?_))
   | exact ih0 _ _ _ _
   | exact LeO.none _
   | refine LeO.ite ?_ ?_
   | refine LeO.bind ?_ (fun _ => ?_)
set_option maxHeartbeats 8000000 in
set_option maxRecDepth 100000 in
theorem impl_rangesOf.calls (k : Nat) (A0 : Option Addr) (c0 : Nat) (l0 : List Int) (r : List (S92)) (w : World) (hr0 : Kd.C (Kd.int .i64) w A0 l0.length l0) (hc0 : l0.length ≤ c0) (h : impl_rangesOf.f k l0 = some r) :
  Calls Try.prog 120 #[.slice A0 l0.length c0] w fun e w' => ∃ v0_ : Value, e = .returned (v0_) ∧ Kd.R k92 92 w' w.heap.size (fun _ => True) v0_ r ∧ Below w.heap.size w w' := by
 have hu92 := Try.underlying92
 have HR0 := aM hr0
 have HC0 := aM hc0
 clear hr0 hc0
 have HB := aM (Below.refl w.heap.size w)
 have H : (impl_rangesOf.l0 k ([] : List (S92)) l0 (l0.length : Int) 0) = some r := h
 clear h
 have H' := aM H
 clear H
 go_enter Try.func120, Try.ntmps120
 go_wp2
 go_loopg [3, 9] k (fun kq v3 v9 w' => ∃ (x3_1 : List (S92)) (x9_1 : Int), v9 = .int .i64 x9_1 ∧ Aside0 (impl_rangesOf.l0 kq x3_1 l0 (l0.length : Int) x9_1 = some r) ∧ Aside0 (kq ≤ k) ∧ Aside0 (Kd.R k92 92 w' w.heap.size (fun _ => True) v3 x3_1) ∧ Aside0 (Below w.heap.size w w'))
 case atStart => exact ⟨(([] : List (S92))), (0), rQ, H', ⟨Nat.le_refl _⟩, ⟨by first | exact Kd.R_nil _ _ _ _ _ | exact Kd.N_nil _ _ _ _ _ | exact Kd.V_nil _ _ _ _ _ | exact Kd.Q_nil _ _ _ _ _ | exact Kd.S_nil _ _ _ _ _⟩, ⟨bQ⟩⟩
 case round =>
  clear H'
  try clear c1
  obtain ⟨x3_1, x9_1, rfl, HA, HK1, HO_3, HB⟩ := hrel
  cases gk with
  | zero => exact absurd HA.out (by simp [impl_rangesOf.l0])
  | succ k1 =>
   have H := HA.out
   clear HA
   simp only [impl_rangesOf.l0] at H
   by_cases c2 : x9_1 < (l0.length : Int)
   ·rw [if_pos c2] at H
    have c2b0 : decide (x9_1 < (l0.length : Int)) = true := decide_eq_true c2
    clear c2
    by_cases c3 : 0 ≤ x9_1
    ·rw [if_pos c3] at H
     have c3b0 : decide (0 ≤ x9_1) = true := decide_eq_true c3
     clear c3
     by_cases c4 : x9_1 < (l0.length : Int)
     ·rw [if_pos c4] at H
      have c4b0 : decide (x9_1 < (l0.length : Int)) = true := decide_eq_true c4
      clear c4
      by_cases c5 : (x3_1.length : Int) > 0
      ·rw [if_pos c5] at H
       have c5b0 : decide (0 < (x3_1.length : Int)) = true := decide_eq_true c5
       have c5b1 : decide (0 < x3_1.length) = true := decide_eq_true (by omega)
       clear c5
       obtain ⟨ji6, hji6⟩ : ∃ j_ : Int, (wrap64 ((x3_1.length : Int) - 1)) = j_ := ⟨_, rfl⟩
       replace H : (if 0 ≤ (ji6) then (if (ji6) < (x3_1.length : Int) then (if ((rd_T92 x3_1 (ji6)).f1) = (wrap64 ((rd l0 x9_1) - 1)) then (impl_rangesOf.l0 k1 (x3_1.set ((ji6) : Int).toNat (⟨(rd_T92 x3_1 (ji6)).f0, rd l0 x9_1⟩ : S92)) l0 (l0.length : Int) (wrap64 (x9_1 + 1))) else (if x3_1.length < 8796093022208 then (impl_rangesOf.l0 k1 (x3_1 ++ [(⟨rd l0 x9_1, rd l0 x9_1⟩ : S92)]) l0 (l0.length : Int) (wrap64 (x9_1 + 1))) else (none))) else (none)) else (none)) = some r := by first | (rw [hji6] at H; exact H) | (simp only [hji6] at H ⊢; exact H)
       have hji6w : (IntKind.i64.wrap ((x3_1.length : Int) - 1)) = ji6 := (i64_w _).trans hji6
       by_cases c7 : 0 ≤ (ji6)
       ·rw [if_pos c7] at H
        have c7b0 : decide (0 ≤ (ji6)) = true := decide_eq_true c7
        clear c7
        by_cases c8 : (ji6) < (x3_1.length : Int)
        ·rw [if_pos c8] at H
         have c8b0 : decide ((ji6) < (x3_1.length : Int)) = true := decide_eq_true c8
         clear c8
         by_cases c9 : ((rd_T92 x3_1 (ji6)).f1) = (wrap64 ((rd l0 x9_1) - 1))
         ·rw [if_pos c9] at H
          have c9b0 : (((rd_T92 x3_1 (ji6)).f1) == (wrap64 ((rd l0 x9_1) - 1))) = true := beq_iff_eq.mpr c9
          have c9b1 : (((rd_T92 x3_1 (ji6)).f1) != (wrap64 ((rd l0 x9_1) - 1))) = false := bne_eq_false_iff_eq.mpr c9
          clear c9
          obtain ⟨y203, hy203⟩ : ∃ y_ : List (S92), y_ = (x3_1.set ((ji6) : Int).toNat (⟨(rd_T92 x3_1 (ji6)).f0, rd l0 x9_1⟩ : S92)) := ⟨_, rfl⟩
          replace H : (impl_rangesOf.l0 k1 y203 l0 (l0.length : Int) (wrap64 (x9_1 + 1))) = some r := by first | (rw [hy203]; with_reducible exact H) | (have H2_ := bS H; rw [hy203]; with_reducible exact H2_) | (have H2_ := bS H; with_reducible exact H2_) | with_reducible exact H | (rw [hy203]; exact H) | exact H
          have Ny203 := aM hy203
          clear hy203
          have H' := aM H
          clear H
          have p201 : 0 ≤ (x9_1 : Int) := dA
          have q201 : x9_1 < (l0.length : Int) := dA
          obtain ⟨ad201, e201, hx201_0⟩ := Kd.at_int HR0.out x9_1 p201 q201
          cases e201
          replace hx201_0 := cB HB.out hx201_0
          replace p201 := eq_true p201
          replace q201 := eq_true q201
          obtain ⟨Ao11, co11, eo11⟩ := Kd.R_slice HO_3.out
          subst eo11
          have p202 : 0 ≤ ((ji6) : Int) := dA
          have q202 : (ji6) < (x3_1.length : Int) := dA
          obtain ⟨ad202, e202, hx202_0, hx202_1⟩ := at_T92 (Kd.R_reads' HO_3.out).2.2 (ji6) p202 q202
          cases e202
          replace p202 := eq_true p202
          replace q202 := eq_true q202
          have p10 : 0 ≤ ((ji6) : Int) := dA
          have q10 : ((ji6) : Int) < ((x3_1.length : Int) : Int) := dA
          obtain ⟨go10, co10, eo10, gb10, gl10, cl10, HG10⟩ := Kd.R_form HO_3.out (by omega)
          (first | cases eo10 | (injection eo10 with ea_ en_ ec_; (first | subst ea_ | (injection ea_ with ea_; subst ea_)); subst ec_; clear en_))
          have GB10 := aM gb10
          have GG10 := aM HG10
          clear gb10 gl10 HG10
          (first | simp only [add_plain] at hx202_0 | skip)
          (first | simp only [add_plain] at hx202_1 | skip)
          obtain ⟨ce10, hcl10, hM10, hcc10, hfr10⟩ := Kd.R_elem HO_3.out z92 ((ji6) : Int) p10 q10
          obtain rfl := k92_openM hM10
          have hx10_0 : wr.cell? ⟨go10, ((ji6) : Int).toNat * 2, none⟩ = some (.int .i64 ((rd_T92 x3_1 (ji6)).f0)) := hcc10 0 _ rfl
          have hx10_1 : wr.cell? ⟨go10, ((ji6) : Int).toNat * 2 + 1, none⟩ = some (.int .i64 ((rd_T92 x3_1 (ji6)).f1)) := hcc10 1 _ rfl
          have hf10_0 : wr.frozen? ⟨go10, ((ji6) : Int).toNat * 2, none⟩ = false := hfr10 0
          have hf10_1 : wr.frozen? ⟨go10, ((ji6) : Int).toNat * 2 + 1, none⟩ = false := hfr10 1
          clear hcl10 hcc10 hfr10; (try clear hM10)
          replace p10 := eq_true p10
          replace q10 := eq_true q10
          have HX12 := aM (show Kd.R k92 92 wr w.heap.size (fun _ => True) (.slice (some ⟨go10, 0, none⟩) x3_1.length co11) x3_1 from (by (with_reducible repeat (first | apply rA | apply rN | apply rD)); exact HO_3.out))
          obtain ⟨ce12, hcl12, hM12, hcc12, hfr12⟩ := Kd.R_elem HX12.out z92 ((ji6) : Int) (dA) (by have h_ : ((ji6) : Int) < ((x3_1.length : Int) : Int) := dA; first | exact h_ | (have e_ := (Kd.R_reads' HO_3.out).1; omega) | simpa using h_)
          obtain rfl := k92_openM hM12
          have HP12 := Kd.R_seg HX12.out ((ji6) : Int) (dA) (by have h_ : ((ji6) : Int) < ((x3_1.length : Int) : Int) := dA; first | exact h_ | (have e_ := (Kd.R_reads' HO_3.out).1; omega) | simpa using h_) (seg := [.int .i64 (rd l0 x9_1)]) (j := 1) hcl12 hcc12 (show 2 ≤ 2 from by decide) (x' := (⟨(rd_T92 x3_1 (ji6)).f0, rd l0 x9_1⟩ : S92)) (k92_mkM _ _ _ (⟨(rd_T92 x3_1 (ji6)).f0, rd l0 x9_1⟩ : S92) ) (fun _ hk => hk)
          have hx12_1 := hcc12 1 _ rfl
          (try simp only [show (k92).sz = 2 from rfl, Nat.mul_one, Nat.add_zero] at hx12_1)
          have hf12_1 := hfr12 1
          (try simp only [show (k92).sz = 2 from rfl, Nat.mul_one, Nat.add_zero] at hf12_1)
          clear hcl12 hcc12 hfr12; (try clear hM12)
          go_wp2_with (first | ((with_reducible refine gate_store (t := 2) (p := 33) rfl ?_); refine store_event (t := 2) (p := 33) (v := ?vo_w13) (w1 := (wr.setCell ⟨go10, ((ji6) : Int).toNat * 2 + 1, none⟩ (.int .i64 (rd l0 x9_1)))) ?hg ?ho ?hn ?hr ?_; (case ho => rfl); (case hg => rfl); (case hn => rfl); (case hr => first | (go_simp; done) | (go_simp; rfl)); intro w13 hw; have hg : wr.grownBy w13 (some go10) := (by rw [hw]; exact HP12.2); have hp_ : Kd.R k92 92 w13 w.heap.size (fun _ => True) (.slice (some ⟨go10, 0, none⟩) x3_1.length co11) y203 := (by rw [hw, Ny203.out]; exact HP12.1); clear HP12; have n0_ := aM (hp_); have n1_ := aM ((by rw [hw]; exact below_set (HB.out) GB10.out : Below w.heap.size w w13)); clear HO_3; clear HB; have HO_3 := n0_; have HB := n1_; clear n0_ n1_; clear hg hw hp_))
          go_roundg k1
          case measure => have := HK1.out; omega
          case rel => exact ⟨(y203), (wrap64 (x9_1 + 1)), rQ, H', ⟨by have := HK1.out; omega⟩, ⟨by (with_reducible repeat (first | apply rA | apply rN | apply rD)); exact HO_3.out⟩, ⟨bQ⟩⟩
         ·rw [if_neg c9] at H
          have c9b0 : (((rd_T92 x3_1 (ji6)).f1) == (wrap64 ((rd l0 x9_1) - 1))) = false := beq_eq_false_iff_ne.mpr c9
          have c9b1 : (((rd_T92 x3_1 (ji6)).f1) != (wrap64 ((rd l0 x9_1) - 1))) = true := bne_iff_ne.mpr c9
          by_cases c14 : x3_1.length < 8796093022208
          ·rw [if_pos c14] at H
           have LMc14 := aM c14
           clear c14
           obtain ⟨y204, hy204⟩ : ∃ y_ : List (S92), y_ = (x3_1 ++ [(⟨rd l0 x9_1, rd l0 x9_1⟩ : S92)]) := ⟨_, rfl⟩
           replace H : (impl_rangesOf.l0 k1 y204 l0 (l0.length : Int) (wrap64 (x9_1 + 1))) = some r := by first | (rw [hy204]; with_reducible exact H) | (have H2_ := bS H; rw [hy204]; with_reducible exact H2_) | (have H2_ := bS H; with_reducible exact H2_) | with_reducible exact H | (rw [hy204]; exact H) | exact H
           have Ny204 := aM hy204
           clear hy204
           have H' := aM H
           clear H
           have p201 : 0 ≤ (x9_1 : Int) := dA
           have q201 : x9_1 < (l0.length : Int) := dA
           obtain ⟨ad201, e201, hx201_0⟩ := Kd.at_int HR0.out x9_1 p201 q201
           cases e201
           replace hx201_0 := cB HB.out hx201_0
           replace p201 := eq_true p201
           replace q201 := eq_true q201
           obtain ⟨Ao15, co15, eo15⟩ := Kd.R_slice HO_3.out
           subst eo15
           have p202 : 0 ≤ ((ji6) : Int) := dA
           have q202 : (ji6) < (x3_1.length : Int) := dA
           obtain ⟨ad202, e202, hx202_0, hx202_1⟩ := at_T92 (Kd.R_reads' HO_3.out).2.2 (ji6) p202 q202
           cases e202
           replace p202 := eq_true p202
           replace q202 := eq_true q202
           go_wp2_with (first | ((with_reducible refine gate_builtin (b := .append) (xs := #[.tmp 34, .tmp 38]) rfl ?_); at_builtin; refine Kd.R_append k92 (w0 := w) w.heap.size rfl (.tmp 34) (.tmp 38) 90 92 (.agg #[(.int .i64 0), (.int .i64 0)]) 16 rfl Try.underlying90 info92 rfl (by decide) (by omega) (.slice (some ad202) x3_1.length co15) x3_1 (⟨rd l0 x9_1, rd l0 x9_1⟩ : S92) [.int .i64 (rd l0 x9_1), .int .i64 (rd l0 x9_1)] (fun _ => True) (fun _ => False) rfl rfl ?aP (fun _ hk => hk.elim) ?aF ?aO ?aB ?aS ?aL ?_; (case aP => exact k92_mkM _ _ _ (⟨rd l0 x9_1, rd l0 x9_1⟩ : S92)); (case aB => exact bQ); (case aF => exact (fun _ _ => trivial)); (case aO => exact (by (with_reducible repeat (first | apply rA | apply rN | apply rD)); exact HO_3.out)); (case aS => exact (below_size bQ)); (case aL => have := LMc14.out; omega); intro v205 w16 ho hb hg hat; rw [← Ny204.out] at ho; have n0_ := aM (hb); have n1_ := aM (ho); clear HB; clear HO_3; have HB := n0_; have HO206 := n1_; clear n0_ n1_; clear ho hb hg hat))
           go_roundg k1
           case measure => have := HK1.out; omega
           case rel => exact ⟨(y204), (wrap64 (x9_1 + 1)), rQ, H', ⟨by have := HK1.out; omega⟩, ⟨by (with_reducible repeat (first | apply rA | apply rN | apply rD)); exact HO206.out⟩, ⟨bQ⟩⟩
          ·rw [if_neg c14] at H
           exact absurd H (by simp)
        ·rw [if_neg c8] at H
         exact absurd H (by simp)
       ·rw [if_neg c7] at H
        exact absurd H (by simp)
      ·rw [if_neg c5] at H
       have c5b0 : decide (0 < (x3_1.length : Int)) = false := decide_eq_false c5
       have c5b1 : decide (0 < x3_1.length) = false := decide_eq_false (by omega)
       clear c5
       by_cases c17 : x3_1.length < 8796093022208
       ·rw [if_pos c17] at H
        have LMc17 := aM c17
        clear c17
        obtain ⟨y207, hy207⟩ : ∃ y_ : List (S92), y_ = (x3_1 ++ [(⟨rd l0 x9_1, rd l0 x9_1⟩ : S92)]) := ⟨_, rfl⟩
        replace H : (impl_rangesOf.l0 k1 y207 l0 (l0.length : Int) (wrap64 (x9_1 + 1))) = some r := by first | (rw [hy207]; with_reducible exact H) | (have H2_ := bS H; rw [hy207]; with_reducible exact H2_) | (have H2_ := bS H; with_reducible exact H2_) | with_reducible exact H | (rw [hy207]; exact H) | exact H
        have Ny207 := aM hy207
        clear hy207
        have H' := aM H
        clear H
        have p201 : 0 ≤ (x9_1 : Int) := dA
        have q201 : x9_1 < (l0.length : Int) := dA
        obtain ⟨ad201, e201, hx201_0⟩ := Kd.at_int HR0.out x9_1 p201 q201
        cases e201
        replace hx201_0 := cB HB.out hx201_0
        replace p201 := eq_true p201
        replace q201 := eq_true q201
        obtain ⟨Ao18, co18, eo18⟩ := Kd.R_slice HO_3.out
        subst eo18
        go_wp2_with (first | ((with_reducible refine gate_builtin (b := .append) (xs := #[.tmp 34, .tmp 38]) rfl ?_); at_builtin; refine Kd.R_append k92 (w0 := w) w.heap.size rfl (.tmp 34) (.tmp 38) 90 92 (.agg #[(.int .i64 0), (.int .i64 0)]) 16 rfl Try.underlying90 info92 rfl (by decide) (by omega) (.slice Ao18 x3_1.length co18) x3_1 (⟨rd l0 x9_1, rd l0 x9_1⟩ : S92) [.int .i64 (rd l0 x9_1), .int .i64 (rd l0 x9_1)] (fun _ => True) (fun _ => False) rfl rfl ?aP (fun _ hk => hk.elim) ?aF ?aO ?aB ?aS ?aL ?_; (case aP => exact k92_mkM _ _ _ (⟨rd l0 x9_1, rd l0 x9_1⟩ : S92)); (case aB => exact bQ); (case aF => exact (fun _ _ => trivial)); (case aO => exact (by (with_reducible repeat (first | apply rA | apply rN | apply rD)); exact HO_3.out)); (case aS => exact (below_size bQ)); (case aL => have := LMc17.out; omega); intro v208 w19 ho hb hg hat; rw [← Ny207.out] at ho; have n0_ := aM (hb); have n1_ := aM (ho); clear HB; clear HO_3; have HB := n0_; have HO209 := n1_; clear n0_ n1_; clear ho hb hg hat))
        go_roundg k1
        case measure => have := HK1.out; omega
        case rel => exact ⟨(y207), (wrap64 (x9_1 + 1)), rQ, H', ⟨by have := HK1.out; omega⟩, ⟨by (with_reducible repeat (first | apply rA | apply rN | apply rD)); exact HO209.out⟩, ⟨bQ⟩⟩
       ·rw [if_neg c17] at H
        exact absurd H (by simp)
     ·rw [if_neg c4] at H
      exact absurd H (by simp)
    ·rw [if_neg c3] at H
     exact absurd H (by simp)
   ·rw [if_neg c2] at H
    have c2b0 : decide (x9_1 < (l0.length : Int)) = false := decide_eq_false c2
    clear c2
    obtain rfl := Option.some.inj H
    go_wp2
    go_ret
    exact ⟨_, eQ, by (with_reducible repeat (first | apply rA | apply rN | apply rD)); exact HO_3.out, bQ⟩

/-! ### impl_PutWord: function 162 -/
mutual
def impl_PutWord.j0 : Nat → Int → Int → Bool → Option (ByteArray)
 | 0, _, _, _ => none
 | k + 1, x0, x1, x14 => if x14 = true then (some (⟨#[]⟩ : ByteArray)) else (if 0 ≤ (wrap64 (8 * x1)) then (if x0 < (wrap64 (Int.tdiv (wrap64 (-(shl .i64 1 (wrap64 (8 * x1))))) 2)) then (impl_PutWord.j1 k x0 x1 true) else (impl_PutWord.j1 k x0 x1 (decide (x0 ≥ (shl .i64 1 (wrap64 (8 * x1))))))) else (none))
def impl_PutWord.j1 : Nat → Int → Int → Bool → Option (ByteArray)
 | 0, _, _, _ => none
 | k + 1, x0, x1, x27 => if x27 = true then (some (⟨#[]⟩ : ByteArray)) else (if 0 ≤ x1 then (if (x1 : Int).toNat ≤ 281474976710656 then (impl_PutWord.l0 k (List.replicate (x1 : Int).toNat 0) (IntKind.u64.wrap (x0)) (wrap64 (x1 - 1))) else (none)) else (none))
def impl_PutWord.l0 : Nat → List Int → Int → Int → Option (ByteArray)
 | 0, _, _, _ => none
 | k + 1, x6, x7, x8 => if x8 ≥ 0 then (if 0 ≤ x8 then (if x8 < (x6.length : Int) then (impl_PutWord.l0 k (x6.set (x8 : Int).toNat ((x7) % 256)) (x7 / 256) (wrap64 (x8 - 1))) else (none)) else (none)) else (some (strOfNums x6))
end
def impl_PutWord.f (k : Nat) (a0 : Int) (a1 : Int) : Option (ByteArray) := if a1 < 1 then (impl_PutWord.j0 k a0 a1 true) else (impl_PutWord.j0 k a0 a1 (decide (a1 > 4)))
theorem impl_PutWord.mono_l : ∀ k, (∀ y0 y1 y2, LeO (impl_PutWord.j0 k y0 y1 y2) (impl_PutWord.j0 (k + 1) y0 y1 y2)) ∧ (∀ y0 y1 y2, LeO (impl_PutWord.j1 k y0 y1 y2) (impl_PutWord.j1 (k + 1) y0 y1 y2)) ∧ (∀ y0 y1 y2, LeO (impl_PutWord.l0 k y0 y1 y2) (impl_PutWord.l0 (k + 1) y0 y1 y2))
 | 0 => ⟨fun _ _ _ r h => by simp [impl_PutWord.j0] at h, fun _ _ _ r h => by simp [impl_PutWord.j1] at h, fun _ _ _ r h => by simp [impl_PutWord.l0] at h⟩
 | k + 1 => by
  obtain ⟨ih0, ih1, ih2⟩ := impl_PutWord.mono_l k
  refine ⟨?_, ?_, ?_⟩
  ·intro y0 y1 y2
   unfold impl_PutWord.j0
   repeat' first
   | (with_reducible exact ih0 _ _ _)
   | (with_reducible exact ih1 _ _ _)
   | (with_reducible exact ih2 _ _ _)
   | (with_reducible exact LeO.refl _)
   | (with_reducible exact LeO.none _)
   | (with_reducible refine LeO.ite ?_ ?_)
   | (with_reducible refine LeO.bind ?_ (fun _ => ?_))
   | exact ih0 _ _ _
   | exact ih1 _ _ _
   | exact ih2 _ _ _
   | exact LeO.none _
   | refine LeO.ite ?_ ?_
   | refine LeO.bind ?_ (fun _ => ?_)
  ·intro y0 y1 y2
   unfold impl_PutWord.j1
   repeat' first
   | (with_reducible exact ih0 _ _ _)
   | (with_reducible exact ih1 _ _ _)
   | (with_reducible exact ih2 _ _ _)
   | (with_reducible exact LeO.refl _)
   | (with_reducible exact LeO.none _)
   | (with_reducible refine LeO.ite ?_ ?_)
   | (with_reducible refine LeO.bind ?_ (fun _ => ?_))
   | exact ih0 _ _ _
   | exact ih1 _ _ _
   | exact ih2 _ _ _
   | exact LeO.none _
   | refine LeO.ite ?_ ?_
   | refine LeO.bind ?_ (fun _ => ?_)
  ·intro y0 y1 y2
   unfold impl_PutWord.l0
   repeat' first
   | (with_reducible exact ih0 _ _ _)
   | (with_reducible exact ih1 _ _ _)
   | (with_reducible exact ih2 _ _ _)
   | (with_reducible exact LeO.refl _)
   | (with_reducible exact LeO.none _)
   | (with_reducible refine LeO.ite ?_ ?_)
   | (with_reducible refine LeO.bind ?_ (fun _ => ?_))
   | exact ih0 _ _ _
   | exact ih1 _ _ _
   | exact ih2 _ _ _
   | exact LeO.none _
   | refine LeO.ite ?_ ?_
   | refine LeO.bind ?_ (fun _ => ?_)
theorem impl_PutWord.mono : ∀ a0 a1 k, LeO (impl_PutWord.f k a0 a1) (impl_PutWord.f (k + 1) a0 a1) := by
 intro a0 a1 k
 obtain ⟨ih0, ih1, ih2⟩ := impl_PutWord.mono_l k
 unfold impl_PutWord.f
 repeat' first
   | (with_reducible exact ih0 _ _ _)
   | (with_reducible exact ih1 _ _ _)
   | (with_reducible exact ih2 _ _ _)
   | (with_reducible exact LeO.refl _)
   | (with_reducible exact LeO.none _)
   | (with_reducible refine LeO.ite ?_ ?_)
   | (with_reducible refine LeO.bind ?_ (fun _ => ?_))
   | exact ih0 _ _ _
   | exact ih1 _ _ _
   | exact ih2 _ _ _
   | exact LeO.none _
   | refine LeO.ite ?_ ?_
   | refine LeO.bind ?_ (fun _ => ?_)
set_option maxHeartbeats 8000000 in
set_option maxRecDepth 100000 in
theorem impl_PutWord.calls (k : Nat) (a0 : Int) (a1 : Int) (r : ByteArray) (w : World) (h : impl_PutWord.f k a0 a1 = some r) :
  Calls Try.prog 162 #[.int .i64 a0, .int .i64 a1] w fun e w' => e = .returned (.string r) ∧ Below w.heap.size w w' := by
 have HB := aM (Below.refl w.heap.size w)
 have H : (if a1 < 1 then (impl_PutWord.j0 k a0 a1 true) else (impl_PutWord.j0 k a0 a1 (decide (a1 > 4)))) = some r := h
 clear h
 have HC3 := aM H
 clear H
 go_enter Try.func162, Try.ntmps162
 go_upto_region 1 with (fail)
 go_cut [14] (fun v14 wc => ∃ (kq : Nat) (x14_2 : Bool), v14 = .bool x14_2 ∧ Aside0 (impl_PutWord.j0 kq a0 a1 x14_2 = some r) ∧ Aside0 (kq ≤ k) ∧ Aside0 (Below w.heap.size w wc))
 case first =>
  have H := HC3.out
  clear HC3
  by_cases c4 : a1 < 1
  ·rw [if_pos c4] at H
   have c4b0 : decide (a1 < 1) = true := decide_eq_true c4
   clear c4
   (first | rw [c4b0] | (simp only [i64_w, i32_w]; rw [c4b0]) | rw [c4b1] | rw [c4b2] | rw [c4b3] | rw [c4b4] | skip)
   have H' := aM H
   clear H
   go_wp2
   go_meet
   case rel => exact ⟨_, (true), rQ, H', ⟨by first | omega | exact Nat.le_refl _⟩, ⟨bQ⟩⟩
  ·rw [if_neg c4] at H
   have c4b0 : decide (a1 < 1) = false := decide_eq_false c4
   clear c4
   (first | rw [c4b0] | (simp only [i64_w, i32_w]; rw [c4b0]) | rw [c4b1] | rw [c4b2] | rw [c4b3] | rw [c4b4] | skip)
   have H' := aM H
   clear H
   go_wp2
   go_meet
   case rel => exact ⟨_, (decide (a1 > 4)), rQ, H', ⟨by first | omega | exact Nat.le_refl _⟩, ⟨bQ⟩⟩
 case rest =>
  clear HC3
  try clear c1
  try clear p2
  try clear c4
  try clear c4b0
  try clear c4b1
  try clear c4b2
  obtain ⟨kq, x14_2, rfl, HA, HJ2, HB⟩ := hcut
  cases kq with
  | zero => exact absurd HA.out (by simp [impl_PutWord.j0])
  | succ kj2 =>
   have H := HA.out
   clear HA
   simp only [impl_PutWord.j0] at H
   by_cases c5 : x14_2 = true
   ·subst c5
    have H1 : (some (⟨#[]⟩ : ByteArray)) = some r := by rw [if_pos rfl] at H; exact H
    clear H
    have H := H1
    clear H1
    obtain rfl := Option.some.inj H
    go_wp2
    go_ret
    exact ⟨eQ, bQ⟩
   ·replace c5 := Bool.eq_false_iff.mpr c5
    subst c5
    have H1 : (if 0 ≤ (wrap64 (8 * a1)) then (if a0 < (wrap64 (Int.tdiv (wrap64 (-(shl .i64 1 (wrap64 (8 * a1))))) 2)) then (impl_PutWord.j1 kj2 a0 a1 true) else (impl_PutWord.j1 kj2 a0 a1 (decide (a0 ≥ (shl .i64 1 (wrap64 (8 * a1))))))) else (none)) = some r := by rw [if_neg (show ¬ (false = true) by decide)] at H; exact H
    clear H
    have H := H1
    clear H1
    obtain ⟨ji6, hji6⟩ : ∃ j_ : Int, (wrap64 (8 * a1)) = j_ := ⟨_, rfl⟩
    replace H : (if 0 ≤ (ji6) then (if a0 < (wrap64 (Int.tdiv (wrap64 (-(shl .i64 1 (ji6)))) 2)) then (impl_PutWord.j1 kj2 a0 a1 true) else (impl_PutWord.j1 kj2 a0 a1 (decide (a0 ≥ (shl .i64 1 (ji6)))))) else (none)) = some r := by first | (rw [hji6] at H; exact H) | (simp only [hji6] at H ⊢; exact H)
    have hji6w : (IntKind.i64.wrap (8 * a1)) = ji6 := (i64_w _).trans hji6
    by_cases c7 : 0 ≤ (ji6)
    ·rw [if_pos c7] at H
     have c7b0 := eq_true c7
     have c7b1 : decide (0 ≤ (ji6)) = true := decide_eq_true c7
     clear c7
     obtain ⟨ji8, hji8⟩ : ∃ j_ : Int, (shl .i64 1 (ji6)) = j_ := ⟨_, rfl⟩
     replace H : (if a0 < (wrap64 (Int.tdiv (wrap64 (-(ji8))) 2)) then (impl_PutWord.j1 kj2 a0 a1 true) else (impl_PutWord.j1 kj2 a0 a1 (decide (a0 ≥ (ji8))))) = some r := by first | (rw [hji8] at H; exact H) | (simp only [hji8] at H ⊢; exact H)
     have hji8_ : (IntKind.i64.wrap (1 * 2 ^ min (ji6).toNat 64)) = ji8 := hji8
     have hji8z : (ji6) ≤ 64 → (IntKind.i64.wrap (1 * 2 ^ (ji6).toNat)) = ji8 := shl_small hji8
     have hji8u : (IntKind.i64.wrap (2 ^ min (ji6).toNat 64)) = ji8 := by have h_ := hji8_; rw [Int.one_mul] at h_; exact h_
     have hji8v : (ji6) ≤ 64 → (IntKind.i64.wrap (2 ^ (ji6).toNat)) = ji8 := fun hle_ => by have h_ := hji8z hle_; rw [Int.one_mul] at h_; exact h_
     have hji8y : (wrap64 (1 * 2 ^ min (ji6).toNat 64)) = ji8 := (i64_w _).symm.trans hji8_
     have hji8x : (ji6) ≤ 64 → (wrap64 (1 * 2 ^ (ji6).toNat)) = ji8 := fun h_ => (i64_w _).symm.trans (hji8z h_)
     have HC9 := aM H
     clear H
     go_upto_region 4 with (fail)
     go_cut [27] (fun v27 wc => ∃ (kq : Nat) (x27_8 : Bool), v27 = .bool x27_8 ∧ Aside0 (impl_PutWord.j1 kq a0 a1 x27_8 = some r) ∧ Aside0 (kq ≤ kj2) ∧ Aside0 (Below w.heap.size w wc))
     case first =>
      have H := HC9.out
      clear HC9
      by_cases c10 : a0 < (wrap64 (Int.tdiv (wrap64 (-(ji8))) 2))
      ·rw [if_pos c10] at H
       have c10b0 : decide (a0 < (wrap64 (Int.tdiv (wrap64 (-(ji8))) 2))) = true := decide_eq_true c10
       clear c10
       (first | rw [c10b0] | (simp only [i64_w, i32_w]; rw [c10b0]) | rw [c10b1] | rw [c10b2] | rw [c10b3] | rw [c10b4] | skip)
       have H' := aM H
       clear H
       go_wp2
       go_meet
       case rel => exact ⟨_, (true), rQ, H', ⟨by have := HJ2.out; first | omega | exact Nat.le_refl _⟩, ⟨bQ⟩⟩
      ·rw [if_neg c10] at H
       have c10b0 : decide (a0 < (wrap64 (Int.tdiv (wrap64 (-(ji8))) 2))) = false := decide_eq_false c10
       clear c10
       (first | rw [c10b0] | (simp only [i64_w, i32_w]; rw [c10b0]) | rw [c10b1] | rw [c10b2] | rw [c10b3] | rw [c10b4] | skip)
       have H' := aM H
       clear H
       go_wp2
       go_meet
       case rel => exact ⟨_, (decide (a0 ≥ (ji8))), (by first | rfl | (simp; done) | (simp only [← hji8] <;> (first | rfl | simp)) | (simp [*]; done)), H', ⟨by have := HJ2.out; first | omega | exact Nat.le_refl _⟩, ⟨bQ⟩⟩
     case rest =>
      clear HC9
      try clear c1
      try clear p2
      try clear c4
      try clear c4b0
      try clear c4b1
      try clear c4b2
      try clear c5
      try clear p6
      try clear c7
      try clear c7b0
      try clear c7b1
      try clear c10
      try clear c10b0
      try clear c10b1
      try clear c10b2
      try clear p2
      obtain ⟨kq, x27_8, rfl, HA, HJ8, HB⟩ := hcut
      cases kq with
      | zero => exact absurd HA.out (by simp [impl_PutWord.j1])
      | succ kj8 =>
       have H := HA.out
       clear HA
       simp only [impl_PutWord.j1] at H
       by_cases c11 : x27_8 = true
       ·subst c11
        have H1 : (some (⟨#[]⟩ : ByteArray)) = some r := by rw [if_pos rfl] at H; exact H
        clear H
        have H := H1
        clear H1
        obtain rfl := Option.some.inj H
        go_wp2
        go_ret
        exact ⟨by first | rfl | (simp [errW_none, errW_some] <;> rfl) | (simp only [← hji6, ← hji8]; first | rfl | (simp [errW_none, errW_some] <;> rfl)) | (simp [*, errW_none, errW_some] <;> rfl), bQ⟩
       ·replace c11 := Bool.eq_false_iff.mpr c11
        subst c11
        have H1 : (if 0 ≤ a1 then (if (a1 : Int).toNat ≤ 281474976710656 then (impl_PutWord.l0 kj8 (List.replicate (a1 : Int).toNat 0) (IntKind.u64.wrap (a0)) (wrap64 (a1 - 1))) else (none)) else (none)) = some r := by rw [if_neg (show ¬ (false = true) by decide)] at H; exact H
        clear H
        have H := H1
        clear H1
        by_cases c12 : 0 ≤ a1
        ·rw [if_pos c12] at H
         have c12b0 := eq_true c12
         have c12b1 : decide (0 ≤ a1) = true := decide_eq_true c12
         clear c12
         by_cases c13 : (a1 : Int).toNat ≤ 281474976710656
         ·rw [if_pos c13] at H
          have c13b0 := eq_true c13
          have c13b1 : decide ((a1 : Int).toNat ≤ 281474976710656) = true := decide_eq_true c13
          clear c13
          obtain ⟨y210, hy210⟩ : ∃ y_ : List Int, y_ = (List.replicate (a1 : Int).toNat 0) := ⟨_, rfl⟩
          replace H : (impl_PutWord.l0 kj8 y210 (IntKind.u64.wrap (a0)) (wrap64 (a1 - 1))) = some r := by first | (rw [hy210]; with_reducible exact H) | (have H2_ := bS H; rw [hy210]; with_reducible exact H2_) | (have H2_ := bS H; with_reducible exact H2_) | with_reducible exact H | (rw [hy210]; exact H) | exact H
          have Ny210 := aM hy210
          clear hy210
          have H' := aM H
          clear H
          go_wp2_with (first | ((with_reducible refine gate_dst (N := 29) rfl ?_); refine Kd.R_make (Kd.int .u8) _ 5 rfl (N := 29) rfl 184 _ _ rfl a1 rfl rfl Try.underlying184 (.int .u8 0) 1 info5 rfl (by decide) (by omega) 0 (ok := fun _ => True) (okp := fun _ => True) rfl (fun _ hk => hk) trivial (dA) (Nat.le_trans (Nat.mul_le_mul_right _ (dA : a1.toNat ≤ 281474976710656)) (by omega)) (Below.refl _ _) (Nat.le_refl _) ?_; intro v211 w14 ho15 hb hg_ hnew_; clear hg_ hnew_; (first | rw [← Ny210.out] at ho15 | (simp only [Int.reduceToNat] at ho15; rw [← Ny210.out] at ho15)); have n0_ := aM (Kd.R_lower ho15 (below_size bQ)); have n1_ := aM (below_step bQ hb); clear HB; have HO212 := n0_; have HB := n1_; clear n0_ n1_; clear hb ho15))
          go_loopg [7, 8] kj8 (fun kq v7 v8 w' => ∃ (x6_3 : List Int) (x7_3 : Int) (x8_3 : Int), v7 = .int .u64 x7_3 ∧ v8 = .int .i64 x8_3 ∧ Aside0 (impl_PutWord.l0 kq x6_3 x7_3 x8_3 = some r) ∧ Aside0 (kq ≤ kj8) ∧ Aside0 (Kd.R (Kd.int .u8) 5 w' w.heap.size (fun _ => True) v211 x6_3) ∧ Aside0 (Below w.heap.size w w'))
          case atStart => exact ⟨(y210), (IntKind.u64.wrap (a0)), (wrap64 (a1 - 1)), rQ, rQ, H', ⟨Nat.le_refl _⟩, ⟨by (with_reducible repeat (first | apply rA | apply rN | apply rD)); exact HO212.out⟩, ⟨bQ⟩⟩
          case round =>
           clear H'
           try clear c1
           try clear p2
           try clear c4
           try clear c4b0
           try clear c4b1
           try clear c4b2
           try clear c5
           try clear p6
           try clear c7
           try clear c7b0
           try clear c7b1
           try clear c10
           try clear c10b0
           try clear c10b1
           try clear c10b2
           try clear c11
           try clear c12
           try clear c12b0
           try clear c12b1
           try clear c13
           try clear c13b0
           try clear c13b1
           try clear p2
           try clear p6
           obtain ⟨x6_3, x7_3, x8_3, rfl, rfl, HA, HK3, HO_6, HB⟩ := hrel
           cases gk with
           | zero => exact absurd HA.out (by simp [impl_PutWord.l0])
           | succ k3 =>
            have H := HA.out
            clear HA
            simp only [impl_PutWord.l0] at H
            by_cases c16 : x8_3 ≥ 0
            ·rw [if_pos c16] at H
             have c16b0 : decide (0 ≤ x8_3) = true := decide_eq_true c16
             clear c16
             by_cases c17 : 0 ≤ x8_3
             ·rw [if_pos c17] at H
              have c17b0 : decide (0 ≤ x8_3) = true := decide_eq_true c17
              clear c17
              by_cases c18 : x8_3 < (x6_3.length : Int)
              ·rw [if_pos c18] at H
               have c18b0 : decide (x8_3 < (x6_3.length : Int)) = true := decide_eq_true c18
               clear c18
               obtain ⟨y213, hy213⟩ : ∃ y_ : List Int, y_ = (x6_3.set (x8_3 : Int).toNat ((x7_3) % 256)) := ⟨_, rfl⟩
               replace H : (impl_PutWord.l0 k3 y213 (x7_3 / 256) (wrap64 (x8_3 - 1))) = some r := by first | (rw [hy213]; with_reducible exact H) | (have H2_ := bS H; rw [hy213]; with_reducible exact H2_) | (have H2_ := bS H; with_reducible exact H2_) | with_reducible exact H | (rw [hy213]; exact H) | exact H
               have Ny213 := aM hy213
               clear hy213
               have H' := aM H
               clear H
               have p19 : 0 ≤ (x8_3 : Int) := dA
               have q19 : (x8_3 : Int) < ((x6_3.length : Int) : Int) := dA
               obtain ⟨go19, co19, eo19, gb19, gl19, cl19, HG19⟩ := Kd.R_form HO_6.out (by omega)
               (first | cases eo19 | (injection eo19 with ea_ en_ ec_; (first | subst ea_ | (injection ea_ with ea_; subst ea_)); subst ec_; clear en_))
               have GB19 := aM gb19
               have GG19 := aM HG19
               clear gb19 gl19 HG19
               obtain ⟨hx19_0, hf19_0⟩ := Kd.R_celln 0 HO_6.out (x8_3 : Int) p19 q19
               replace p19 := eq_true p19
               replace q19 := eq_true q19
               have HP20 := Kd.R_putg HO_6.out (x8_3 : Int) ((x7_3) % 256)
               go_wp2_with (first | ((with_reducible refine gate_store (t := 5) (p := 42) rfl ?_); refine store_event (t := 5) (p := 42) (v := ?vo_w21) (w1 := (wr.setCell ⟨go19, (x8_3 : Int).toNat, none⟩ (.int .u8 ((x7_3) % 256)))) ?hg ?ho ?hn ?hr ?_; (case ho => rfl); (case hg => rfl); (case hn => rfl); (case hr => first | (go_simp; done) | (go_simp; rfl)); intro w21 hw; have hg : wr.grownBy w21 (some go19) := (by rw [hw]; exact HP20.2); have hp_ : Kd.R (Kd.int .u8) 5 w21 w.heap.size (fun _ => True) (.slice (some ⟨go19, 0, none⟩) x6_3.length co19) y213 := (by rw [hw, Ny213.out]; exact HP20.1); clear HP20; have n0_ := aM (hp_); have n1_ := aM ((by rw [hw]; exact below_set (HB.out) GB19.out : Below w.heap.size w w21)); clear HO_6; clear HB; have HO_6 := n0_; have HB := n1_; clear n0_ n1_; clear hg hw hp_))
               go_roundg k3
               case measure => have := HJ2.out; have := HJ8.out; have := HK3.out; omega
               case rel => exact ⟨(y213), (x7_3 / 256), (wrap64 (x8_3 - 1)), rQ, rQ, H', ⟨by have := HJ2.out; have := HJ8.out; have := HK3.out; omega⟩, ⟨by (with_reducible repeat (first | apply rA | apply rN | apply rD)); exact HO_6.out⟩, ⟨bQ⟩⟩
              ·rw [if_neg c18] at H
               exact absurd H (by simp)
             ·rw [if_neg c17] at H
              exact absurd H (by simp)
            ·rw [if_neg c16] at H
             have c16b0 : decide (0 ≤ x8_3) = false := decide_eq_false c16
             clear c16
             obtain rfl := Option.some.inj H
             have hcv22 := own_string (P := Try.prog) Try.underlying184 Try.underlying5 Try.underlying9 (Kd.own_of_R HO_6.out)
             go_wp2
             go_ret
             exact ⟨by first | rfl | (simp [errW_none, errW_some] <;> rfl) | (simp only [← hji6, ← hji8]; first | rfl | (simp [errW_none, errW_some] <;> rfl)) | (simp [*, errW_none, errW_some] <;> rfl), bQ⟩
         ·rw [if_neg c13] at H
          exact absurd H (by simp)
        ·rw [if_neg c12] at H
         exact absurd H (by simp)
    ·rw [if_neg c7] at H
     exact absurd H (by simp)

/-! ### impl_putWords: function 125, given -/
def impl_putWords.l0 : Nat → List Int → ByteArray → Int → Option (ByteArray)
 | 0, _, _, _ => none
 | k + 1, x0, x3, x8 => if x8 < (x0.length : Int) then (if 0 ≤ x8 then ((impl_PutWord.f k (rd x0 x8) 2).bind fun t => (if x3.size + t.size ≤ 140737488355328 then (impl_putWords.l0 k x0 (x3 ++ t) (wrap64 (x8 + 1))) else (none))) else (none)) else (some x3)
def impl_putWords.f (k : Nat) (l0 : List Int) : Option (ByteArray) := impl_putWords.l0 k l0 (⟨#[]⟩ : ByteArray) 0
theorem impl_putWords.mono_l : ∀ k, (∀ y0 y1 y2, LeO (impl_putWords.l0 k y0 y1 y2) (impl_putWords.l0 (k + 1) y0 y1 y2))
 | 0 => fun _ _ _ r h => by simp [impl_putWords.l0] at h
 | k + 1 => by
  have ih0 := impl_putWords.mono_l k
  intro y0 y1 y2
  unfold impl_putWords.l0
  repeat' first
   | (with_reducible exact ih0 _ _ _)
   | (with_reducible exact impl_PutWord.mono _ _ _)
   | (with_reducible exact LeO.refl _)
   | (with_reducible exact LeO.none _)
   | (with_reducible refine LeO.ite ?_ ?_)
   | (with_reducible refine LeO.bind ?_ (fun _ => ?_))
   | exact ih0 _ _ _
   | exact impl_PutWord.mono _ _ _
   | exact LeO.none _
   | refine LeO.ite ?_ ?_
   | refine LeO.bind ?_ (fun _ => ?_)
theorem impl_putWords.mono : ∀ a0 k, LeO (impl_putWords.f k a0) (impl_putWords.f (k + 1) a0) := fun a0 k => impl_putWords.mono_l k a0 _ _
set_option maxHeartbeats 8000000 in
set_option maxRecDepth 100000 in
theorem impl_putWords.calls (k : Nat) (A0 : Option Addr) (c0 : Nat) (l0 : List Int) (r : ByteArray) (w : World) (hr0 : Kd.C (Kd.int .i64) w A0 l0.length l0) (hc0 : l0.length ≤ c0) (h : impl_putWords.f k l0 = some r) :
  Calls Try.prog 125 #[.slice A0 l0.length c0] w fun e w' => e = .returned (.string r) ∧ Below w.heap.size w w' := by
 have HR0 := aM hr0
 have HC0 := aM hc0
 clear hr0 hc0
 have H : (impl_putWords.l0 k l0 (⟨#[]⟩ : ByteArray) 0) = some r := h
 clear h
 have H' := aM H
 clear H
 go_enter Try.func125, Try.ntmps125
 go_wp2
 have HB0 := aM (Go.Proofs.Ytdahcapolipnbaa.Gv.Bld.new0 w)
 have HD0 := aM (Go.Proofs.Ytdahcapolipnbaa.Gv.Bld.new w)
 go_loopg [8] k (fun kq v8 w' => ∃ (x3_1 : ByteArray) (x8_1 : Int), v8 = .int .i64 x8_1 ∧ Aside0 (impl_putWords.l0 kq l0 x3_1 x8_1 = some r) ∧ Aside0 (kq ≤ k) ∧ Aside0 (Go.Proofs.Ytdahcapolipnbaa.Gv.Bld w.heap.size w.heap.size x3_1 w') ∧ Aside0 (Below w.heap.size w w'))
 case atStart => exact ⟨((⟨#[]⟩ : ByteArray)), (0), rQ, H', ⟨Nat.le_refl _⟩, HD0, HB0⟩
 case round =>
  clear H' HB0 HD0
  obtain ⟨x3_1, x8_1, rfl, HA, HK1, HD, HB⟩ := hrel
  cases gk with
  | zero => exact absurd HA.out (by simp [impl_putWords.l0])
  | succ k1 =>
   have H := HA.out
   clear HA
   simp only [impl_putWords.l0] at H
   by_cases c2 : x8_1 < (l0.length : Int)
   ·rw [if_pos c2] at H
    have c2b0 : decide (x8_1 < (l0.length : Int)) = true := decide_eq_true c2
    clear c2
    by_cases c3 : 0 ≤ x8_1
    ·rw [if_pos c3] at H
     have c3b0 : decide (0 ≤ x8_1) = true := decide_eq_true c3
     clear c3
     replace H := Option.bind_eq_some_iff.mp H
     obtain ⟨t155, A40, H⟩ := H
     have A4 := aM A40
     clear A40
     by_cases c5 : x3_1.size + t155.size ≤ 140737488355328
     ·replace H := (if_pos c5).symm.trans H
      have C5 := aM c5
      clear c5
      have H' := aM H
      clear H
      have p154 : 0 ≤ (x8_1 : Int) := dA
      have q154 : x8_1 < (l0.length : Int) := dA
      obtain ⟨ad154, e154, hx154_0⟩ := Kd.at_int HR0.out x8_1 p154 q154
      cases e154
      replace hx154_0 := cB HB.out hx154_0
      replace p154 := eq_true p154
      replace q154 := eq_true q154
      go_wp2_with (first
       | ((with_reducible refine gate_callee (f := 162) rfl ?_); refine goesL_ (some 13) rfl rfl Try.func162 (by kernel_rfl) rfl #[.int .i64 (rd l0 x8_1), .int .i64 2] rfl gQ ?_; (with_reducible refine (impl_PutWord.calls k1 (rd l0 x8_1) 2 t155 _ A4.out).mono ?_); rintro e w6 ⟨rfl, hb⟩; refine ⟨_, rfl, ?_⟩; have n0_ := aM (below_step HB.out hb); have n1_ := aM (HD.out.below hb); clear HB HD hx154_0; have HB := n0_; have HD := n1_; clear n0_ n1_ hb)
       | ((with_reducible refine gate_callee (f := 159) rfl ?_); refine goesL_ (some 14) rfl rfl Try.func159 (by kernel_rfl) rfl #[.pointer (some ⟨w.heap.size, 0, none⟩), .string t155] rfl gQ ?_; refine (HD.out.write C5.out HB.out.size).mono ?_; rintro e w7 ⟨rfl, hd, hb⟩; refine ⟨_, rfl, ?_⟩; have n0_ := aM (HB.out.trans hb); have n1_ := aM hd; clear HB HD; have HB := n0_; have HD := n1_; clear n0_ n1_ hb hd))
      go_roundg k1
      case measure => have := HK1.out; omega
      case rel => exact ⟨(x3_1 ++ t155), (wrap64 (x8_1 + 1)), rQ, H', ⟨by have := HK1.out; omega⟩, HD, HB⟩
     ·exact absurd ((if_neg c5).symm.trans H) (by simp)
    ·rw [if_neg c3] at H
     exact absurd H (by simp)
   ·rw [if_neg c2] at H
    have c2b0 : decide (x8_1 < (l0.length : Int)) = false := decide_eq_false c2
    clear c2
    obtain rfl := Option.some.inj H
    go_wp2_with ((with_reducible refine gate_callee (f := 160) rfl ?_); refine goesL_ (some 16) rfl rfl Try.func160 (by kernel_rfl) rfl #[.pointer (some ⟨w.heap.size, 0, none⟩)] rfl gQ ?_; refine (HD.out.string HB.out.size).mono ?_; rintro e w7 ⟨rfl, hb⟩; refine ⟨_, rfl, ?_⟩; have n0_ := aM (HB.out.trans hb); clear HB HD; have HB := n0_; clear n0_ hb)
    go_ret
    exact ⟨eQ, HB.out⟩

/-! ### impl_encodeClass: function 60 -/
def impl_encodeClass.l0 : Nat → ByteArray → ByteArray → Int → List (S92) → Int → Int → Option (ByteArray)
 | 0, _, _, _, _, _, _ => none
 | k + 1, x3, x5, x6, x22, x23, x24 => if x24 < x23 then (if 0 ≤ x24 then (if x24 < (x22.length : Int) then ((impl_putWords.f k (([(rd_T92 x22 x24).f0, (rd_T92 x22 x24).f1, x6] : List Int))).bind fun t231 => (if x5.size + t231.size ≤ 9223372036854775807 then (impl_encodeClass.l0 k x3 (x5 ++ t231) (wrap64 (x6 + (wrap64 ((wrap64 (((rd_T92 x22 x24).f1) - ((rd_T92 x22 x24).f0))) + 1)))) x22 x23 (wrap64 (x24 + 1))) else (none))) else (none)) else (none)) else (if (x5.size : Int) < (x3.size : Int) then (some x5) else (some x3))
def impl_encodeClass.f (k : Nat) (l0 : List Int) : Option (ByteArray) := (impl_putWords.f k (([1, (l0.length : Int)] : List Int))).bind fun t217 => ((impl_putWords.f k l0).bind fun t218 => (if t217.size + t218.size ≤ 9223372036854775807 then ((impl_rangesOf.f k l0).bind fun t219 => ((impl_putWords.f k (([2, (t219.length : Int)] : List Int))).bind fun t225 => (impl_encodeClass.l0 k (t217 ++ t218) t225 0 t219 (t219.length : Int) 0))) else (none)))
theorem impl_encodeClass.mono_l : ∀ k, (∀ y0 y1 y2 y3 y4 y5, LeO (impl_encodeClass.l0 k y0 y1 y2 y3 y4 y5) (impl_encodeClass.l0 (k + 1) y0 y1 y2 y3 y4 y5))
 | 0 => fun _ _ _ _ _ _ r h => by simp [impl_encodeClass.l0] at h
 | k + 1 => by
  have ih0 := impl_encodeClass.mono_l k
  ·intro y0 y1 y2 y3 y4 y5
   unfold impl_encodeClass.l0
   repeat' first
   | (with_reducible exact ih0 _ _ _ _ _ _)
   | (with_reducible exact impl_putWords.mono _ _)
   | (with_reducible exact impl_rangesOf.mono _ _)
   | (with_reducible exact LeO.refl _)
   | (with_reducible exact LeO.none _)
   | (with_reducible refine LeO.ite ?_ ?_)
   | (with_reducible refine LeO.bind ?_ (fun _ => ?_))
   | exact ih0 _ _ _ _ _ _
   | exact impl_putWords.mono _ _
   | exact impl_rangesOf.mono _ _
   | exact LeO.none _
   | refine LeO.ite ?_ ?_
   | refine LeO.bind ?_ (fun _ => ?_)
theorem impl_encodeClass.mono : ∀ a0 k, LeO (impl_encodeClass.f k a0) (impl_encodeClass.f (k + 1) a0) := by
 intro a0 k
 have ih0 := impl_encodeClass.mono_l k
 unfold impl_encodeClass.f
 repeat' first
   | (with_reducible exact ih0 _ _ _ _ _ _)
   | (with_reducible exact impl_putWords.mono _ _)
   | (with_reducible exact impl_rangesOf.mono _ _)
   | (with_reducible exact LeO.refl _)
   | (with_reducible exact LeO.none _)
   | (with_reducible refine LeO.ite ?_ ?_)
   | (with_reducible refine LeO.bind ?_ (fun _ => ?_))
   | exact ih0 _ _ _ _ _ _
   | exact impl_putWords.mono _ _
   | exact impl_rangesOf.mono _ _
   | exact LeO.none _
   | refine LeO.ite ?_ ?_
   | refine LeO.bind ?_ (fun _ => ?_)
set_option maxHeartbeats 8000000 in
set_option maxRecDepth 100000 in
theorem impl_encodeClass.calls (k : Nat) (A0 : Option Addr) (c0 : Nat) (l0 : List Int) (r : ByteArray) (w : World) (hr0 : Kd.C (Kd.int .i64) w A0 l0.length l0) (hc0 : l0.length ≤ c0) (h : impl_encodeClass.f k l0 = some r) :
  Calls Try.prog 60 #[.slice A0 l0.length c0] w fun e w' => e = .returned (.string r) ∧ Below w.heap.size w w' := by
 have hu92 := Try.underlying92
 have HR0 := aM hr0
 have HC0 := aM hc0
 clear hr0 hc0
 have HB := aM (Below.refl w.heap.size w)
 have H : ((impl_putWords.f k (([1, (l0.length : Int)] : List Int))).bind fun t217 => ((impl_putWords.f k l0).bind fun t218 => (if t217.size + t218.size ≤ 9223372036854775807 then ((impl_rangesOf.f k l0).bind fun t219 => ((impl_putWords.f k (([2, (t219.length : Int)] : List Int))).bind fun t225 => (impl_encodeClass.l0 k (t217 ++ t218) t225 0 t219 (t219.length : Int) 0))) else (none)))) = some r := h
 clear h
 obtain ⟨y214, hy214⟩ : ∃ y_ : List Int, y_ = (([1, (l0.length : Int)] : List Int)) := ⟨_, rfl⟩
 replace H : ((impl_putWords.f k y214).bind fun t217 => ((impl_putWords.f k l0).bind fun t218 => (if t217.size + t218.size ≤ 9223372036854775807 then ((impl_rangesOf.f k l0).bind fun t219 => ((impl_putWords.f k (([2, (t219.length : Int)] : List Int))).bind fun t225 => (impl_encodeClass.l0 k (t217 ++ t218) t225 0 t219 (t219.length : Int) 0))) else (none)))) = some r := by first | (rw [hy214]; with_reducible exact H) | (have H2_ := bS H; rw [hy214]; with_reducible exact H2_) | (have H2_ := bS H; with_reducible exact H2_) | with_reducible exact H | (rw [hy214]; exact H) | exact H
 have Ny214 := aM hy214
 clear hy214
 replace H := Option.bind_eq_some_iff.mp H
 obtain ⟨t217, A20, H⟩ := H
 replace H : ((impl_putWords.f k l0).bind fun t218 => (if t217.size + t218.size ≤ 9223372036854775807 then ((impl_rangesOf.f k l0).bind fun t219 => ((impl_putWords.f k (([2, (t219.length : Int)] : List Int))).bind fun t225 => (impl_encodeClass.l0 k (t217 ++ t218) t225 0 t219 (t219.length : Int) 0))) else (none))) = some r := H
 have A2 := aM A20
 clear A20
 replace H := Option.bind_eq_some_iff.mp H
 obtain ⟨t218, A30, H⟩ := H
 replace H : (if t217.size + t218.size ≤ 9223372036854775807 then ((impl_rangesOf.f k l0).bind fun t219 => ((impl_putWords.f k (([2, (t219.length : Int)] : List Int))).bind fun t225 => (impl_encodeClass.l0 k (t217 ++ t218) t225 0 t219 (t219.length : Int) 0))) else (none)) = some r := H
 have A3 := aM A30
 clear A30
 by_cases c4 : t217.size + t218.size ≤ 9223372036854775807
 ·rw [if_pos c4] at H
  have c4b0 := eq_true c4
  have c4b1 : decide (t217.size + t218.size ≤ 9223372036854775807) = true := decide_eq_true c4
  try have c4b2 : (9223372036854775807 < t217.size + t218.size) = False := eq_false (Nat.not_lt.2 c4)
  replace H := Option.bind_eq_some_iff.mp H
  obtain ⟨t219, A50, H⟩ := H
  replace H : ((impl_putWords.f k (([2, (t219.length : Int)] : List Int))).bind fun t225 => (impl_encodeClass.l0 k (t217 ++ t218) t225 0 t219 (t219.length : Int) 0)) = some r := H
  have A5 := aM A50
  clear A50
  obtain ⟨y222, hy222⟩ : ∃ y_ : List Int, y_ = (([2, (t219.length : Int)] : List Int)) := ⟨_, rfl⟩
  replace H : ((impl_putWords.f k y222).bind fun t225 => (impl_encodeClass.l0 k (t217 ++ t218) t225 0 t219 (t219.length : Int) 0)) = some r := by first | (rw [hy222]; with_reducible exact H) | (have H2_ := bS H; rw [hy222]; with_reducible exact H2_) | (have H2_ := bS H; with_reducible exact H2_) | with_reducible exact H | (rw [hy222]; exact H) | exact H
  have Ny222 := aM hy222
  clear hy222
  replace H := Option.bind_eq_some_iff.mp H
  obtain ⟨t225, A60, H⟩ := H
  replace H : (impl_encodeClass.l0 k (t217 ++ t218) t225 0 t219 (t219.length : Int) 0) = some r := H
  have A6 := aM A60
  clear A60
  have H' := aM H
  clear H
  go_enter Try.func60, Try.ntmps60
  go_wp2_with (first | ((with_reducible refine gate_dst (N := 11) rfl ?_); refine Kd.R_lit (Kd.int .i64) _ 2 ?hg (N := 11) ?hd (xs := ([1, (l0.length : Int)] : List Int)) (inner := [.int .i64 1, .int .i64 (l0.length : Int)]) (ok := fun _ => True) (okp := fun _ => True) ?hr ?hp (fun _ hk => hk) trivial (Below.refl _ _) (Nat.le_refl _) (by simp) ?_; (case hd => rfl); (case hg => rfl); (case hr => first | (go_simp; done) | (go_simp; rfl)); (case hp => exact (Reps.one (show Kd.M (Kd.int .i64) _ _ _ 1 [.int .i64 1] from rfl) (Reps.one (show Kd.M (Kd.int .i64) _ _ _ (l0.length : Int) [.int .i64 (l0.length : Int)] from rfl) (Reps.none _ _)))); intro v215 w7 ho8 hb hg_ hnew_; clear hg_ hnew_; (first | rw [← Ny214.out] at ho8 | (simp only [Int.reduceToNat] at ho8; rw [← Ny214.out] at ho8)); have n0_ := aM (Kd.R_lower ho8 (below_size bQ)); have n1_ := aM (below_step bQ hb); clear HB; have HO216 := n0_; have HB := n1_; clear n0_ n1_; clear hb ho8; obtain ⟨Ao9, co9, eo9⟩ := Kd.R_slice HO216.out; subst eo9) | ((with_reducible refine gate_callee (f := 125) rfl ?_); refine goesL_ (some 12) rfl rfl Try.func125 (by kernel_rfl) rfl #[.slice Ao9 y214.length co9] rfl gQ ?_; (with_reducible refine (impl_putWords.calls k _ _ y214 t217 _ ?side1 ?side2 A2.out).mono ?_); (case side1 => repeat (first | exact (Kd.R_reads' HO216.out).2.2 | (with_reducible first | refine cA ?_ _ | refine cN ?_ _ | refine cD ?_))); (case side2 => exact (Kd.R_reads' HO216.out).2.1); rintro e w10 ⟨rfl, hb⟩; refine ⟨_, rfl, ?_⟩; have n0_ := aM (Kd.R_below (by (with_reducible repeat (first | apply rA | apply rN | apply rD)); exact HO216.out) hb); have n1_ := aM (below_step bQ hb); clear HO216; clear HB; have HO216 := n0_; have HB := n1_; clear n0_ n1_; (try clear hb); (try clear hb2); (try clear hk); (try clear hi)) | ((with_reducible refine gate_callee (f := 125) rfl ?_); refine goesL_ (some 14) rfl rfl Try.func125 (by kernel_rfl) rfl #[.slice A0 l0.length c0] rfl gQ ?_; (with_reducible refine (impl_putWords.calls k _ _ l0 t218 _ ?side1 ?side2 A3.out).mono ?_); (case side1 => exact cQ HR0.out); (case side2 => exact HC0.out); rintro e w11 ⟨rfl, hb⟩; refine ⟨_, rfl, ?_⟩; have n0_ := aM (Kd.R_below (by (with_reducible repeat (first | apply rA | apply rN | apply rD)); exact HO216.out) hb); have n1_ := aM (below_step bQ hb); clear HO216; clear HB; have HO216 := n0_; have HB := n1_; clear n0_ n1_; (try clear hb); (try clear hb2); (try clear hk); (try clear hi)) | ((with_reducible refine gate_callee (f := 120) rfl ?_); refine goesL_ (some 17) rfl rfl Try.func120 (by kernel_rfl) rfl #[.slice A0 l0.length c0] rfl gQ ?_; (with_reducible refine (impl_rangesOf.calls k _ _ l0 t219 _ ?side1 ?side2 A5.out).mono ?_); (case side1 => exact cQ HR0.out); (case side2 => exact HC0.out); rintro e w12 ⟨v220, rfl, ho0, hb⟩; refine ⟨_, rfl, ?_⟩; have n0_ := aM (Kd.R_below (by (with_reducible repeat (first | apply rA | apply rN | apply rD)); exact HO216.out) hb); have n1_ := aM (Kd.R_lower ho0 (below_size bQ)); have n2_ := aM (below_step bQ hb); clear HO216; clear HB; have HO216 := n0_; have HO221 := n1_; have HB := n2_; clear n0_ n1_ n2_; (try clear hb); (try clear hb2); (try clear hk); (try clear hi); (try clear ho0); obtain ⟨Ao13, co13, eo13⟩ := Kd.R_slice HO221.out; subst eo13) | ((with_reducible refine gate_dst (N := 20) rfl ?_); refine Kd.R_lit (Kd.int .i64) _ 2 ?hg (N := 20) ?hd (xs := ([2, (t219.length : Int)] : List Int)) (inner := [.int .i64 2, .int .i64 (t219.length : Int)]) (ok := fun _ => True) (okp := fun _ => True) ?hr ?hp (fun _ hk => hk) trivial (Below.refl _ _) (Nat.le_refl _) (by simp) ?_; (case hd => rfl); (case hg => rfl); (case hr => first | (go_simp; done) | (go_simp; rfl)); (case hp => exact (Reps.one (show Kd.M (Kd.int .i64) _ _ _ 2 [.int .i64 2] from rfl) (Reps.one (show Kd.M (Kd.int .i64) _ _ _ (t219.length : Int) [.int .i64 (t219.length : Int)] from rfl) (Reps.none _ _)))); intro v223 w14 ho15 hb hg_ hnew_; clear hg_ hnew_; (first | rw [← Ny222.out] at ho15 | (simp only [Int.reduceToNat] at ho15; rw [← Ny222.out] at ho15)); have n0_ := aM (Kd.R_elder' (by (with_reducible repeat (first | apply rA | apply rN | apply rD)); exact HO216.out) (Kd.R_base ho15) hb); have n1_ := aM (Kd.R_below (by (with_reducible repeat (first | apply rA | apply rN | apply rD)); exact HO221.out) hb); have n2_ := aM (Kd.R_lower (Kd.R_new' ho15 (Kd.R_lt (by (with_reducible repeat (first | apply rA | apply rN | apply rD)); exact HO216.out))) (below_size bQ)); have n3_ := aM (below_step bQ hb); clear HO216; clear HO221; clear HB; have HO216 := n0_; have HO221 := n1_; have HO224 := n2_; have HB := n3_; clear n0_ n1_ n2_ n3_; clear hb ho15; obtain ⟨Ao16, co16, eo16⟩ := Kd.R_slice HO224.out; subst eo16) | ((with_reducible refine gate_callee (f := 125) rfl ?_); refine goesL_ (some 21) rfl rfl Try.func125 (by kernel_rfl) rfl #[.slice Ao16 y222.length co16] rfl gQ ?_; (with_reducible refine (impl_putWords.calls k _ _ y222 t225 _ ?side1 ?side2 A6.out).mono ?_); (case side1 => repeat (first | exact (Kd.R_reads' HO224.out).2.2 | (with_reducible first | refine cA ?_ _ | refine cN ?_ _ | refine cD ?_))); (case side2 => exact (Kd.R_reads' HO224.out).2.1); rintro e w17 ⟨rfl, hb⟩; refine ⟨_, rfl, ?_⟩; have n0_ := aM (Kd.R_below (by (with_reducible repeat (first | apply rA | apply rN | apply rD)); exact HO216.out) hb); have n1_ := aM (Kd.R_below (by (with_reducible repeat (first | apply rA | apply rN | apply rD)); exact HO221.out) hb); have n2_ := aM (Kd.R_below (by (with_reducible repeat (first | apply rA | apply rN | apply rD)); exact HO224.out) hb); have n3_ := aM (below_step bQ hb); clear HO216; clear HO221; clear HO224; clear HB; have HO216 := n0_; have HO221 := n1_; have HO224 := n2_; have HB := n3_; clear n0_ n1_ n2_ n3_; (try clear hb); (try clear hb2); (try clear hk); (try clear hi)))
  go_loopg [5, 6, 24] k (fun kq v5 v6 v24 w' => ∃ (x5_1 : ByteArray) (x6_1 : Int) (x24_1 : Int), v5 = .string x5_1 ∧ v6 = .int .i64 x6_1 ∧ v24 = .int .i64 x24_1 ∧ Aside0 (impl_encodeClass.l0 kq (t217 ++ t218) x5_1 x6_1 t219 (t219.length : Int) x24_1 = some r) ∧ Aside0 (kq ≤ k) ∧ Aside0 (Kd.R k92 92 w' w.heap.size (fun _ => True) (.slice Ao13 t219.length co13) t219) ∧ Aside0 (Below w.heap.size w w'))
  case atStart => exact ⟨(t225), (0), (0), rQ, rQ, rQ, H', ⟨Nat.le_refl _⟩, ⟨by (with_reducible repeat (first | apply rA | apply rN | apply rD)); exact HO221.out⟩, ⟨bQ⟩⟩
  case round =>
   clear H'
   try clear c1
   try clear p2
   try clear c4
   try clear c4b0
   try clear c4b1
   try clear c4b2
   try clear c6
   try clear c12
   obtain ⟨x5_1, x6_1, x24_1, rfl, rfl, rfl, HA, HK1, HO_22, HB⟩ := hrel
   cases gk with
   | zero => exact absurd HA.out (by simp [impl_encodeClass.l0])
   | succ k1 =>
    have H := HA.out
    clear HA
    simp only [impl_encodeClass.l0] at H
    by_cases c18 : x24_1 < (t219.length : Int)
    ·rw [if_pos c18] at H
     have c18b0 : decide (x24_1 < (t219.length : Int)) = true := decide_eq_true c18
     clear c18
     by_cases c19 : 0 ≤ x24_1
     ·rw [if_pos c19] at H
      have c19b0 : decide (0 ≤ x24_1) = true := decide_eq_true c19
      clear c19
      by_cases c20 : x24_1 < (t219.length : Int)
      ·rw [if_pos c20] at H
       have c20b0 : decide (x24_1 < (t219.length : Int)) = true := decide_eq_true c20
       clear c20
       obtain ⟨y228, hy228⟩ : ∃ y_ : List Int, y_ = (([(rd_T92 t219 x24_1).f0, (rd_T92 t219 x24_1).f1, x6_1] : List Int)) := ⟨_, rfl⟩
       replace H : ((impl_putWords.f k1 y228).bind fun t231 => (if x5_1.size + t231.size ≤ 9223372036854775807 then (impl_encodeClass.l0 k1 (t217 ++ t218) (x5_1 ++ t231) (wrap64 (x6_1 + (wrap64 ((wrap64 (((rd_T92 t219 x24_1).f1) - ((rd_T92 t219 x24_1).f0))) + 1)))) t219 (t219.length : Int) (wrap64 (x24_1 + 1))) else (none))) = some r := by first | (rw [hy228]; with_reducible exact H) | (have H2_ := bS H; rw [hy228]; with_reducible exact H2_) | (have H2_ := bS H; with_reducible exact H2_) | with_reducible exact H | (rw [hy228]; exact H) | exact H
       have Ny228 := aM hy228
       clear hy228
       replace H := Option.bind_eq_some_iff.mp H
       obtain ⟨t231, A210, H⟩ := H
       replace H : (if x5_1.size + t231.size ≤ 9223372036854775807 then (impl_encodeClass.l0 k1 (t217 ++ t218) (x5_1 ++ t231) (wrap64 (x6_1 + (wrap64 ((wrap64 (((rd_T92 t219 x24_1).f1) - ((rd_T92 t219 x24_1).f0))) + 1)))) t219 (t219.length : Int) (wrap64 (x24_1 + 1))) else (none)) = some r := H
       have A21 := aM A210
       clear A210
       by_cases c22 : x5_1.size + t231.size ≤ 9223372036854775807
       ·rw [if_pos c22] at H
        have c22b0 := eq_true c22
        have c22b1 : decide (x5_1.size + t231.size ≤ 9223372036854775807) = true := decide_eq_true c22
        try have c22b2 : (9223372036854775807 < x5_1.size + t231.size) = False := eq_false (Nat.not_lt.2 c22)
        have H' := aM H
        clear H
        have p226 : 0 ≤ (x24_1 : Int) := dA
        have q226 : x24_1 < (t219.length : Int) := dA
        obtain ⟨ad226, e226, hx226_0, hx226_1⟩ := at_T92 (Kd.R_reads' HO_22.out).2.2 x24_1 p226 q226
        cases e226
        replace p226 := eq_true p226
        replace q226 := eq_true q226
        go_wp2_with (first | ((with_reducible refine gate_dst (N := 8) rfl ?_); refine box_event ?hg (N := 8) ?hd (cs := #[.int .i64 0, .int .i64 0]) (t := 92) ?hr ?_; (case hd => rfl); (case hg => rfl); (case hr => first | (go_simp; done) | (go_simp; rfl)); intro gb227 hg w23 hbox hb; have n0_ := aM (Kd.R_below (Kd.R_elderB (by (with_reducible repeat (first | apply rA | apply rN | apply rD)); exact HO_22.out) gb227 (Nat.le_of_eq hg.symm)) hb); have n1_ := aM (below_step bQ hb); have n2_ := aM (hbox); have n3_ := aM ((by rw [hg]; exact (below_size bQ) : w.heap.size ≤ gb227)); have n4_ := aM ((by rw [hg]; exact (below_size bQ) : w.heap.size ≤ gb227)); clear HO_22; clear HB; have HO_22 := n0_; have HB := n1_; have BK227 := n2_; have GW227 := n3_; have GE227 := n4_; clear n0_ n1_ n2_ n3_ n4_; clear hb hbox hg; have hcz24_0 : w23.cell? ⟨gb227, 0, none⟩ = some (.int .i64 0) := (blk_cell BK227.out 0).trans rfl; have hcz24_1 : w23.cell? ⟨gb227, 1, none⟩ = some (.int .i64 0) := (blk_cell BK227.out 1).trans rfl; have hfz24_0 := blk_frozen BK227.out 0; have hfz24_1 := blk_frozen BK227.out 1) | ((with_reducible refine gate_dst (N := 34) rfl ?_); refine Kd.R_lit (Kd.int .i64) _ 2 ?hg (N := 34) ?hd (xs := ([(rd_T92 t219 x24_1).f0, (rd_T92 t219 x24_1).f1, x6_1] : List Int)) (inner := [.int .i64 ((rd_T92 t219 x24_1).f0), .int .i64 ((rd_T92 t219 x24_1).f1), .int .i64 x6_1]) (ok := fun _ => True) (okp := fun _ => True) ?hr ?hp (fun _ hk => hk) trivial (Below.refl _ _) (Nat.le_refl _) (by simp) ?_; (case hd => rfl); (case hg => rfl); (case hr => first | (go_simp; done) | (go_simp; rfl)); (case hp => exact (Reps.one (show Kd.M (Kd.int .i64) _ _ _ ((rd_T92 t219 x24_1).f0) [.int .i64 ((rd_T92 t219 x24_1).f0)] from rfl) (Reps.one (show Kd.M (Kd.int .i64) _ _ _ ((rd_T92 t219 x24_1).f1) [.int .i64 ((rd_T92 t219 x24_1).f1)] from rfl) (Reps.one (show Kd.M (Kd.int .i64) _ _ _ x6_1 [.int .i64 x6_1] from rfl) (Reps.none _ _))))); intro v229 w25 ho26 hb hg_ hnew_; clear hg_ hnew_; (first | rw [← Ny228.out] at ho26 | (simp only [Int.reduceToNat] at ho26; rw [← Ny228.out] at ho26)); have n0_ := aM (Kd.R_below (by (with_reducible repeat (first | apply rA | apply rN | apply rD)); exact (Kd.R_mono (Kd.R_far (p := ⟨gb227, 1, none⟩) (Kd.R_far (p := ⟨gb227, 0, none⟩) (Kd.R_mono HO_22.out (fun k_ hk => (⟨hk, hk.2⟩ : _ ∧ k_ ≠ gb227))) h2_ (.int .i64 ((rd_T92 t219 x24_1).f0))) h2_ (.int .i64 ((rd_T92 t219 x24_1).f1))) h1_)) hb); have n1_ := aM (Kd.R_lower ho26 (below_size (by repeat (first | (with_reducible first | exact HB.out | apply bA | apply bN | apply bD | refine below_set ?_ GE227.out) | exact HB.out)))); have n2_ := aM (blk_below (g := gb227) (o := .cells #[.int .i64 ((rd_T92 t219 x24_1).f0), .int .i64 ((rd_T92 t219 x24_1).f1)] 92 (0, 0)) (by (with_reducible repeat (first | refine blk_drewN ?_ _ | refine blk_drew ?_ | refine blk_alloc ?_ _)); refine blk_put (cs := #[.int .i64 ((rd_T92 t219 x24_1).f0), .int .i64 0]) ?_ 1 _ rfl; (with_reducible repeat (first | refine blk_drewN ?_ _ | refine blk_drew ?_ | refine blk_alloc ?_ _)); refine blk_put (cs := #[.int .i64 0, .int .i64 0]) ?_ 0 _ rfl; (with_reducible repeat (first | refine blk_drewN ?_ _ | refine blk_drew ?_ | refine blk_alloc ?_ _)); exact BK227.out) hb); have n3_ := aM (below_step (by repeat (first | (with_reducible first | exact HB.out | apply bA | apply bN | apply bD | refine below_set ?_ GE227.out) | exact HB.out)) hb); clear HO_22; clear BK227; clear HB; have HO_22 := n0_; have HO230 := n1_; have BK227 := n2_; have HB := n3_; clear n0_ n1_ n2_ n3_; clear hb ho26; obtain ⟨Ao27, co27, eo27⟩ := Kd.R_slice HO230.out; subst eo27) | ((with_reducible refine gate_callee (f := 125) rfl ?_); refine goesL_ (some 35) rfl rfl Try.func125 (by kernel_rfl) rfl #[.slice Ao27 y228.length co27] rfl gQ ?_; (with_reducible refine (impl_putWords.calls k1 _ _ y228 t231 _ ?side1 ?side2 A21.out).mono ?_); (case side1 => repeat (first | exact (Kd.R_reads' HO230.out).2.2 | (with_reducible first | refine cA ?_ _ | refine cN ?_ _ | refine cD ?_))); (case side2 => exact (Kd.R_reads' HO230.out).2.1); rintro e w28 ⟨rfl, hb⟩; refine ⟨_, rfl, ?_⟩; have n0_ := aM (Kd.R_below (by (with_reducible repeat (first | apply rA | apply rN | apply rD)); exact HO_22.out) hb); have n1_ := aM (Kd.R_below (by (with_reducible repeat (first | apply rA | apply rN | apply rD)); exact HO230.out) hb); have n2_ := aM (blk_below (g := gb227) (o := .cells #[.int .i64 ((rd_T92 t219 x24_1).f0), .int .i64 ((rd_T92 t219 x24_1).f1)] 92 (0, 0)) (by (with_reducible repeat (first | refine blk_drewN ?_ _ | refine blk_drew ?_ | refine blk_alloc ?_ _)); exact BK227.out) hb); have n3_ := aM (below_step (by repeat (first | (with_reducible first | exact HB.out | apply bA | apply bN | apply bD | refine below_set ?_ GE227.out) | exact HB.out)) hb); clear HO_22; clear HO230; clear BK227; clear HB; have HO_22 := n0_; have HO230 := n1_; have BK227 := n2_; have HB := n3_; clear n0_ n1_ n2_ n3_; (try clear hb); (try clear hb2); (try clear hk); (try clear hi); have hcz29_0 : w28.cell? ⟨gb227, 0, none⟩ = some (.int .i64 ((rd_T92 t219 x24_1).f0)) := (blk_cell BK227.out 0).trans rfl; have hcz29_1 : w28.cell? ⟨gb227, 1, none⟩ = some (.int .i64 ((rd_T92 t219 x24_1).f1)) := (blk_cell BK227.out 1).trans rfl; have hfz29_0 := blk_frozen BK227.out 0; have hfz29_1 := blk_frozen BK227.out 1))
        go_roundg k1
        case measure => have := HK1.out; omega
        case rel => exact ⟨(x5_1 ++ t231), (wrap64 (x6_1 + (wrap64 ((wrap64 (((rd_T92 t219 x24_1).f1) - ((rd_T92 t219 x24_1).f0))) + 1)))), (wrap64 (x24_1 + 1)), rQ, rQ, rQ, H', ⟨by have := HK1.out; omega⟩, ⟨by (with_reducible repeat (first | apply rA | apply rN | apply rD)); exact Kd.R_mono HO_22.out (fun _ hk => trivial)⟩, ⟨by repeat (first | (with_reducible first | exact HB.out | apply bA | apply bN | apply bD | refine below_set ?_ GE227.out) | exact HB.out)⟩⟩
       ·rw [if_neg c22] at H
        exact absurd H (by simp)
      ·rw [if_neg c20] at H
       exact absurd H (by simp)
     ·rw [if_neg c19] at H
      exact absurd H (by simp)
    ·rw [if_neg c18] at H
     have c18b0 : decide (x24_1 < (t219.length : Int)) = false := decide_eq_false c18
     clear c18
     by_cases c30 : (x5_1.size : Int) < ((t217 ++ t218).size : Int)
     ·rw [if_pos c30] at H
      have c30b0 : decide ((x5_1.size : Int) < ((t217 ++ t218).size : Int)) = true := decide_eq_true c30
      have c30b1 : decide (x5_1.size < (t217 ++ t218).size) = true := decide_eq_true (Int.ofNat_lt.mp c30)
      try (have c30b6 := c30b0; simp only [ByteArray.size_append, Int.natCast_add] at c30b6)
      try (have c30b7 := c30b1; simp only [ByteArray.size_append, Int.natCast_add] at c30b7)
      clear c30
      obtain rfl := Option.some.inj H
      go_wp2
      go_ret
      exact ⟨eQ, bQ⟩
     ·rw [if_neg c30] at H
      have c30b0 : decide ((x5_1.size : Int) < ((t217 ++ t218).size : Int)) = false := decide_eq_false c30
      have c30b1 : decide (x5_1.size < (t217 ++ t218).size) = false := decide_eq_false (fun h => c30 (Int.ofNat_lt.mpr h))
      try (have c30b6 := c30b0; simp only [ByteArray.size_append, Int.natCast_add] at c30b6)
      try (have c30b7 := c30b1; simp only [ByteArray.size_append, Int.natCast_add] at c30b7)
      clear c30
      obtain rfl := Option.some.inj H
      go_wp2
      go_ret
      exact ⟨eQ, bQ⟩
 ·rw [if_neg c4] at H
  exact absurd H (by simp)

end Go.Proofs.Ytdahcapolipnbaa.QFnExactDecodeClass
