/- What some Go functions answer, each as a Lean function, and that the machine answers so: written by a program of this session out of the translation. -/
import Derived.Test.YtfabhfdjabehpaaQFnExactSourceTextx0
import Derived.Test.YtfabhfdjabehpaaQFnExactSourceTextx9
import Derived.Test.YtfabhfdjabehpaaQFnExactSourceTextx10
namespace Go.Proofs.Ytfabhfdjabehpaa.QFnExactSourceText
open Go.RowKit Go.Proofs.YtfabhfdjabehpaaW.PrintWords Go.Proofs.YtfabhfdjabehpaaW.PrintLast Go.Proofs.YtfabhfdjabehpaaW.PrintMore Go.Proofs.Ytfabhfdjabehpaa.Rp
attribute [local go_sem] max2_int min2_int max_two min_two max_three min_three max_four min_four   -- for this text's walks alone
set_option linter.unusedVariables false
set_option linter.unusedSimpArgs false

/-! ### impl_lineWords: function 38 -/
abbrev mkimpl_l483_0 : Array Bool := #[ff,ff,ff,ff,ff,ff,ff,ff,ff,ff,ff,ff,ff]
abbrev mkimpl_l483_1 : Array Bool := #[tt,ff,ff,ff,ff,ff,ff,ff,ff,ff,ff,ff,ff]
abbrev mkimpl_l483_2 : Array Bool := #[tt,ff,ff,ff,tt,ff,ff,ff,ff,ff,ff,ff,ff]
abbrev mkimpl_l483_3 : Array Bool := #[tt,ff,ff,ff,tt,ff,ff,ff,tt,ff,ff,ff,ff]
abbrev mkimpl_l483_4 : Array Bool := #[tt,tt,ff,ff,tt,ff,ff,ff,tt,ff,ff,ff,ff]
abbrev mkimpl_l483_5 : Array Bool := #[tt,tt,tt,ff,tt,ff,ff,ff,tt,ff,ff,ff,ff]
abbrev mkimpl_l483_6 : Array Bool := #[tt,tt,tt,tt,tt,ff,ff,ff,tt,ff,ff,ff,ff]
abbrev mkimpl_l483_7 : Array Bool := #[tt,tt,tt,tt,tt,tt,ff,ff,tt,ff,ff,ff,ff]
abbrev mkimpl_l483_8 : Array Bool := #[ff,ff,ff,ff,ff,ff,ff,ff,ff,ff,ff,ff]
abbrev mkimpl_l483_9 : Array Bool := #[tt,tt,tt,tt,tt,tt,tt,ff,tt,ff,ff,ff,ff]
abbrev mkimpl_l483_10 : Array Bool := #[tt,ff,ff,ff,ff,ff,ff,ff,ff,ff,ff,ff]
abbrev mkimpl_l483_11 : Array Bool := #[tt,tt,tt,tt,tt,tt,tt,tt,tt,ff,ff,ff,ff]
abbrev mkimpl_l483_12 : Array Bool := #[tt,ff,ff,ff,tt,ff,ff,ff,ff,ff,ff,ff]
abbrev mkimpl_l483_13 : Array Bool := #[tt,ff,ff,tt,ff,ff,ff,ff,ff,ff,ff,ff]
abbrev mkimpl_l483_14 : Array Bool := #[tt,tt,tt,tt,tt,tt,tt,tt,tt,tt,ff,ff,ff]
abbrev mkimpl_l483_15 : Array Bool := #[tt,ff,ff,ff,tt,ff,ff,ff,tt,ff,ff,ff]
abbrev mkimpl_l483_16 : Array Bool := #[tt,ff,ff,tt,ff,ff,ff,ff,tt,ff,ff,ff]
abbrev mkimpl_l483_17 : Array Bool := #[tt,tt,tt,tt,tt,tt,tt,tt,tt,tt,tt,ff,ff]
abbrev mkimpl_l483_18 : Array Bool := #[tt,tt,ff,ff,tt,ff,ff,ff,tt,ff,ff,ff]
abbrev mkimpl_l483_19 : Array Bool := #[tt,tt,ff,tt,ff,ff,ff,ff,tt,ff,ff,ff]
abbrev mkimpl_l483_20 : Array Bool := #[tt,tt,tt,tt,tt,tt,tt,tt,tt,tt,tt,tt,ff]
abbrev mkimpl_l483_21 : Array Bool := #[tt,tt,tt,ff,tt,ff,ff,ff,tt,ff,ff,ff]
abbrev mkimpl_l483_22 : Array Bool := #[tt,tt,ff,tt,tt,ff,ff,ff,tt,ff,ff,ff]
abbrev mkimpl_l483_23 : Array Bool := #[tt,tt,tt,tt,tt,tt,tt,tt,tt,tt,tt,tt,tt]
abbrev mkimpl_l483_24 : Array Bool := #[tt,tt,tt,tt,tt,ff,ff,ff,tt,ff,ff,ff]
abbrev mkimpl_l483_25 : Array Bool := #[tt,tt,ff,tt,tt,ff,ff,ff,tt,tt,ff,ff]
abbrev mkimpl_l483_26 : Array Bool := #[tt,tt,tt,tt,tt,tt,ff,ff,tt,ff,ff,ff]
abbrev mkimpl_l483_27 : Array Bool := #[tt,tt,tt,tt,tt,ff,ff,ff,tt,tt,ff,ff]
abbrev mkimpl_l483_28 : Array Bool := #[tt,tt,tt,tt,tt,tt,tt,ff,tt,ff,ff,ff]
abbrev mkimpl_l483_29 : Array Bool := #[tt,tt,tt,tt,tt,tt,ff,ff,tt,tt,ff,ff]
abbrev mkimpl_l483_30 : Array Bool := #[tt,tt,tt,tt,tt,tt,tt,tt,tt,ff,ff,ff]
abbrev mkimpl_l483_31 : Array Bool := #[tt,tt,tt,tt,tt,tt,tt,ff,tt,tt,ff,ff]
abbrev mkimpl_l483_32 : Array Bool := #[tt,tt,tt,tt,tt,tt,tt,tt,tt,tt,ff,ff]
abbrev mkimpl_l483_33 : Array Bool := #[tt,tt,tt,tt,tt,tt,tt,tt,tt,tt,tt,ff]
abbrev mkimpl_l483_34 : Array Bool := #[tt,tt,tt,tt,tt,tt,tt,tt,tt,tt,tt,tt]
def impl_lineWords.f (k : Nat) (a0_0 : Int) (a0_1 : ByteArray) (l0_2 : List ByteArray) (l0_3 : List ByteArray) (l0_4 : List ByteArray) (l0_5 : List ByteArray) (a0_6 : Int) : Option (List ByteArray) := if a0_0 = 1 then ((some (([(⟨#[99, 108, 97, 115, 115]⟩ : ByteArray), a0_1, (⟨#[61]⟩ : ByteArray)] : List ByteArray) : List ByteArray)).bind fun y336 => (if y336.length + l0_3.length < 8796093022208 then (some (y336 ++ l0_3)) else (none))) else (if a0_0 = 2 then (some (([(⟨#[108, 111, 111, 107, 117, 112]⟩ : ByteArray), a0_1] : List ByteArray))) else (if a0_0 = 3 then (if (wrap64 ((l0_2.length : Int) + (l0_4.length : Int))) = 0 then ((slices_Concat_string_string.f k (([(([(⟨#[115, 117, 98]⟩ : ByteArray)] : List ByteArray)), l0_3, (([(⟨#[98, 121]⟩ : ByteArray)] : List ByteArray)), l0_5] : List (List ByteArray)))).bind fun t354 => (some t354)) else ((slices_Concat_string_string.f k (([(([(⟨#[115, 117, 98]⟩ : ByteArray)] : List ByteArray)), l0_2, (([(⟨#[124]⟩ : ByteArray)] : List ByteArray)), l0_3, (([(⟨#[124]⟩ : ByteArray)] : List ByteArray)), l0_4, (([(⟨#[98, 121]⟩ : ByteArray)] : List ByteArray)), l0_5] : List (List ByteArray)))).bind fun t372 => (some t372))) else (if a0_0 = 5 then (if 0 < (l0_3.length : Int) then (if 1 < (l0_3.length : Int) then ((impl_Decimal.f a0_6).bind fun t377 => (some (([(⟨#[107, 101, 114, 110]⟩ : ByteArray), rdOf ByteArray.empty l0_3 0, rdOf ByteArray.empty l0_3 1, t377] : List ByteArray)))) else (none)) else (none)) else (if a0_0 = 6 then (if 0 < (l0_3.length : Int) then (if 1 < (l0_3.length : Int) then (some (([(⟨#[109, 97, 114, 107]⟩ : ByteArray), rdOf ByteArray.empty l0_3 0, (⟨#[111, 110]⟩ : ByteArray), rdOf ByteArray.empty l0_3 1, (⟨#[97, 116]⟩ : ByteArray), a0_1] : List ByteArray))) else (none)) else (none)) else (if a0_0 = 7 then ((impl_joinKinds.f).bind fun t386 => (if 0 ≤ a0_6 then (if a0_6 < (t386.length : Int) then ((some (([(⟨#[106, 111, 105, 110]⟩ : ByteArray), a0_1, rdOf ByteArray.empty t386 a0_6] : List ByteArray) : List ByteArray)).bind fun y390 => (if y390.length + l0_5.length < 8796093022208 then (some (y390 ++ l0_5)) else (none))) else (none)) else (none))) else (some (([(⟨#[101, 110, 100]⟩ : ByteArray)] : List ByteArray))))))))
theorem impl_lineWords.mono : ∀ a0 a1 a2 a3 a4 a5 a6 k, LeO (impl_lineWords.f k a0 a1 a2 a3 a4 a5 a6) (impl_lineWords.f (k + 1) a0 a1 a2 a3 a4 a5 a6) := by
 intro a0 a1 a2 a3 a4 a5 a6 k
 unfold impl_lineWords.f
 repeat' first
   | (with_reducible exact slices_Concat_string_string.mono _ _)
   | (with_reducible exact LeO.refl _)
   | (with_reducible exact LeO.none _)
   | (with_reducible refine LeO.ite ?_ ?_)
   | (with_reducible refine LeO.bind ?_ (fun _ => ?_))
   | exact slices_Concat_string_string.mono _ _
   | exact LeO.none _
   | refine LeO.ite ?_ ?_
   | refine LeO.bind ?_ (fun _ => ?_)
def impl_lineWords.T11 : Bool × List (List Nat × List Nat) := (true, [([], []), ([0], [0]), ([1], [1]), ([2], [2]), ([], []), ([4], [4]), ([5], [5]), ([6], [6]), ([], []), ([8], [8]), ([9], [9]), ([3, 7, 10], [3, 7, 10]), ([11, 10, 0, 1, 2, 3, 4, 5, 6, 7, 8, 9, 10, 11], [11])])
def impl_lineWords.B11 : List Nat := [0, 1, 3, 7, 0, 16, 48, 112, 0, 256, 768, 2047, 4095]
theorem impl_lineWords.tab11 : rtab .any (opsOf Try.f38 11) = impl_lineWords.T11 := by kernel_rfl
theorem impl_lineWords.bits11 : waitsOk impl_lineWords.T11.2 impl_lineWords.B11 = true := by kernel_rfl
def impl_lineWords.T13 : Bool × List (List Nat × List Nat) := (true, [([], []), ([0], [0]), ([1], [1]), ([2], [2]), ([], []), ([4], [4]), ([5], [5]), ([6], [6]), ([], []), ([8], [8]), ([3, 7, 9], [3, 7, 9]), ([10, 0, 1, 2, 3, 4, 5, 6, 7, 8, 9, 10], [10])])
def impl_lineWords.B13 : List Nat := [0, 1, 3, 7, 0, 16, 48, 112, 0, 256, 1023, 2047]
theorem impl_lineWords.tab13 : rtab .any (opsOf Try.f38 13) = impl_lineWords.T13 := by kernel_rfl
theorem impl_lineWords.bits13 : waitsOk impl_lineWords.T13.2 impl_lineWords.B13 = true := by kernel_rfl
def impl_lineWords.T15 : Bool × List (List Nat × List Nat) := (true, [([], []), ([0], [0]), ([], []), ([], []), ([3], [3]), ([2, 4], [2, 4]), ([5], [5]), ([1, 6], [1, 6]), ([], []), ([8], [8]), ([7, 9, 2], [7, 9]), ([10, 10, 0, 1, 2, 3, 4, 5, 6, 7, 8, 9, 10], [10])])
def impl_lineWords.B15 : List Nat := [0, 1, 0, 0, 8, 28, 60, 127, 0, 256, 1023, 2047]
theorem impl_lineWords.tab15 : rtab .any (opsOf Try.f38 15) = impl_lineWords.T15 := by kernel_rfl
theorem impl_lineWords.bits15 : waitsOk impl_lineWords.T15.2 impl_lineWords.B15 = true := by kernel_rfl
set_option maxHeartbeats 8000000 in
set_option maxRecDepth 100000 in
theorem impl_lineWords.calls (k : Nat) (a0_0 : Int) (a0_1 : ByteArray) (P0_2_ : Nat → Prop) (A0_2 : Option Addr) (c0_2 : Nat) (l0_2 : List ByteArray) (P0_3_ : Nat → Prop) (A0_3 : Option Addr) (c0_3 : Nat) (l0_3 : List ByteArray) (P0_4_ : Nat → Prop) (A0_4 : Option Addr) (c0_4 : Nat) (l0_4 : List ByteArray) (P0_5_ : Nat → Prop) (A0_5 : Option Addr) (c0_5 : Nat) (l0_5 : List ByteArray) (a0_6 : Int) (r : List ByteArray) (w : World) (hs0_2 : Kd.V Kd.string 9 w w.heap.size (fun k_ => P0_2_ k_) (.slice A0_2 l0_2.length c0_2) l0_2) (hs0_3 : Kd.V Kd.string 9 w w.heap.size (fun k_ => P0_3_ k_) (.slice A0_3 l0_3.length c0_3) l0_3) (hs0_4 : Kd.V Kd.string 9 w w.heap.size (fun k_ => P0_4_ k_) (.slice A0_4 l0_4.length c0_4) l0_4) (hs0_5 : Kd.V Kd.string 9 w w.heap.size (fun k_ => P0_5_ k_) (.slice A0_5 l0_5.length c0_5) l0_5) (h : impl_lineWords.f k a0_0 a0_1 l0_2 l0_3 l0_4 l0_5 a0_6 = some r) :
  Calls Try.prog 38 #[.agg #[.int .i64 a0_0, .string a0_1, .slice A0_2 l0_2.length c0_2, .slice A0_3 l0_3.length c0_3, .slice A0_4 l0_4.length c0_4, .slice A0_5 l0_5.length c0_5, .int .i64 a0_6]] w fun e w' => ∃ v0_ : Value, e = .returned (v0_) ∧ Kd.R Kd.string 9 w' w.heap.size (fun k_ => (w.heap.size ≤ k_)) v0_ r ∧ Below w.heap.size w w' := by
 have hu39 := Try.underlying39
 have HO0_2 := aM (show Kd.V Kd.string 9 w w.heap.size (fun k_ => ((P0_2_ k_ ∨ P0_3_ k_ ∨ P0_4_ k_ ∨ P0_5_ k_) ∨ w.heap.size ≤ k_)) (.slice A0_2 l0_2.length c0_2) l0_2 from Kd.V_mono hs0_2 (fun k_ hk => .inl (.inl hk)))
 have HO0_3 := aM (show Kd.V Kd.string 9 w w.heap.size (fun k_ => ((P0_2_ k_ ∨ P0_3_ k_ ∨ P0_4_ k_ ∨ P0_5_ k_) ∨ w.heap.size ≤ k_)) (.slice A0_3 l0_3.length c0_3) l0_3 from Kd.V_mono hs0_3 (fun k_ hk => .inl (.inr (.inl hk))))
 have HO0_4 := aM (show Kd.V Kd.string 9 w w.heap.size (fun k_ => ((P0_2_ k_ ∨ P0_3_ k_ ∨ P0_4_ k_ ∨ P0_5_ k_) ∨ w.heap.size ≤ k_)) (.slice A0_4 l0_4.length c0_4) l0_4 from Kd.V_mono hs0_4 (fun k_ hk => .inl (.inr (.inr (.inl hk)))))
 have HO0_5 := aM (show Kd.V Kd.string 9 w w.heap.size (fun k_ => ((P0_2_ k_ ∨ P0_3_ k_ ∨ P0_4_ k_ ∨ P0_5_ k_) ∨ w.heap.size ≤ k_)) (.slice A0_5 l0_5.length c0_5) l0_5 from Kd.V_mono hs0_5 (fun k_ hk => .inl (.inr (.inr (.inr hk)))))
 have HB := aM (Below.refl w.heap.size w)
 have H : (if a0_0 = 1 then ((some (([(⟨#[99, 108, 97, 115, 115]⟩ : ByteArray), a0_1, (⟨#[61]⟩ : ByteArray)] : List ByteArray) : List ByteArray)).bind fun y336 => (if y336.length + l0_3.length < 8796093022208 then (some (y336 ++ l0_3)) else (none))) else (if a0_0 = 2 then (some (([(⟨#[108, 111, 111, 107, 117, 112]⟩ : ByteArray), a0_1] : List ByteArray))) else (if a0_0 = 3 then (if (wrap64 ((l0_2.length : Int) + (l0_4.length : Int))) = 0 then ((slices_Concat_string_string.f k (([(([(⟨#[115, 117, 98]⟩ : ByteArray)] : List ByteArray)), l0_3, (([(⟨#[98, 121]⟩ : ByteArray)] : List ByteArray)), l0_5] : List (List ByteArray)))).bind fun t354 => (some t354)) else ((slices_Concat_string_string.f k (([(([(⟨#[115, 117, 98]⟩ : ByteArray)] : List ByteArray)), l0_2, (([(⟨#[124]⟩ : ByteArray)] : List ByteArray)), l0_3, (([(⟨#[124]⟩ : ByteArray)] : List ByteArray)), l0_4, (([(⟨#[98, 121]⟩ : ByteArray)] : List ByteArray)), l0_5] : List (List ByteArray)))).bind fun t372 => (some t372))) else (if a0_0 = 5 then (if 0 < (l0_3.length : Int) then (if 1 < (l0_3.length : Int) then ((impl_Decimal.f a0_6).bind fun t377 => (some (([(⟨#[107, 101, 114, 110]⟩ : ByteArray), rdOf ByteArray.empty l0_3 0, rdOf ByteArray.empty l0_3 1, t377] : List ByteArray)))) else (none)) else (none)) else (if a0_0 = 6 then (if 0 < (l0_3.length : Int) then (if 1 < (l0_3.length : Int) then (some (([(⟨#[109, 97, 114, 107]⟩ : ByteArray), rdOf ByteArray.empty l0_3 0, (⟨#[111, 110]⟩ : ByteArray), rdOf ByteArray.empty l0_3 1, (⟨#[97, 116]⟩ : ByteArray), a0_1] : List ByteArray))) else (none)) else (none)) else (if a0_0 = 7 then ((impl_joinKinds.f).bind fun t386 => (if 0 ≤ a0_6 then (if a0_6 < (t386.length : Int) then ((some (([(⟨#[106, 111, 105, 110]⟩ : ByteArray), a0_1, rdOf ByteArray.empty t386 a0_6] : List ByteArray) : List ByteArray)).bind fun y390 => (if y390.length + l0_5.length < 8796093022208 then (some (y390 ++ l0_5)) else (none))) else (none)) else (none))) else (some (([(⟨#[101, 110, 100]⟩ : ByteArray)] : List ByteArray))))))))) = some r := h
 clear h
 by_cases c2 : a0_0 = 1
 ·rw [if_pos c2] at H
  have c2b0 : (a0_0 == 1) = true := beq_iff_eq.mpr c2
  have c2b1 : (a0_0 != 1) = false := bne_eq_false_iff_eq.mpr c2
  clear c2
  obtain ⟨y336, hy336⟩ : ∃ y_ : List ByteArray, y_ = (([(⟨#[99, 108, 97, 115, 115]⟩ : ByteArray), a0_1, (⟨#[61]⟩ : ByteArray)] : List ByteArray)) := ⟨_, rfl⟩
  replace H : (if y336.length + l0_3.length < 8796093022208 then (some (y336 ++ l0_3)) else (none)) = some r := by first | (rw [hy336]; with_reducible exact H) | (have H2_ := bS H; rw [hy336]; with_reducible exact H2_) | (have H2_ := bS H; with_reducible exact H2_) | with_reducible exact H | (rw [hy336]; exact H) | exact H
  have Ny336 := aM hy336
  clear hy336
  by_cases c3 : y336.length + l0_3.length < 8796093022208
  ·rw [if_pos c3] at H
   have LMc3 := aM c3
   clear c3
   obtain ⟨y339, hy339⟩ : ∃ y_ : List ByteArray, y_ = (y336 ++ l0_3) := ⟨_, rfl⟩
   replace H : (some y339) = some r := by first | (rw [hy339]; with_reducible exact H) | (have H2_ := bS H; rw [hy339]; with_reducible exact H2_) | (have H2_ := bS H; with_reducible exact H2_) | with_reducible exact H | (rw [hy339]; exact H) | exact H
   have Ny339 := aM hy339
   clear hy339
   obtain rfl := Option.some.inj H
   go_enter Try.func38, Try.ntmps38
   go_wp2_with (first | ((with_reducible refine gate_dst (N := 1) rfl ?_); refine box_event ?hg (N := 1) ?hd (cs := #[.int .i64 a0_0, .string a0_1, .slice A0_2 l0_2.length c0_2, .slice A0_3 l0_3.length c0_3, .slice A0_4 l0_4.length c0_4, .slice A0_5 l0_5.length c0_5, .int .i64 a0_6]) (t := 39) ?hr ?_; (case hd => rfl); (case hg => rfl); (case hr => first | (go_simp; done) | (go_simp; rfl)); intro gb335 hg w4 hbox hb; have n0_ := aM (Kd.V_below (Kd.V_elderB (by (with_reducible repeat (first | apply Kd.V_alloc | apply Kd.V_drewN | apply Kd.V_drew)); exact HO0_2.out) gb335 (Nat.le_of_eq hg.symm)) hb); have n1_ := aM (Kd.V_below (Kd.V_elderB (by (with_reducible repeat (first | apply Kd.V_alloc | apply Kd.V_drewN | apply Kd.V_drew)); exact HO0_3.out) gb335 (Nat.le_of_eq hg.symm)) hb); have n2_ := aM (Kd.V_below (Kd.V_elderB (by (with_reducible repeat (first | apply Kd.V_alloc | apply Kd.V_drewN | apply Kd.V_drew)); exact HO0_4.out) gb335 (Nat.le_of_eq hg.symm)) hb); have n3_ := aM (Kd.V_below (Kd.V_elderB (by (with_reducible repeat (first | apply Kd.V_alloc | apply Kd.V_drewN | apply Kd.V_drew)); exact HO0_5.out) gb335 (Nat.le_of_eq hg.symm)) hb); have n4_ := aM (below_step bQ hb); have n5_ := aM (hbox); have n6_ := aM ((by rw [hg]; exact (below_size bQ) : w.heap.size ≤ gb335)); have n7_ := aM ((by rw [hg]; exact (below_size bQ) : w.heap.size ≤ gb335)); clear HO0_2; clear HO0_3; clear HO0_4; clear HO0_5; clear HB; have HO0_2 := n0_; have HO0_3 := n1_; have HO0_4 := n2_; have HO0_5 := n3_; have HB := n4_; have BK335 := n5_; have GW335 := n6_; have GE335 := n7_; clear n0_ n1_ n2_ n3_ n4_ n5_ n6_ n7_; clear hb hbox hg; obtain ⟨hcz5_0, hcz5_1, hcz5_2, hcz5_3, hcz5_4, hcz5_5, hcz5_6⟩ := cl7 BK335.out; obtain ⟨hfz5_0, hfz5_1, hfz5_2, hfz5_3, hfz5_4, hfz5_5⟩ := fz6 BK335.out; have hfz5_6 := blk_frozen BK335.out 6) | ((with_reducible refine gate_dst (N := 9) rfl ?_); refine Kd.R_lit Kd.string _ 9 ?hg (N := 9) ?hd (xs := ([(⟨#[99, 108, 97, 115, 115]⟩ : ByteArray), a0_1, (⟨#[61]⟩ : ByteArray)] : List ByteArray)) (inner := [.string (⟨#[99, 108, 97, 115, 115]⟩ : ByteArray), .string a0_1, .string (⟨#[61]⟩ : ByteArray)]) (ok := fun _ => True) (okp := fun _ => True) ?hr ?hp (fun _ hk => hk) trivial (Below.refl _ _) (Nat.le_refl _) (by simp) ?_; (case hd => rfl); (case hg => rfl); (case hr => first | (go_simp; done) | (go_simp; rfl)); (case hp => exact (Reps.one (show Kd.M Kd.string _ _ _ (⟨#[99, 108, 97, 115, 115]⟩ : ByteArray) [.string (⟨#[99, 108, 97, 115, 115]⟩ : ByteArray)] from rfl) (Reps.one (show Kd.M Kd.string _ _ _ a0_1 [.string a0_1] from rfl) (Reps.one (show Kd.M Kd.string _ _ _ (⟨#[61]⟩ : ByteArray) [.string (⟨#[61]⟩ : ByteArray)] from rfl) (Reps.none _ _))))); intro v337 w6 ho7 hb hg_ hnew_; clear hg_ hnew_; (first | rw [← Ny336.out] at ho7 | (simp only [Int.reduceToNat] at ho7; rw [← Ny336.out] at ho7)); have n0_ := aM (Kd.V_elder' (by (with_reducible repeat (first | apply Kd.V_alloc | apply Kd.V_drewN | apply Kd.V_drew)); exact HO0_2.out) (Kd.R_base ho7) hb); have n1_ := aM (Kd.V_elder' (by (with_reducible repeat (first | apply Kd.V_alloc | apply Kd.V_drewN | apply Kd.V_drew)); exact HO0_3.out) (Kd.R_base ho7) hb); have n2_ := aM (Kd.V_elder' (by (with_reducible repeat (first | apply Kd.V_alloc | apply Kd.V_drewN | apply Kd.V_drew)); exact HO0_4.out) (Kd.R_base ho7) hb); have n3_ := aM (Kd.V_elder' (by (with_reducible repeat (first | apply Kd.V_alloc | apply Kd.V_drewN | apply Kd.V_drew)); exact HO0_5.out) (Kd.R_base ho7) hb); have n4_ := aM (Kd.R_lower (Kd.R_newM (M := fun k_ => (w.heap.size ≤ k_)) ho7 (below_size (by repeat (first | (with_reducible first | exact HB.out | apply bA | apply bN | apply bD | refine below_set ?_ GE335.out) | exact HB.out))) (fun k_ h_ => h_)) (below_size (by repeat (first | (with_reducible first | exact HB.out | apply bA | apply bN | apply bD | refine below_set ?_ GE335.out) | exact HB.out)))); have n5_ := aM (blk_below (g := gb335) (o := .cells #[.int .i64 a0_0, .string a0_1, .slice A0_2 l0_2.length c0_2, .slice A0_3 l0_3.length c0_3, .slice A0_4 l0_4.length c0_4, .slice A0_5 l0_5.length c0_5, .int .i64 a0_6] 39 (0, 0)) (by (with_reducible repeat (first | refine blk_drewN ?_ _ | refine blk_drew ?_ | refine blk_alloc ?_ _)); exact BK335.out) hb); have n6_ := aM (below_step (by repeat (first | (with_reducible first | exact HB.out | apply bA | apply bN | apply bD | refine below_set ?_ GE335.out) | exact HB.out)) hb); clear HO0_2; clear HO0_3; clear HO0_4; clear HO0_5; clear BK335; clear HB; have HO0_2 := n0_; have HO0_3 := n1_; have HO0_4 := n2_; have HO0_5 := n3_; have HO338 := n4_; have BK335 := n5_; have HB := n6_; clear n0_ n1_ n2_ n3_ n4_ n5_ n6_; clear hb ho7; obtain ⟨hcz8_0, hcz8_1, hcz8_2, hcz8_3, hcz8_4, hcz8_5, hcz8_6⟩ := cl7 BK335.out; obtain ⟨hfz8_0, hfz8_1, hfz8_2, hfz8_3, hfz8_4, hfz8_5⟩ := fz6 BK335.out; have hfz8_6 := blk_frozen BK335.out 6) | ((with_reducible refine gate_builtin (b := .append) (xs := #[.tmp 9, .tmp 11]) rfl ?_); at_builtin; refine Kd.R_append_rows Kd.string (w0 := w) w.heap.size rfl (.tmp 9) (.tmp 11) 34 9 (.string ⟨#[]⟩) 16 rfl Try.underlying34 info9 rfl (by decide) (by omega) v337 y336 l0_3 _ _ _ (fun k_ => (w.heap.size ≤ k_)) (fun _ => False) rfl rfl ?aO ?aR (fun _ _ h => h) (fun _ h => h.elim) ?aF ?aB ?aS ?aL ?_; (case aR => repeat (first | exact (Kd.V_reads' HO0_3.out).2.2 | (with_reducible first | refine cA ?_ _ | refine cN ?_ _ | refine cD ?_))); (case aB => exact (by repeat (first | (with_reducible first | exact HB.out | apply bA | apply bN | apply bD | refine below_set ?_ GE335.out) | exact HB.out))); (case aF => exact (fun k_ hk => (Nat.le_trans (below_size (by repeat (first | (with_reducible first | exact HB.out | apply bA | apply bN | apply bD | refine below_set ?_ GE335.out) | exact HB.out))) hk))); (case aO => exact (by (with_reducible repeat (first | apply rA | apply rN | apply rD)); exact Kd.R_mono HO338.out (fun _ hk => hk.1))); (case aS => exact (below_size (by repeat (first | (with_reducible first | exact HB.out | apply bA | apply bN | apply bD | refine below_set ?_ GE335.out) | exact HB.out)))); (case aL => have := LMc3.out; omega); intro v340 w9 ho hb hg hat; rw [← Ny339.out] at ho; have n0_ := aM (Kd.V_afterv (ok := (fun k_ => ((P0_2_ k_ ∨ P0_3_ k_ ∨ P0_4_ k_ ∨ P0_5_ k_) ∨ w.heap.size ≤ k_) ∧ k_ ≠ gb335)) (by (with_reducible repeat (first | apply Kd.V_alloc | apply Kd.V_drewN | apply Kd.V_drew)); exact HO0_2.out) hg hat); have n1_ := aM (Kd.V_afterv (ok := (fun k_ => ((P0_2_ k_ ∨ P0_3_ k_ ∨ P0_4_ k_ ∨ P0_5_ k_) ∨ w.heap.size ≤ k_) ∧ k_ ≠ gb335)) (by (with_reducible repeat (first | apply Kd.V_alloc | apply Kd.V_drewN | apply Kd.V_drew)); exact HO0_3.out) hg hat); have n2_ := aM (Kd.V_afterv (ok := (fun k_ => ((P0_2_ k_ ∨ P0_3_ k_ ∨ P0_4_ k_ ∨ P0_5_ k_) ∨ w.heap.size ≤ k_) ∧ k_ ≠ gb335)) (by (with_reducible repeat (first | apply Kd.V_alloc | apply Kd.V_drewN | apply Kd.V_drew)); exact HO0_4.out) hg hat); have n3_ := aM (Kd.V_afterv (ok := (fun k_ => ((P0_2_ k_ ∨ P0_3_ k_ ∨ P0_4_ k_ ∨ P0_5_ k_) ∨ w.heap.size ≤ k_) ∧ k_ ≠ gb335)) (by (with_reducible repeat (first | apply Kd.V_alloc | apply Kd.V_drewN | apply Kd.V_drew)); exact HO0_5.out) hg hat); have n4_ := aM (blk_grown (g := gb335) (o := .cells #[.int .i64 a0_0, .string a0_1, .slice A0_2 l0_2.length c0_2, .slice A0_3 l0_3.length c0_3, .slice A0_4 l0_4.length c0_4, .slice A0_5 l0_5.length c0_5, .int .i64 a0_6] 39 (0, 0)) (by (with_reducible repeat (first | refine blk_drewN ?_ _ | refine blk_drew ?_ | refine blk_alloc ?_ _)); exact BK335.out) hg (Kd.R_ne HO338.out BK335.out (by decide))); have n5_ := aM (hb); have n6_ := aM (ho); clear HO0_2; clear HO0_3; clear HO0_4; clear HO0_5; clear BK335; clear HB; clear HO338; have HO0_2 := n0_; have HO0_3 := n1_; have HO0_4 := n2_; have HO0_5 := n3_; have BK335 := n4_; have HB := n5_; have HO341 := n6_; clear n0_ n1_ n2_ n3_ n4_ n5_ n6_; clear ho hb hg hat))
   go_ret
   exact ⟨_, eQ, by (with_reducible repeat (first | apply rA | apply rN | apply rD)); exact HO341.out, by repeat (first | (with_reducible first | exact HB.out | apply bA | apply bN | apply bD | refine below_set ?_ GE335.out) | exact HB.out)⟩
  ·rw [if_neg c3] at H
   exact absurd H (by simp)
 ·rw [if_neg c2] at H
  have c2b0 : (a0_0 == 1) = false := beq_eq_false_iff_ne.mpr c2
  have c2b1 : (a0_0 != 1) = true := bne_iff_ne.mpr c2
  by_cases c10 : a0_0 = 2
  ·rw [if_pos c10] at H
   have c10b0 : (a0_0 == 2) = true := beq_iff_eq.mpr c10
   have c10b1 : (a0_0 != 2) = false := bne_eq_false_iff_eq.mpr c10
   clear c10
   obtain ⟨y342, hy342⟩ : ∃ y_ : List ByteArray, y_ = (([(⟨#[108, 111, 111, 107, 117, 112]⟩ : ByteArray), a0_1] : List ByteArray)) := ⟨_, rfl⟩
   replace H : (some y342) = some r := by first | (rw [hy342]; with_reducible exact H) | (have H2_ := bS H; rw [hy342]; with_reducible exact H2_) | (have H2_ := bS H; with_reducible exact H2_) | with_reducible exact H | (rw [hy342]; exact H) | exact H
   have Ny342 := aM hy342
   clear hy342
   obtain rfl := Option.some.inj H
   go_enter Try.func38, Try.ntmps38
   go_wp2_with (first | ((with_reducible refine gate_dst (N := 1) rfl ?_); refine box_event ?hg (N := 1) ?hd (cs := #[.int .i64 a0_0, .string a0_1, .slice A0_2 l0_2.length c0_2, .slice A0_3 l0_3.length c0_3, .slice A0_4 l0_4.length c0_4, .slice A0_5 l0_5.length c0_5, .int .i64 a0_6]) (t := 39) ?hr ?_; (case hd => rfl); (case hg => rfl); (case hr => first | (go_simp; done) | (go_simp; rfl)); intro gb335 hg w11 hbox hb; have n0_ := aM (Kd.V_below (Kd.V_elderB (by (with_reducible repeat (first | apply Kd.V_alloc | apply Kd.V_drewN | apply Kd.V_drew)); exact HO0_2.out) gb335 (Nat.le_of_eq hg.symm)) hb); have n1_ := aM (Kd.V_below (Kd.V_elderB (by (with_reducible repeat (first | apply Kd.V_alloc | apply Kd.V_drewN | apply Kd.V_drew)); exact HO0_3.out) gb335 (Nat.le_of_eq hg.symm)) hb); have n2_ := aM (Kd.V_below (Kd.V_elderB (by (with_reducible repeat (first | apply Kd.V_alloc | apply Kd.V_drewN | apply Kd.V_drew)); exact HO0_4.out) gb335 (Nat.le_of_eq hg.symm)) hb); have n3_ := aM (Kd.V_below (Kd.V_elderB (by (with_reducible repeat (first | apply Kd.V_alloc | apply Kd.V_drewN | apply Kd.V_drew)); exact HO0_5.out) gb335 (Nat.le_of_eq hg.symm)) hb); have n4_ := aM (below_step bQ hb); have n5_ := aM (hbox); have n6_ := aM ((by rw [hg]; exact (below_size bQ) : w.heap.size ≤ gb335)); have n7_ := aM ((by rw [hg]; exact (below_size bQ) : w.heap.size ≤ gb335)); clear HO0_2; clear HO0_3; clear HO0_4; clear HO0_5; clear HB; have HO0_2 := n0_; have HO0_3 := n1_; have HO0_4 := n2_; have HO0_5 := n3_; have HB := n4_; have BK335 := n5_; have GW335 := n6_; have GE335 := n7_; clear n0_ n1_ n2_ n3_ n4_ n5_ n6_ n7_; clear hb hbox hg; obtain ⟨hcz12_0, hcz12_1, hcz12_2, hcz12_3, hcz12_4, hcz12_5, hcz12_6⟩ := cl7 BK335.out; obtain ⟨hfz12_0, hfz12_1, hfz12_2, hfz12_3, hfz12_4, hfz12_5⟩ := fz6 BK335.out; have hfz12_6 := blk_frozen BK335.out 6) | ((with_reducible refine gate_dst (N := 17) rfl ?_); refine Kd.R_lit Kd.string _ 9 ?hg (N := 17) ?hd (xs := ([(⟨#[108, 111, 111, 107, 117, 112]⟩ : ByteArray), a0_1] : List ByteArray)) (inner := [.string (⟨#[108, 111, 111, 107, 117, 112]⟩ : ByteArray), .string a0_1]) (ok := fun _ => True) (okp := fun _ => True) ?hr ?hp (fun _ hk => hk) trivial (Below.refl _ _) (Nat.le_refl _) (by simp) ?_; (case hd => rfl); (case hg => rfl); (case hr => first | (go_simp; done) | (go_simp; rfl)); (case hp => exact (Reps.one (show Kd.M Kd.string _ _ _ (⟨#[108, 111, 111, 107, 117, 112]⟩ : ByteArray) [.string (⟨#[108, 111, 111, 107, 117, 112]⟩ : ByteArray)] from rfl) (Reps.one (show Kd.M Kd.string _ _ _ a0_1 [.string a0_1] from rfl) (Reps.none _ _)))); intro v343 w13 ho14 hb hg_ hnew_; clear hg_ hnew_; (first | rw [← Ny342.out] at ho14 | (simp only [Int.reduceToNat] at ho14; rw [← Ny342.out] at ho14)); have n0_ := aM (Kd.V_elder' (by (with_reducible repeat (first | apply Kd.V_alloc | apply Kd.V_drewN | apply Kd.V_drew)); exact HO0_2.out) (Kd.R_base ho14) hb); have n1_ := aM (Kd.V_elder' (by (with_reducible repeat (first | apply Kd.V_alloc | apply Kd.V_drewN | apply Kd.V_drew)); exact HO0_3.out) (Kd.R_base ho14) hb); have n2_ := aM (Kd.V_elder' (by (with_reducible repeat (first | apply Kd.V_alloc | apply Kd.V_drewN | apply Kd.V_drew)); exact HO0_4.out) (Kd.R_base ho14) hb); have n3_ := aM (Kd.V_elder' (by (with_reducible repeat (first | apply Kd.V_alloc | apply Kd.V_drewN | apply Kd.V_drew)); exact HO0_5.out) (Kd.R_base ho14) hb); have n4_ := aM (Kd.R_lower (Kd.R_newM (M := fun k_ => (w.heap.size ≤ k_)) ho14 (below_size (by repeat (first | (with_reducible first | exact HB.out | apply bA | apply bN | apply bD | refine below_set ?_ GE335.out) | exact HB.out))) (fun k_ h_ => h_)) (below_size (by repeat (first | (with_reducible first | exact HB.out | apply bA | apply bN | apply bD | refine below_set ?_ GE335.out) | exact HB.out)))); have n5_ := aM (blk_below (g := gb335) (o := .cells #[.int .i64 a0_0, .string a0_1, .slice A0_2 l0_2.length c0_2, .slice A0_3 l0_3.length c0_3, .slice A0_4 l0_4.length c0_4, .slice A0_5 l0_5.length c0_5, .int .i64 a0_6] 39 (0, 0)) (by (with_reducible repeat (first | refine blk_drewN ?_ _ | refine blk_drew ?_ | refine blk_alloc ?_ _)); exact BK335.out) hb); have n6_ := aM (below_step (by repeat (first | (with_reducible first | exact HB.out | apply bA | apply bN | apply bD | refine below_set ?_ GE335.out) | exact HB.out)) hb); clear HO0_2; clear HO0_3; clear HO0_4; clear HO0_5; clear BK335; clear HB; have HO0_2 := n0_; have HO0_3 := n1_; have HO0_4 := n2_; have HO0_5 := n3_; have HO344 := n4_; have BK335 := n5_; have HB := n6_; clear n0_ n1_ n2_ n3_ n4_ n5_ n6_; clear hb ho14))
   go_ret
   exact ⟨_, eQ, by (with_reducible repeat (first | apply rA | apply rN | apply rD)); exact Kd.R_mono HO344.out (fun _ hk => hk.1), by repeat (first | (with_reducible first | exact HB.out | apply bA | apply bN | apply bD | refine below_set ?_ GE335.out) | exact HB.out)⟩
  ·rw [if_neg c10] at H
   have c10b0 : (a0_0 == 2) = false := beq_eq_false_iff_ne.mpr c10
   have c10b1 : (a0_0 != 2) = true := bne_iff_ne.mpr c10
   by_cases c15 : a0_0 = 3
   ·rw [if_pos c15] at H
    have c15b0 : (a0_0 == 3) = true := beq_iff_eq.mpr c15
    have c15b1 : (a0_0 != 3) = false := bne_eq_false_iff_eq.mpr c15
    clear c15
    by_cases c16 : (wrap64 ((l0_2.length : Int) + (l0_4.length : Int))) = 0
    ·rw [if_pos c16] at H
     have c16b0 : ((wrap64 ((l0_2.length : Int) + (l0_4.length : Int))) == 0) = true := beq_iff_eq.mpr c16
     have c16b1 : ((wrap64 ((l0_2.length : Int) + (l0_4.length : Int))) != 0) = false := bne_eq_false_iff_eq.mpr c16
     clear c16
     obtain ⟨y345, hy345⟩ : ∃ y_ : List ByteArray, y_ = (([(⟨#[115, 117, 98]⟩ : ByteArray)] : List ByteArray)) := ⟨_, rfl⟩
     replace H : ((slices_Concat_string_string.f k (([y345, l0_3, (([(⟨#[98, 121]⟩ : ByteArray)] : List ByteArray)), l0_5] : List (List ByteArray)))).bind fun t354 => (some t354)) = some r := by first | (rw [hy345]; with_reducible exact H) | (have H2_ := bS H; rw [hy345]; with_reducible exact H2_) | (have H2_ := bS H; with_reducible exact H2_) | with_reducible exact H | (rw [hy345]; exact H) | exact H
     have Ny345 := aM hy345
     clear hy345
     obtain ⟨y348, hy348⟩ : ∃ y_ : List ByteArray, y_ = (([(⟨#[98, 121]⟩ : ByteArray)] : List ByteArray)) := ⟨_, rfl⟩
     replace H : ((slices_Concat_string_string.f k (([y345, l0_3, y348, l0_5] : List (List ByteArray)))).bind fun t354 => (some t354)) = some r := by first | (rw [hy348]; with_reducible exact H) | (have H2_ := bS H; rw [hy348]; with_reducible exact H2_) | (have H2_ := bS H; with_reducible exact H2_) | with_reducible exact H | (rw [hy348]; exact H) | exact H
     have Ny348 := aM hy348
     clear hy348
     obtain ⟨y351, hy351⟩ : ∃ y_ : List (List ByteArray), y_ = (([y345, l0_3, y348, l0_5] : List (List ByteArray))) := ⟨_, rfl⟩
     replace H : ((slices_Concat_string_string.f k y351).bind fun t354 => (some t354)) = some r := by first | (rw [hy351]; with_reducible exact H) | (have H2_ := bS H; rw [hy351]; with_reducible exact H2_) | (have H2_ := bS H; with_reducible exact H2_) | with_reducible exact H | (rw [hy351]; exact H) | exact H
     have Ny351 := aM hy351
     clear hy351
     replace H := Option.bind_eq_some_iff.mp H
     obtain ⟨t354, A170, H⟩ := H
     replace H : (some t354) = some r := H
     have A17 := aM A170
     clear A170
     obtain rfl := Option.some.inj H
     go_enter Try.func38, Try.ntmps38
     go_wp2_with (first | ((with_reducible refine gate_dst (N := 1) rfl ?_); refine box_event ?hg (N := 1) ?hd (cs := #[.int .i64 a0_0, .string a0_1, .slice A0_2 l0_2.length c0_2, .slice A0_3 l0_3.length c0_3, .slice A0_4 l0_4.length c0_4, .slice A0_5 l0_5.length c0_5, .int .i64 a0_6]) (t := 39) ?hr ?_; (case hd => rfl); (case hg => rfl); (case hr => first | (go_simp; done) | (go_simp; rfl)); intro gb335 hg w18 hbox hb; have n0_ := aM (Kd.V_below (Kd.V_elderB (by (with_reducible repeat (first | apply Kd.V_alloc | apply Kd.V_drewN | apply Kd.V_drew)); exact HO0_2.out) gb335 (Nat.le_of_eq hg.symm)) hb); have n1_ := aM (Kd.V_below (Kd.V_elderB (by (with_reducible repeat (first | apply Kd.V_alloc | apply Kd.V_drewN | apply Kd.V_drew)); exact HO0_3.out) gb335 (Nat.le_of_eq hg.symm)) hb); have n2_ := aM (Kd.V_below (Kd.V_elderB (by (with_reducible repeat (first | apply Kd.V_alloc | apply Kd.V_drewN | apply Kd.V_drew)); exact HO0_4.out) gb335 (Nat.le_of_eq hg.symm)) hb); have n3_ := aM (Kd.V_below (Kd.V_elderB (by (with_reducible repeat (first | apply Kd.V_alloc | apply Kd.V_drewN | apply Kd.V_drew)); exact HO0_5.out) gb335 (Nat.le_of_eq hg.symm)) hb); have n4_ := aM (below_step bQ hb); have n5_ := aM (hbox); have n6_ := aM ((by rw [hg]; exact (below_size bQ) : w.heap.size ≤ gb335)); have n7_ := aM ((by rw [hg]; exact (below_size bQ) : w.heap.size ≤ gb335)); clear HO0_2; clear HO0_3; clear HO0_4; clear HO0_5; clear HB; have HO0_2 := n0_; have HO0_3 := n1_; have HO0_4 := n2_; have HO0_5 := n3_; have HB := n4_; have BK335 := n5_; have GW335 := n6_; have GE335 := n7_; clear n0_ n1_ n2_ n3_ n4_ n5_ n6_ n7_; clear hb hbox hg; obtain ⟨hcz19_0, hcz19_1, hcz19_2, hcz19_3, hcz19_4, hcz19_5, hcz19_6⟩ := cl7 BK335.out; obtain ⟨hfz19_0, hfz19_1, hfz19_2, hfz19_3, hfz19_4, hfz19_5⟩ := fz6 BK335.out; have hfz19_6 := blk_frozen BK335.out 6) | ((with_reducible refine gate_dst (N := 28) rfl ?_); refine Kd.R_lit Kd.string _ 9 ?hg (N := 28) ?hd (xs := ([(⟨#[115, 117, 98]⟩ : ByteArray)] : List ByteArray)) (inner := [.string (⟨#[115, 117, 98]⟩ : ByteArray)]) (ok := fun _ => True) (okp := fun _ => True) ?hr ?hp (fun _ hk => hk) trivial (Below.refl _ _) (Nat.le_refl _) (by simp) ?_; (case hd => rfl); (case hg => rfl); (case hr => first | (go_simp; done) | (go_simp; rfl)); (case hp => exact (Reps.one (show Kd.M Kd.string _ _ _ (⟨#[115, 117, 98]⟩ : ByteArray) [.string (⟨#[115, 117, 98]⟩ : ByteArray)] from rfl) (Reps.none _ _))); intro v346 w20 ho21 hb hg_ hnew_; clear hg_ hnew_; (first | rw [← Ny345.out] at ho21 | (simp only [Int.reduceToNat] at ho21; rw [← Ny345.out] at ho21)); have n0_ := aM (Kd.V_elder' (by (with_reducible repeat (first | apply Kd.V_alloc | apply Kd.V_drewN | apply Kd.V_drew)); exact HO0_2.out) (Kd.R_base ho21) hb); have n1_ := aM (Kd.V_elder' (by (with_reducible repeat (first | apply Kd.V_alloc | apply Kd.V_drewN | apply Kd.V_drew)); exact HO0_3.out) (Kd.R_base ho21) hb); have n2_ := aM (Kd.V_elder' (by (with_reducible repeat (first | apply Kd.V_alloc | apply Kd.V_drewN | apply Kd.V_drew)); exact HO0_4.out) (Kd.R_base ho21) hb); have n3_ := aM (Kd.V_elder' (by (with_reducible repeat (first | apply Kd.V_alloc | apply Kd.V_drewN | apply Kd.V_drew)); exact HO0_5.out) (Kd.R_base ho21) hb); have n4_ := aM (Kd.R_lower (Kd.R_newM (M := fun k_ => (w.heap.size ≤ k_)) ho21 (below_size (by repeat (first | (with_reducible first | exact HB.out | apply bA | apply bN | apply bD | refine below_set ?_ GE335.out) | exact HB.out))) (fun k_ h_ => h_)) (below_size (by repeat (first | (with_reducible first | exact HB.out | apply bA | apply bN | apply bD | refine below_set ?_ GE335.out) | exact HB.out)))); have n5_ := aM (blk_below (g := gb335) (o := .cells #[.int .i64 a0_0, .string a0_1, .slice A0_2 l0_2.length c0_2, .slice A0_3 l0_3.length c0_3, .slice A0_4 l0_4.length c0_4, .slice A0_5 l0_5.length c0_5, .int .i64 a0_6] 39 (0, 0)) (by (with_reducible repeat (first | refine blk_drewN ?_ _ | refine blk_drew ?_ | refine blk_alloc ?_ _)); exact BK335.out) hb); have n6_ := aM (below_step (by repeat (first | (with_reducible first | exact HB.out | apply bA | apply bN | apply bD | refine below_set ?_ GE335.out) | exact HB.out)) hb); clear HO0_2; clear HO0_3; clear HO0_4; clear HO0_5; clear BK335; clear HB; have HO0_2 := n0_; have HO0_3 := n1_; have HO0_4 := n2_; have HO0_5 := n3_; have HO347 := n4_; have BK335 := n5_; have HB := n6_; clear n0_ n1_ n2_ n3_ n4_ n5_ n6_; clear hb ho21; obtain ⟨hcz22_0, hcz22_1, hcz22_2, hcz22_3, hcz22_4, hcz22_5, hcz22_6⟩ := cl7 BK335.out; obtain ⟨hfz22_0, hfz22_1, hfz22_2, hfz22_3, hfz22_4, hfz22_5⟩ := fz6 BK335.out; have hfz22_6 := blk_frozen BK335.out 6) | ((with_reducible refine gate_dst (N := 31) rfl ?_); refine Kd.R_lit Kd.string _ 9 ?hg (N := 31) ?hd (xs := ([(⟨#[98, 121]⟩ : ByteArray)] : List ByteArray)) (inner := [.string (⟨#[98, 121]⟩ : ByteArray)]) (ok := fun _ => True) (okp := fun _ => True) ?hr ?hp (fun _ hk => hk) trivial (Below.refl _ _) (Nat.le_refl _) (by simp) ?_; (case hd => rfl); (case hg => rfl); (case hr => first | (go_simp; done) | (go_simp; rfl)); (case hp => exact (Reps.one (show Kd.M Kd.string _ _ _ (⟨#[98, 121]⟩ : ByteArray) [.string (⟨#[98, 121]⟩ : ByteArray)] from rfl) (Reps.none _ _))); intro v349 w23 ho24 hb hg_ hnew_; clear hg_ hnew_; (first | rw [← Ny348.out] at ho24 | (simp only [Int.reduceToNat] at ho24; rw [← Ny348.out] at ho24)); have n0_ := aM (Kd.V_elder' (by (with_reducible repeat (first | apply Kd.V_alloc | apply Kd.V_drewN | apply Kd.V_drew)); exact HO0_2.out) (Kd.R_base ho24) hb); have n1_ := aM (Kd.V_elder' (by (with_reducible repeat (first | apply Kd.V_alloc | apply Kd.V_drewN | apply Kd.V_drew)); exact HO0_3.out) (Kd.R_base ho24) hb); have n2_ := aM (Kd.V_elder' (by (with_reducible repeat (first | apply Kd.V_alloc | apply Kd.V_drewN | apply Kd.V_drew)); exact HO0_4.out) (Kd.R_base ho24) hb); have n3_ := aM (Kd.V_elder' (by (with_reducible repeat (first | apply Kd.V_alloc | apply Kd.V_drewN | apply Kd.V_drew)); exact HO0_5.out) (Kd.R_base ho24) hb); have n4_ := aM (Kd.R_elder' (by (with_reducible repeat (first | apply rA | apply rN | apply rD)); exact HO347.out) (Kd.R_base ho24) hb); have n5_ := aM (Kd.R_lower (Kd.R_new' (Kd.R_newM (M := fun k_ => (w.heap.size ≤ k_)) ho24 (below_size (by repeat (first | (with_reducible first | exact HB.out | apply bA | apply bN | apply bD | refine below_set ?_ GE335.out) | exact HB.out))) (fun k_ h_ => h_)) (Kd.R_lt (by (with_reducible repeat (first | apply rA | apply rN | apply rD)); exact HO347.out))) (below_size (by repeat (first | (with_reducible first | exact HB.out | apply bA | apply bN | apply bD | refine below_set ?_ GE335.out) | exact HB.out)))); have n6_ := aM (blk_below (g := gb335) (o := .cells #[.int .i64 a0_0, .string a0_1, .slice A0_2 l0_2.length c0_2, .slice A0_3 l0_3.length c0_3, .slice A0_4 l0_4.length c0_4, .slice A0_5 l0_5.length c0_5, .int .i64 a0_6] 39 (0, 0)) (by (with_reducible repeat (first | refine blk_drewN ?_ _ | refine blk_drew ?_ | refine blk_alloc ?_ _)); exact BK335.out) hb); have n7_ := aM (below_step (by repeat (first | (with_reducible first | exact HB.out | apply bA | apply bN | apply bD | refine below_set ?_ GE335.out) | exact HB.out)) hb); clear HO0_2; clear HO0_3; clear HO0_4; clear HO0_5; clear HO347; clear BK335; clear HB; have HO0_2 := n0_; have HO0_3 := n1_; have HO0_4 := n2_; have HO0_5 := n3_; have HO347 := n4_; have HO350 := n5_; have BK335 := n6_; have HB := n7_; clear n0_ n1_ n2_ n3_ n4_ n5_ n6_ n7_; clear hb ho24; obtain ⟨hcz25_0, hcz25_1, hcz25_2, hcz25_3, hcz25_4, hcz25_5, hcz25_6⟩ := cl7 BK335.out; obtain ⟨hfz25_0, hfz25_1, hfz25_2, hfz25_3, hfz25_4, hfz25_5, hfz25_6⟩ := fz7 BK335.out; obtain ⟨Ao26, co26, eo26⟩ := Kd.R_slice HO347.out; subst eo26; obtain ⟨Ao27, co27, eo27⟩ := Kd.R_slice HO350.out; subst eo27) | ((with_reducible refine gate_dst (N := 34) rfl ?_); refine Kd.N_lit (Kd.slice 9 Kd.string) _ 34 ?hg (N' := 34) ?hd (xs := ([y345, l0_3, y348, l0_5] : List (List ByteArray))) (inner := [.slice Ao26 y345.length co26, .slice A0_3 l0_3.length c0_3, .slice Ao27 y348.length co27, .slice A0_5 l0_5.length c0_5]) (ok := (fun k_ => ((P0_2_ k_ ∨ P0_3_ k_ ∨ P0_4_ k_ ∨ P0_5_ k_) ∨ w.heap.size ≤ k_) ∧ k_ ≠ gb335)) (okp := (fun k_ => ((P0_2_ k_ ∨ P0_3_ k_ ∨ P0_4_ k_ ∨ P0_5_ k_) ∨ w.heap.size ≤ k_) ∧ k_ ≠ gb335)) ?hr ?hp (fun _ hk => hk) ((show ∀ k_, w23.heap.size ≤ k_ → (fun k_ => ((P0_2_ k_ ∨ P0_3_ k_ ∨ P0_4_ k_ ∨ P0_5_ k_) ∨ w.heap.size ≤ k_) ∧ k_ ≠ gb335) k_ from fun k_ hk => ⟨(.inr (Nat.le_trans (below_size (by repeat (first | (with_reducible first | exact HB.out | apply bA | apply bN | apply bD | refine below_set ?_ GE335.out) | exact HB.out))) hk)), Kd.freshB (g := gb335) (o := .cells #[.int .i64 a0_0, .string a0_1, .slice A0_2 l0_2.length c0_2, .slice A0_3 l0_3.length c0_3, .slice A0_4 l0_4.length c0_4, .slice A0_5 l0_5.length c0_5, .int .i64 a0_6] 39 (0, 0)) (by (with_reducible repeat (first | refine blk_drewN ?_ _ | refine blk_drew ?_ | refine blk_alloc ?_ _)); exact BK335.out) k_ hk⟩) _ (Nat.le_refl _)) (Below.refl _ _) (Nat.le_refl _) (by simp) ?_; (case hd => rfl); (case hg => rfl); (case hr => first | (go_simp; done) | (go_simp; rfl)); (case hp => exact (Reps.one (show Kd.FK (Kd.slice 9 Kd.string) _ _ y345 [.slice Ao26 y345.length co26] from (Kd.FK_slice_mk (Kd.R_reads' (Kd.R_mono (ok' := (fun k_ => ((P0_2_ k_ ∨ P0_3_ k_ ∨ P0_4_ k_ ∨ P0_5_ k_) ∨ w.heap.size ≤ k_) ∧ k_ ≠ gb335)) (Kd.R_types (HO347.out) BK335.out (by decide)) (fun k_ hk => ⟨(.inr (hk.1.1.1)), hk.2⟩))).2.1 (Kd.R_F (Kd.R_mono (ok' := (fun k_ => ((P0_2_ k_ ∨ P0_3_ k_ ∨ P0_4_ k_ ∨ P0_5_ k_) ∨ w.heap.size ≤ k_) ∧ k_ ≠ gb335)) (Kd.R_types (HO347.out) BK335.out (by decide)) (fun k_ hk => ⟨(.inr (hk.1.1.1)), hk.2⟩))))) (Reps.one (show Kd.FK (Kd.slice 9 Kd.string) _ _ l0_3 [.slice A0_3 l0_3.length c0_3] from (Kd.FK_slice_mk (Kd.V_reads' (Kd.V_mono (ok' := (fun k_ => ((P0_2_ k_ ∨ P0_3_ k_ ∨ P0_4_ k_ ∨ P0_5_ k_) ∨ w.heap.size ≤ k_) ∧ k_ ≠ gb335)) (HO0_3.out) (fun k_ hk => ⟨hk.1.1.1, hk.1.1.2⟩))).2.1 (Kd.V_F (Kd.V_mono (ok' := (fun k_ => ((P0_2_ k_ ∨ P0_3_ k_ ∨ P0_4_ k_ ∨ P0_5_ k_) ∨ w.heap.size ≤ k_) ∧ k_ ≠ gb335)) (HO0_3.out) (fun k_ hk => ⟨hk.1.1.1, hk.1.1.2⟩))))) (Reps.one (show Kd.FK (Kd.slice 9 Kd.string) _ _ y348 [.slice Ao27 y348.length co27] from (Kd.FK_slice_mk (Kd.R_reads' (Kd.R_mono (ok' := (fun k_ => ((P0_2_ k_ ∨ P0_3_ k_ ∨ P0_4_ k_ ∨ P0_5_ k_) ∨ w.heap.size ≤ k_) ∧ k_ ≠ gb335)) (Kd.R_types (HO350.out) BK335.out (by decide)) (fun k_ hk => ⟨(.inr (hk.1.1.1)), hk.2⟩))).2.1 (Kd.R_F (Kd.R_mono (ok' := (fun k_ => ((P0_2_ k_ ∨ P0_3_ k_ ∨ P0_4_ k_ ∨ P0_5_ k_) ∨ w.heap.size ≤ k_) ∧ k_ ≠ gb335)) (Kd.R_types (HO350.out) BK335.out (by decide)) (fun k_ hk => ⟨(.inr (hk.1.1.1)), hk.2⟩))))) (Reps.one (show Kd.FK (Kd.slice 9 Kd.string) _ _ l0_5 [.slice A0_5 l0_5.length c0_5] from (Kd.FK_slice_mk (Kd.V_reads' (Kd.V_mono (ok' := (fun k_ => ((P0_2_ k_ ∨ P0_3_ k_ ∨ P0_4_ k_ ∨ P0_5_ k_) ∨ w.heap.size ≤ k_) ∧ k_ ≠ gb335)) (HO0_5.out) (fun k_ hk => ⟨hk.1.1.1, hk.1.1.2⟩))).2.1 (Kd.V_F (Kd.V_mono (ok' := (fun k_ => ((P0_2_ k_ ∨ P0_3_ k_ ∨ P0_4_ k_ ∨ P0_5_ k_) ∨ w.heap.size ≤ k_) ∧ k_ ≠ gb335)) (HO0_5.out) (fun k_ hk => ⟨hk.1.1.1, hk.1.1.2⟩))))) (Reps.none _ _)))))); intro v352 w28 ho29 hb hg_ hnew_; clear hg_ hnew_; (first | rw [← Ny351.out] at ho29 | (simp only [Int.reduceToNat] at ho29; rw [← Ny351.out] at ho29)); have n0_ := aM (Kd.V_elder' (by (with_reducible repeat (first | apply Kd.V_alloc | apply Kd.V_drewN | apply Kd.V_drew)); exact HO0_2.out) (Kd.N_base ho29) hb); have n1_ := aM (Kd.V_elder' (by (with_reducible repeat (first | apply Kd.V_alloc | apply Kd.V_drewN | apply Kd.V_drew)); exact HO0_3.out) (Kd.N_base ho29) hb); have n2_ := aM (Kd.V_elder' (by (with_reducible repeat (first | apply Kd.V_alloc | apply Kd.V_drewN | apply Kd.V_drew)); exact HO0_4.out) (Kd.N_base ho29) hb); have n3_ := aM (Kd.V_elder' (by (with_reducible repeat (first | apply Kd.V_alloc | apply Kd.V_drewN | apply Kd.V_drew)); exact HO0_5.out) (Kd.N_base ho29) hb); have n4_ := aM (Kd.N_lower ho29 (below_size (by repeat (first | (with_reducible first | exact HB.out | apply bA | apply bN | apply bD | refine below_set ?_ GE335.out) | exact HB.out)))); have n5_ := aM (blk_below (g := gb335) (o := .cells #[.int .i64 a0_0, .string a0_1, .slice A0_2 l0_2.length c0_2, .slice A0_3 l0_3.length c0_3, .slice A0_4 l0_4.length c0_4, .slice A0_5 l0_5.length c0_5, .int .i64 a0_6] 39 (0, 0)) (by (with_reducible repeat (first | refine blk_drewN ?_ _ | refine blk_drew ?_ | refine blk_alloc ?_ _)); exact BK335.out) hb); have n6_ := aM (below_step (by repeat (first | (with_reducible first | exact HB.out | apply bA | apply bN | apply bD | refine below_set ?_ GE335.out) | exact HB.out)) hb); clear HO0_2; clear HO0_3; clear HO0_4; clear HO0_5; clear BK335; clear HB; clear HO347; clear HO350; have HO0_2 := n0_; have HO0_3 := n1_; have HO0_4 := n2_; have HO0_5 := n3_; have HO353 := n4_; have BK335 := n5_; have HB := n6_; clear n0_ n1_ n2_ n3_ n4_ n5_ n6_; clear hb ho29; obtain ⟨Ao30, co30, eo30⟩ := Kd.N_slice HO353.out; subst eo30) | ((with_reducible refine gate_callee (f := 44) rfl ?_); refine goesL_ (some 35) rfl rfl Try.func44 (by kernel_rfl) rfl #[.slice Ao30 y351.length co30] rfl gQ ?_; (with_reducible refine (slices_Concat_string_string.calls k _ _ y351 t354 _ ?side1 ?side2 A17.out).mono ?_); (case side1 => repeat (first | exact (Kd.N_reads' HO353.out).2.2 | (with_reducible first | refine cA ?_ _ | refine cN ?_ _ | refine cD ?_))); (case side2 => exact (Kd.N_reads' HO353.out).2.1); rintro e w31 ⟨v355, rfl, ho0, hb⟩; refine ⟨_, rfl, ?_⟩; have n0_ := aM (Kd.V_elder' (by (with_reducible repeat (first | apply Kd.V_alloc | apply Kd.V_drewN | apply Kd.V_drew)); exact HO0_2.out) (Kd.R_base ho0) hb); have n1_ := aM (Kd.V_elder' (by (with_reducible repeat (first | apply Kd.V_alloc | apply Kd.V_drewN | apply Kd.V_drew)); exact HO0_3.out) (Kd.R_base ho0) hb); have n2_ := aM (Kd.V_elder' (by (with_reducible repeat (first | apply Kd.V_alloc | apply Kd.V_drewN | apply Kd.V_drew)); exact HO0_4.out) (Kd.R_base ho0) hb); have n3_ := aM (Kd.V_elder' (by (with_reducible repeat (first | apply Kd.V_alloc | apply Kd.V_drewN | apply Kd.V_drew)); exact HO0_5.out) (Kd.R_base ho0) hb); have n4_ := aM (Kd.N_elder' (by (with_reducible repeat (first | apply Kd.N_alloc | apply Kd.N_drewN | apply Kd.N_drew)); exact HO353.out) (Kd.R_base ho0) hb); have n5_ := aM (Kd.R_lower (Kd.R_newM (M := fun k_ => (w.heap.size ≤ k_)) ho0 (below_size (by repeat (first | (with_reducible first | exact HB.out | apply bA | apply bN | apply bD | refine below_set ?_ GE335.out) | exact HB.out))) (fun k_ h_ => h_)) (below_size (by repeat (first | (with_reducible first | exact HB.out | apply bA | apply bN | apply bD | refine below_set ?_ GE335.out) | exact HB.out)))); have n6_ := aM (blk_below (g := gb335) (o := .cells #[.int .i64 a0_0, .string a0_1, .slice A0_2 l0_2.length c0_2, .slice A0_3 l0_3.length c0_3, .slice A0_4 l0_4.length c0_4, .slice A0_5 l0_5.length c0_5, .int .i64 a0_6] 39 (0, 0)) (by (with_reducible repeat (first | refine blk_drewN ?_ _ | refine blk_drew ?_ | refine blk_alloc ?_ _)); exact BK335.out) hb); have n7_ := aM (below_step (by repeat (first | (with_reducible first | exact HB.out | apply bA | apply bN | apply bD | refine below_set ?_ GE335.out) | exact HB.out)) hb); clear HO0_2; clear HO0_3; clear HO0_4; clear HO0_5; clear HO353; clear BK335; clear HB; have HO0_2 := n0_; have HO0_3 := n1_; have HO0_4 := n2_; have HO0_5 := n3_; have HO353 := n4_; have HO356 := n5_; have BK335 := n6_; have HB := n7_; clear n0_ n1_ n2_ n3_ n4_ n5_ n6_ n7_; (try clear hb); (try clear hb2); (try clear hk); (try clear hi); (try clear ho0)))
     go_ret
     exact ⟨_, eQ, by (with_reducible repeat (first | apply rA | apply rN | apply rD)); exact Kd.R_mono HO356.out (fun _ hk => hk.1), by repeat (first | (with_reducible first | exact HB.out | apply bA | apply bN | apply bD | refine below_set ?_ GE335.out) | exact HB.out)⟩
    ·rw [if_neg c16] at H
     have c16b0 : ((wrap64 ((l0_2.length : Int) + (l0_4.length : Int))) == 0) = false := beq_eq_false_iff_ne.mpr c16
     have c16b1 : ((wrap64 ((l0_2.length : Int) + (l0_4.length : Int))) != 0) = true := bne_iff_ne.mpr c16
     obtain ⟨y357, hy357⟩ : ∃ y_ : List ByteArray, y_ = (([(⟨#[115, 117, 98]⟩ : ByteArray)] : List ByteArray)) := ⟨_, rfl⟩
     replace H : ((slices_Concat_string_string.f k (([y357, l0_2, (([(⟨#[124]⟩ : ByteArray)] : List ByteArray)), l0_3, (([(⟨#[124]⟩ : ByteArray)] : List ByteArray)), l0_4, (([(⟨#[98, 121]⟩ : ByteArray)] : List ByteArray)), l0_5] : List (List ByteArray)))).bind fun t372 => (some t372)) = some r := by first | (rw [hy357]; with_reducible exact H) | (have H2_ := bS H; rw [hy357]; with_reducible exact H2_) | (have H2_ := bS H; with_reducible exact H2_) | with_reducible exact H | (rw [hy357]; exact H) | exact H
     have Ny357 := aM hy357
     clear hy357
     obtain ⟨y360, hy360⟩ : ∃ y_ : List ByteArray, y_ = (([(⟨#[124]⟩ : ByteArray)] : List ByteArray)) := ⟨_, rfl⟩
     replace H : ((slices_Concat_string_string.f k (([y357, l0_2, y360, l0_3, (([(⟨#[124]⟩ : ByteArray)] : List ByteArray)), l0_4, (([(⟨#[98, 121]⟩ : ByteArray)] : List ByteArray)), l0_5] : List (List ByteArray)))).bind fun t372 => (some t372)) = some r := by first | (rw [hy360]; with_reducible exact H) | (have H2_ := bS H; rw [hy360]; with_reducible exact H2_) | (have H2_ := bS H; with_reducible exact H2_) | with_reducible exact H | (rw [hy360]; exact H) | exact H
     have Ny360 := aM hy360
     clear hy360
     obtain ⟨y363, hy363⟩ : ∃ y_ : List ByteArray, y_ = (([(⟨#[124]⟩ : ByteArray)] : List ByteArray)) := ⟨_, rfl⟩
     replace H : ((slices_Concat_string_string.f k (([y357, l0_2, y360, l0_3, y363, l0_4, (([(⟨#[98, 121]⟩ : ByteArray)] : List ByteArray)), l0_5] : List (List ByteArray)))).bind fun t372 => (some t372)) = some r := by first | (rw [hy363]; with_reducible exact H) | (have H2_ := bS H; rw [hy363]; with_reducible exact H2_) | (have H2_ := bS H; with_reducible exact H2_) | with_reducible exact H | (rw [hy363]; exact H) | exact H
     have Ny363 := aM hy363
     clear hy363
     obtain ⟨y366, hy366⟩ : ∃ y_ : List ByteArray, y_ = (([(⟨#[98, 121]⟩ : ByteArray)] : List ByteArray)) := ⟨_, rfl⟩
     replace H : ((slices_Concat_string_string.f k (([y357, l0_2, y360, l0_3, y363, l0_4, y366, l0_5] : List (List ByteArray)))).bind fun t372 => (some t372)) = some r := by first | (rw [hy366]; with_reducible exact H) | (have H2_ := bS H; rw [hy366]; with_reducible exact H2_) | (have H2_ := bS H; with_reducible exact H2_) | with_reducible exact H | (rw [hy366]; exact H) | exact H
     have Ny366 := aM hy366
     clear hy366
     obtain ⟨y369, hy369⟩ : ∃ y_ : List (List ByteArray), y_ = (([y357, l0_2, y360, l0_3, y363, l0_4, y366, l0_5] : List (List ByteArray))) := ⟨_, rfl⟩
     replace H : ((slices_Concat_string_string.f k y369).bind fun t372 => (some t372)) = some r := by first | (rw [hy369]; with_reducible exact H) | (have H2_ := bS H; rw [hy369]; with_reducible exact H2_) | (have H2_ := bS H; with_reducible exact H2_) | with_reducible exact H | (rw [hy369]; exact H) | exact H
     have Ny369 := aM hy369
     clear hy369
     replace H := Option.bind_eq_some_iff.mp H
     obtain ⟨t372, A320, H⟩ := H
     replace H : (some t372) = some r := H
     have A32 := aM A320
     clear A320
     obtain rfl := Option.some.inj H
     go_enter Try.func38, Try.ntmps38
     go_wp2_with (first | ((with_reducible refine gate_dst (N := 1) rfl ?_); refine box_event ?hg (N := 1) ?hd (cs := #[.int .i64 a0_0, .string a0_1, .slice A0_2 l0_2.length c0_2, .slice A0_3 l0_3.length c0_3, .slice A0_4 l0_4.length c0_4, .slice A0_5 l0_5.length c0_5, .int .i64 a0_6]) (t := 39) ?hr ?_; (case hd => rfl); (case hg => rfl); (case hr => first | (go_simp; done) | (go_simp; rfl)); intro gb335 hg w33 hbox hb; have n0_ := aM (Kd.V_below (Kd.V_elderB (by (with_reducible repeat (first | apply Kd.V_alloc | apply Kd.V_drewN | apply Kd.V_drew)); exact HO0_2.out) gb335 (Nat.le_of_eq hg.symm)) hb); have n1_ := aM (Kd.V_below (Kd.V_elderB (by (with_reducible repeat (first | apply Kd.V_alloc | apply Kd.V_drewN | apply Kd.V_drew)); exact HO0_3.out) gb335 (Nat.le_of_eq hg.symm)) hb); have n2_ := aM (Kd.V_below (Kd.V_elderB (by (with_reducible repeat (first | apply Kd.V_alloc | apply Kd.V_drewN | apply Kd.V_drew)); exact HO0_4.out) gb335 (Nat.le_of_eq hg.symm)) hb); have n3_ := aM (Kd.V_below (Kd.V_elderB (by (with_reducible repeat (first | apply Kd.V_alloc | apply Kd.V_drewN | apply Kd.V_drew)); exact HO0_5.out) gb335 (Nat.le_of_eq hg.symm)) hb); have n4_ := aM (below_step bQ hb); have n5_ := aM (hbox); have n6_ := aM ((by rw [hg]; exact (below_size bQ) : w.heap.size ≤ gb335)); have n7_ := aM ((by rw [hg]; exact (below_size bQ) : w.heap.size ≤ gb335)); clear HO0_2; clear HO0_3; clear HO0_4; clear HO0_5; clear HB; have HO0_2 := n0_; have HO0_3 := n1_; have HO0_4 := n2_; have HO0_5 := n3_; have HB := n4_; have BK335 := n5_; have GW335 := n6_; have GE335 := n7_; clear n0_ n1_ n2_ n3_ n4_ n5_ n6_ n7_; clear hb hbox hg; obtain ⟨hcz34_0, hcz34_1, hcz34_2, hcz34_3, hcz34_4, hcz34_5, hcz34_6⟩ := cl7 BK335.out; obtain ⟨hfz34_0, hfz34_1, hfz34_2, hfz34_3, hfz34_4, hfz34_5⟩ := fz6 BK335.out; have hfz34_6 := blk_frozen BK335.out 6) | ((with_reducible refine gate_dst (N := 36) rfl ?_); refine Kd.R_lit Kd.string _ 9 ?hg (N := 36) ?hd (xs := ([(⟨#[115, 117, 98]⟩ : ByteArray)] : List ByteArray)) (inner := [.string (⟨#[115, 117, 98]⟩ : ByteArray)]) (ok := fun _ => True) (okp := fun _ => True) ?hr ?hp (fun _ hk => hk) trivial (Below.refl _ _) (Nat.le_refl _) (by simp) ?_; (case hd => rfl); (case hg => rfl); (case hr => first | (go_simp; done) | (go_simp; rfl)); (case hp => exact (Reps.one (show Kd.M Kd.string _ _ _ (⟨#[115, 117, 98]⟩ : ByteArray) [.string (⟨#[115, 117, 98]⟩ : ByteArray)] from rfl) (Reps.none _ _))); intro v358 w35 ho36 hb hg_ hnew_; clear hg_ hnew_; (first | rw [← Ny357.out] at ho36 | (simp only [Int.reduceToNat] at ho36; rw [← Ny357.out] at ho36)); have n0_ := aM (Kd.V_elder' (by (with_reducible repeat (first | apply Kd.V_alloc | apply Kd.V_drewN | apply Kd.V_drew)); exact HO0_2.out) (Kd.R_base ho36) hb); have n1_ := aM (Kd.V_elder' (by (with_reducible repeat (first | apply Kd.V_alloc | apply Kd.V_drewN | apply Kd.V_drew)); exact HO0_3.out) (Kd.R_base ho36) hb); have n2_ := aM (Kd.V_elder' (by (with_reducible repeat (first | apply Kd.V_alloc | apply Kd.V_drewN | apply Kd.V_drew)); exact HO0_4.out) (Kd.R_base ho36) hb); have n3_ := aM (Kd.V_elder' (by (with_reducible repeat (first | apply Kd.V_alloc | apply Kd.V_drewN | apply Kd.V_drew)); exact HO0_5.out) (Kd.R_base ho36) hb); have n4_ := aM (Kd.R_lower (Kd.R_newM (M := fun k_ => (w.heap.size ≤ k_)) ho36 (below_size (by repeat (first | (with_reducible first | exact HB.out | apply bA | apply bN | apply bD | refine below_set ?_ GE335.out) | exact HB.out))) (fun k_ h_ => h_)) (below_size (by repeat (first | (with_reducible first | exact HB.out | apply bA | apply bN | apply bD | refine below_set ?_ GE335.out) | exact HB.out)))); have n5_ := aM (blk_below (g := gb335) (o := .cells #[.int .i64 a0_0, .string a0_1, .slice A0_2 l0_2.length c0_2, .slice A0_3 l0_3.length c0_3, .slice A0_4 l0_4.length c0_4, .slice A0_5 l0_5.length c0_5, .int .i64 a0_6] 39 (0, 0)) (by (with_reducible repeat (first | refine blk_drewN ?_ _ | refine blk_drew ?_ | refine blk_alloc ?_ _)); exact BK335.out) hb); have n6_ := aM (below_step (by repeat (first | (with_reducible first | exact HB.out | apply bA | apply bN | apply bD | refine below_set ?_ GE335.out) | exact HB.out)) hb); clear HO0_2; clear HO0_3; clear HO0_4; clear HO0_5; clear BK335; clear HB; have HO0_2 := n0_; have HO0_3 := n1_; have HO0_4 := n2_; have HO0_5 := n3_; have HO359 := n4_; have BK335 := n5_; have HB := n6_; clear n0_ n1_ n2_ n3_ n4_ n5_ n6_; clear hb ho36; obtain ⟨hcz37_0, hcz37_1, hcz37_2, hcz37_3, hcz37_4, hcz37_5, hcz37_6⟩ := cl7 BK335.out; obtain ⟨hfz37_0, hfz37_1, hfz37_2, hfz37_3, hfz37_4, hfz37_5⟩ := fz6 BK335.out; have hfz37_6 := blk_frozen BK335.out 6) | ((with_reducible refine gate_dst (N := 39) rfl ?_); refine Kd.R_lit Kd.string _ 9 ?hg (N := 39) ?hd (xs := ([(⟨#[124]⟩ : ByteArray)] : List ByteArray)) (inner := [.string (⟨#[124]⟩ : ByteArray)]) (ok := fun _ => True) (okp := fun _ => True) ?hr ?hp (fun _ hk => hk) trivial (Below.refl _ _) (Nat.le_refl _) (by simp) ?_; (case hd => rfl); (case hg => rfl); (case hr => first | (go_simp; done) | (go_simp; rfl)); (case hp => exact (Reps.one (show Kd.M Kd.string _ _ _ (⟨#[124]⟩ : ByteArray) [.string (⟨#[124]⟩ : ByteArray)] from rfl) (Reps.none _ _))); intro v361 w38 ho39 hb hg_ hnew_; clear hg_ hnew_; (first | rw [← Ny360.out] at ho39 | (simp only [Int.reduceToNat] at ho39; rw [← Ny360.out] at ho39)); have n0_ := aM (Kd.V_elder' (by (with_reducible repeat (first | apply Kd.V_alloc | apply Kd.V_drewN | apply Kd.V_drew)); exact HO0_2.out) (Kd.R_base ho39) hb); have n1_ := aM (Kd.V_elder' (by (with_reducible repeat (first | apply Kd.V_alloc | apply Kd.V_drewN | apply Kd.V_drew)); exact HO0_3.out) (Kd.R_base ho39) hb); have n2_ := aM (Kd.V_elder' (by (with_reducible repeat (first | apply Kd.V_alloc | apply Kd.V_drewN | apply Kd.V_drew)); exact HO0_4.out) (Kd.R_base ho39) hb); have n3_ := aM (Kd.V_elder' (by (with_reducible repeat (first | apply Kd.V_alloc | apply Kd.V_drewN | apply Kd.V_drew)); exact HO0_5.out) (Kd.R_base ho39) hb); have n4_ := aM (Kd.R_elder' (by (with_reducible repeat (first | apply rA | apply rN | apply rD)); exact HO359.out) (Kd.R_base ho39) hb); have n5_ := aM (Kd.R_lower (Kd.R_new' (Kd.R_newM (M := fun k_ => (w.heap.size ≤ k_)) ho39 (below_size (by repeat (first | (with_reducible first | exact HB.out | apply bA | apply bN | apply bD | refine below_set ?_ GE335.out) | exact HB.out))) (fun k_ h_ => h_)) (Kd.R_lt (by (with_reducible repeat (first | apply rA | apply rN | apply rD)); exact HO359.out))) (below_size (by repeat (first | (with_reducible first | exact HB.out | apply bA | apply bN | apply bD | refine below_set ?_ GE335.out) | exact HB.out)))); have n6_ := aM (blk_below (g := gb335) (o := .cells #[.int .i64 a0_0, .string a0_1, .slice A0_2 l0_2.length c0_2, .slice A0_3 l0_3.length c0_3, .slice A0_4 l0_4.length c0_4, .slice A0_5 l0_5.length c0_5, .int .i64 a0_6] 39 (0, 0)) (by (with_reducible repeat (first | refine blk_drewN ?_ _ | refine blk_drew ?_ | refine blk_alloc ?_ _)); exact BK335.out) hb); have n7_ := aM (below_step (by repeat (first | (with_reducible first | exact HB.out | apply bA | apply bN | apply bD | refine below_set ?_ GE335.out) | exact HB.out)) hb); clear HO0_2; clear HO0_3; clear HO0_4; clear HO0_5; clear HO359; clear BK335; clear HB; have HO0_2 := n0_; have HO0_3 := n1_; have HO0_4 := n2_; have HO0_5 := n3_; have HO359 := n4_; have HO362 := n5_; have BK335 := n6_; have HB := n7_; clear n0_ n1_ n2_ n3_ n4_ n5_ n6_ n7_; clear hb ho39; obtain ⟨hcz40_0, hcz40_1, hcz40_2, hcz40_3, hcz40_4, hcz40_5, hcz40_6⟩ := cl7 BK335.out; obtain ⟨hfz40_0, hfz40_1, hfz40_2, hfz40_3, hfz40_4, hfz40_5⟩ := fz6 BK335.out; have hfz40_6 := blk_frozen BK335.out 6) | ((with_reducible refine gate_dst (N := 42) rfl ?_); refine Kd.R_lit Kd.string _ 9 ?hg (N := 42) ?hd (xs := ([(⟨#[124]⟩ : ByteArray)] : List ByteArray)) (inner := [.string (⟨#[124]⟩ : ByteArray)]) (ok := fun _ => True) (okp := fun _ => True) ?hr ?hp (fun _ hk => hk) trivial (Below.refl _ _) (Nat.le_refl _) (by simp) ?_; (case hd => rfl); (case hg => rfl); (case hr => first | (go_simp; done) | (go_simp; rfl)); (case hp => exact (Reps.one (show Kd.M Kd.string _ _ _ (⟨#[124]⟩ : ByteArray) [.string (⟨#[124]⟩ : ByteArray)] from rfl) (Reps.none _ _))); intro v364 w41 ho42 hb hg_ hnew_; clear hg_ hnew_; (first | rw [← Ny363.out] at ho42 | (simp only [Int.reduceToNat] at ho42; rw [← Ny363.out] at ho42)); have n0_ := aM (Kd.V_elder' (by (with_reducible repeat (first | apply Kd.V_alloc | apply Kd.V_drewN | apply Kd.V_drew)); exact HO0_2.out) (Kd.R_base ho42) hb); have n1_ := aM (Kd.V_elder' (by (with_reducible repeat (first | apply Kd.V_alloc | apply Kd.V_drewN | apply Kd.V_drew)); exact HO0_3.out) (Kd.R_base ho42) hb); have n2_ := aM (Kd.V_elder' (by (with_reducible repeat (first | apply Kd.V_alloc | apply Kd.V_drewN | apply Kd.V_drew)); exact HO0_4.out) (Kd.R_base ho42) hb); have n3_ := aM (Kd.V_elder' (by (with_reducible repeat (first | apply Kd.V_alloc | apply Kd.V_drewN | apply Kd.V_drew)); exact HO0_5.out) (Kd.R_base ho42) hb); have n4_ := aM (Kd.R_elder' (by (with_reducible repeat (first | apply rA | apply rN | apply rD)); exact HO359.out) (Kd.R_base ho42) hb); have n5_ := aM (Kd.R_elder' (by (with_reducible repeat (first | apply rA | apply rN | apply rD)); exact HO362.out) (Kd.R_base ho42) hb); have n6_ := aM (Kd.R_lower (Kd.R_new' (Kd.R_new' (Kd.R_newM (M := fun k_ => (w.heap.size ≤ k_)) ho42 (below_size (by repeat (first | (with_reducible first | exact HB.out | apply bA | apply bN | apply bD | refine below_set ?_ GE335.out) | exact HB.out))) (fun k_ h_ => h_)) (Kd.R_lt (by (with_reducible repeat (first | apply rA | apply rN | apply rD)); exact HO359.out))) (Kd.R_lt (by (with_reducible repeat (first | apply rA | apply rN | apply rD)); exact HO362.out))) (below_size (by repeat (first | (with_reducible first | exact HB.out | apply bA | apply bN | apply bD | refine below_set ?_ GE335.out) | exact HB.out)))); have n7_ := aM (blk_below (g := gb335) (o := .cells #[.int .i64 a0_0, .string a0_1, .slice A0_2 l0_2.length c0_2, .slice A0_3 l0_3.length c0_3, .slice A0_4 l0_4.length c0_4, .slice A0_5 l0_5.length c0_5, .int .i64 a0_6] 39 (0, 0)) (by (with_reducible repeat (first | refine blk_drewN ?_ _ | refine blk_drew ?_ | refine blk_alloc ?_ _)); exact BK335.out) hb); have n8_ := aM (below_step (by repeat (first | (with_reducible first | exact HB.out | apply bA | apply bN | apply bD | refine below_set ?_ GE335.out) | exact HB.out)) hb); clear HO0_2; clear HO0_3; clear HO0_4; clear HO0_5; clear HO359; clear HO362; clear BK335; clear HB; have HO0_2 := n0_; have HO0_3 := n1_; have HO0_4 := n2_; have HO0_5 := n3_; have HO359 := n4_; have HO362 := n5_; have HO365 := n6_; have BK335 := n7_; have HB := n8_; clear n0_ n1_ n2_ n3_ n4_ n5_ n6_ n7_ n8_; clear hb ho42; obtain ⟨hcz43_0, hcz43_1, hcz43_2, hcz43_3, hcz43_4, hcz43_5, hcz43_6⟩ := cl7 BK335.out; obtain ⟨hfz43_0, hfz43_1, hfz43_2, hfz43_3, hfz43_4, hfz43_5⟩ := fz6 BK335.out; have hfz43_6 := blk_frozen BK335.out 6) | ((with_reducible refine gate_dst (N := 45) rfl ?_); refine Kd.R_lit Kd.string _ 9 ?hg (N := 45) ?hd (xs := ([(⟨#[98, 121]⟩ : ByteArray)] : List ByteArray)) (inner := [.string (⟨#[98, 121]⟩ : ByteArray)]) (ok := fun _ => True) (okp := fun _ => True) ?hr ?hp (fun _ hk => hk) trivial (Below.refl _ _) (Nat.le_refl _) (by simp) ?_; (case hd => rfl); (case hg => rfl); (case hr => first | (go_simp; done) | (go_simp; rfl)); (case hp => exact (Reps.one (show Kd.M Kd.string _ _ _ (⟨#[98, 121]⟩ : ByteArray) [.string (⟨#[98, 121]⟩ : ByteArray)] from rfl) (Reps.none _ _))); intro v367 w44 ho45 hb hg_ hnew_; clear hg_ hnew_; (first | rw [← Ny366.out] at ho45 | (simp only [Int.reduceToNat] at ho45; rw [← Ny366.out] at ho45)); have n0_ := aM (Kd.V_elder' (by (with_reducible repeat (first | apply Kd.V_alloc | apply Kd.V_drewN | apply Kd.V_drew)); exact HO0_2.out) (Kd.R_base ho45) hb); have n1_ := aM (Kd.V_elder' (by (with_reducible repeat (first | apply Kd.V_alloc | apply Kd.V_drewN | apply Kd.V_drew)); exact HO0_3.out) (Kd.R_base ho45) hb); have n2_ := aM (Kd.V_elder' (by (with_reducible repeat (first | apply Kd.V_alloc | apply Kd.V_drewN | apply Kd.V_drew)); exact HO0_4.out) (Kd.R_base ho45) hb); have n3_ := aM (Kd.V_elder' (by (with_reducible repeat (first | apply Kd.V_alloc | apply Kd.V_drewN | apply Kd.V_drew)); exact HO0_5.out) (Kd.R_base ho45) hb); have n4_ := aM (Kd.R_elder' (by (with_reducible repeat (first | apply rA | apply rN | apply rD)); exact HO359.out) (Kd.R_base ho45) hb); have n5_ := aM (Kd.R_elder' (by (with_reducible repeat (first | apply rA | apply rN | apply rD)); exact HO362.out) (Kd.R_base ho45) hb); have n6_ := aM (Kd.R_elder' (by (with_reducible repeat (first | apply rA | apply rN | apply rD)); exact HO365.out) (Kd.R_base ho45) hb); have n7_ := aM (Kd.R_lower (Kd.R_new' (Kd.R_new' (Kd.R_new' (Kd.R_newM (M := fun k_ => (w.heap.size ≤ k_)) ho45 (below_size (by repeat (first | (with_reducible first | exact HB.out | apply bA | apply bN | apply bD | refine below_set ?_ GE335.out) | exact HB.out))) (fun k_ h_ => h_)) (Kd.R_lt (by (with_reducible repeat (first | apply rA | apply rN | apply rD)); exact HO359.out))) (Kd.R_lt (by (with_reducible repeat (first | apply rA | apply rN | apply rD)); exact HO362.out))) (Kd.R_lt (by (with_reducible repeat (first | apply rA | apply rN | apply rD)); exact HO365.out))) (below_size (by repeat (first | (with_reducible first | exact HB.out | apply bA | apply bN | apply bD | refine below_set ?_ GE335.out) | exact HB.out)))); have n8_ := aM (blk_below (g := gb335) (o := .cells #[.int .i64 a0_0, .string a0_1, .slice A0_2 l0_2.length c0_2, .slice A0_3 l0_3.length c0_3, .slice A0_4 l0_4.length c0_4, .slice A0_5 l0_5.length c0_5, .int .i64 a0_6] 39 (0, 0)) (by (with_reducible repeat (first | refine blk_drewN ?_ _ | refine blk_drew ?_ | refine blk_alloc ?_ _)); exact BK335.out) hb); have n9_ := aM (below_step (by repeat (first | (with_reducible first | exact HB.out | apply bA | apply bN | apply bD | refine below_set ?_ GE335.out) | exact HB.out)) hb); clear HO0_2; clear HO0_3; clear HO0_4; clear HO0_5; clear HO359; clear HO362; clear HO365; clear BK335; clear HB; have HO0_2 := n0_; have HO0_3 := n1_; have HO0_4 := n2_; have HO0_5 := n3_; have HO359 := n4_; have HO362 := n5_; have HO365 := n6_; have HO368 := n7_; have BK335 := n8_; have HB := n9_; clear n0_ n1_ n2_ n3_ n4_ n5_ n6_ n7_ n8_ n9_; clear hb ho45; obtain ⟨hcz46_0, hcz46_1, hcz46_2, hcz46_3, hcz46_4, hcz46_5, hcz46_6⟩ := cl7 BK335.out; obtain ⟨hfz46_0, hfz46_1, hfz46_2, hfz46_3, hfz46_4, hfz46_5, hfz46_6⟩ := fz7 BK335.out; obtain ⟨Ao47, co47, eo47⟩ := Kd.R_slice HO359.out; subst eo47; obtain ⟨Ao48, co48, eo48⟩ := Kd.R_slice HO362.out; subst eo48; obtain ⟨Ao49, co49, eo49⟩ := Kd.R_slice HO365.out; subst eo49; obtain ⟨Ao50, co50, eo50⟩ := Kd.R_slice HO368.out; subst eo50) | ((with_reducible refine gate_dst (N := 48) rfl ?_); refine Kd.N_lit (Kd.slice 9 Kd.string) _ 34 ?hg (N' := 48) ?hd (xs := ([y357, l0_2, y360, l0_3, y363, l0_4, y366, l0_5] : List (List ByteArray))) (inner := [.slice Ao47 y357.length co47, .slice A0_2 l0_2.length c0_2, .slice Ao48 y360.length co48, .slice A0_3 l0_3.length c0_3, .slice Ao49 y363.length co49, .slice A0_4 l0_4.length c0_4, .slice Ao50 y366.length co50, .slice A0_5 l0_5.length c0_5]) (ok := (fun k_ => ((P0_2_ k_ ∨ P0_3_ k_ ∨ P0_4_ k_ ∨ P0_5_ k_) ∨ w.heap.size ≤ k_) ∧ k_ ≠ gb335)) (okp := (fun k_ => ((P0_2_ k_ ∨ P0_3_ k_ ∨ P0_4_ k_ ∨ P0_5_ k_) ∨ w.heap.size ≤ k_) ∧ k_ ≠ gb335)) ?hr ?hp (fun _ hk => hk) ((show ∀ k_, w44.heap.size ≤ k_ → (fun k_ => ((P0_2_ k_ ∨ P0_3_ k_ ∨ P0_4_ k_ ∨ P0_5_ k_) ∨ w.heap.size ≤ k_) ∧ k_ ≠ gb335) k_ from fun k_ hk => ⟨(.inr (Nat.le_trans (below_size (by repeat (first | (with_reducible first | exact HB.out | apply bA | apply bN | apply bD | refine below_set ?_ GE335.out) | exact HB.out))) hk)), Kd.freshB (g := gb335) (o := .cells #[.int .i64 a0_0, .string a0_1, .slice A0_2 l0_2.length c0_2, .slice A0_3 l0_3.length c0_3, .slice A0_4 l0_4.length c0_4, .slice A0_5 l0_5.length c0_5, .int .i64 a0_6] 39 (0, 0)) (by (with_reducible repeat (first | refine blk_drewN ?_ _ | refine blk_drew ?_ | refine blk_alloc ?_ _)); exact BK335.out) k_ hk⟩) _ (Nat.le_refl _)) (Below.refl _ _) (Nat.le_refl _) (by simp) ?_; (case hd => rfl); (case hg => rfl); (case hr => first | (go_simp; done) | (go_simp; rfl)); (case hp => exact (Reps.one (show Kd.FK (Kd.slice 9 Kd.string) _ _ y357 [.slice Ao47 y357.length co47] from (Kd.FK_slice_mk (Kd.R_reads' (Kd.R_mono (ok' := (fun k_ => ((P0_2_ k_ ∨ P0_3_ k_ ∨ P0_4_ k_ ∨ P0_5_ k_) ∨ w.heap.size ≤ k_) ∧ k_ ≠ gb335)) (Kd.R_types (HO359.out) BK335.out (by decide)) (fun k_ hk => ⟨(.inr (hk.1.1.1.1.1)), hk.2⟩))).2.1 (Kd.R_F (Kd.R_mono (ok' := (fun k_ => ((P0_2_ k_ ∨ P0_3_ k_ ∨ P0_4_ k_ ∨ P0_5_ k_) ∨ w.heap.size ≤ k_) ∧ k_ ≠ gb335)) (Kd.R_types (HO359.out) BK335.out (by decide)) (fun k_ hk => ⟨(.inr (hk.1.1.1.1.1)), hk.2⟩))))) (Reps.one (show Kd.FK (Kd.slice 9 Kd.string) _ _ l0_2 [.slice A0_2 l0_2.length c0_2] from (Kd.FK_slice_mk (Kd.V_reads' (Kd.V_mono (ok' := (fun k_ => ((P0_2_ k_ ∨ P0_3_ k_ ∨ P0_4_ k_ ∨ P0_5_ k_) ∨ w.heap.size ≤ k_) ∧ k_ ≠ gb335)) (HO0_2.out) (fun k_ hk => ⟨hk.1.1.1.1.1, hk.1.1.1.1.2⟩))).2.1 (Kd.V_F (Kd.V_mono (ok' := (fun k_ => ((P0_2_ k_ ∨ P0_3_ k_ ∨ P0_4_ k_ ∨ P0_5_ k_) ∨ w.heap.size ≤ k_) ∧ k_ ≠ gb335)) (HO0_2.out) (fun k_ hk => ⟨hk.1.1.1.1.1, hk.1.1.1.1.2⟩))))) (Reps.one (show Kd.FK (Kd.slice 9 Kd.string) _ _ y360 [.slice Ao48 y360.length co48] from (Kd.FK_slice_mk (Kd.R_reads' (Kd.R_mono (ok' := (fun k_ => ((P0_2_ k_ ∨ P0_3_ k_ ∨ P0_4_ k_ ∨ P0_5_ k_) ∨ w.heap.size ≤ k_) ∧ k_ ≠ gb335)) (Kd.R_types (HO362.out) BK335.out (by decide)) (fun k_ hk => ⟨(.inr (hk.1.1.1.1.1)), hk.2⟩))).2.1 (Kd.R_F (Kd.R_mono (ok' := (fun k_ => ((P0_2_ k_ ∨ P0_3_ k_ ∨ P0_4_ k_ ∨ P0_5_ k_) ∨ w.heap.size ≤ k_) ∧ k_ ≠ gb335)) (Kd.R_types (HO362.out) BK335.out (by decide)) (fun k_ hk => ⟨(.inr (hk.1.1.1.1.1)), hk.2⟩))))) (Reps.one (show Kd.FK (Kd.slice 9 Kd.string) _ _ l0_3 [.slice A0_3 l0_3.length c0_3] from (Kd.FK_slice_mk (Kd.V_reads' (Kd.V_mono (ok' := (fun k_ => ((P0_2_ k_ ∨ P0_3_ k_ ∨ P0_4_ k_ ∨ P0_5_ k_) ∨ w.heap.size ≤ k_) ∧ k_ ≠ gb335)) (HO0_3.out) (fun k_ hk => ⟨hk.1.1.1.1.1, hk.1.1.1.1.2⟩))).2.1 (Kd.V_F (Kd.V_mono (ok' := (fun k_ => ((P0_2_ k_ ∨ P0_3_ k_ ∨ P0_4_ k_ ∨ P0_5_ k_) ∨ w.heap.size ≤ k_) ∧ k_ ≠ gb335)) (HO0_3.out) (fun k_ hk => ⟨hk.1.1.1.1.1, hk.1.1.1.1.2⟩))))) (Reps.one (show Kd.FK (Kd.slice 9 Kd.string) _ _ y363 [.slice Ao49 y363.length co49] from (Kd.FK_slice_mk (Kd.R_reads' (Kd.R_mono (ok' := (fun k_ => ((P0_2_ k_ ∨ P0_3_ k_ ∨ P0_4_ k_ ∨ P0_5_ k_) ∨ w.heap.size ≤ k_) ∧ k_ ≠ gb335)) (Kd.R_types (HO365.out) BK335.out (by decide)) (fun k_ hk => ⟨(.inr (hk.1.1.1.1.1)), hk.2⟩))).2.1 (Kd.R_F (Kd.R_mono (ok' := (fun k_ => ((P0_2_ k_ ∨ P0_3_ k_ ∨ P0_4_ k_ ∨ P0_5_ k_) ∨ w.heap.size ≤ k_) ∧ k_ ≠ gb335)) (Kd.R_types (HO365.out) BK335.out (by decide)) (fun k_ hk => ⟨(.inr (hk.1.1.1.1.1)), hk.2⟩))))) (Reps.one (show Kd.FK (Kd.slice 9 Kd.string) _ _ l0_4 [.slice A0_4 l0_4.length c0_4] from (Kd.FK_slice_mk (Kd.V_reads' (Kd.V_mono (ok' := (fun k_ => ((P0_2_ k_ ∨ P0_3_ k_ ∨ P0_4_ k_ ∨ P0_5_ k_) ∨ w.heap.size ≤ k_) ∧ k_ ≠ gb335)) (HO0_4.out) (fun k_ hk => ⟨hk.1.1.1.1.1, hk.1.1.1.1.2⟩))).2.1 (Kd.V_F (Kd.V_mono (ok' := (fun k_ => ((P0_2_ k_ ∨ P0_3_ k_ ∨ P0_4_ k_ ∨ P0_5_ k_) ∨ w.heap.size ≤ k_) ∧ k_ ≠ gb335)) (HO0_4.out) (fun k_ hk => ⟨hk.1.1.1.1.1, hk.1.1.1.1.2⟩))))) (Reps.one (show Kd.FK (Kd.slice 9 Kd.string) _ _ y366 [.slice Ao50 y366.length co50] from (Kd.FK_slice_mk (Kd.R_reads' (Kd.R_mono (ok' := (fun k_ => ((P0_2_ k_ ∨ P0_3_ k_ ∨ P0_4_ k_ ∨ P0_5_ k_) ∨ w.heap.size ≤ k_) ∧ k_ ≠ gb335)) (Kd.R_types (HO368.out) BK335.out (by decide)) (fun k_ hk => ⟨(.inr (hk.1.1.1.1.1)), hk.2⟩))).2.1 (Kd.R_F (Kd.R_mono (ok' := (fun k_ => ((P0_2_ k_ ∨ P0_3_ k_ ∨ P0_4_ k_ ∨ P0_5_ k_) ∨ w.heap.size ≤ k_) ∧ k_ ≠ gb335)) (Kd.R_types (HO368.out) BK335.out (by decide)) (fun k_ hk => ⟨(.inr (hk.1.1.1.1.1)), hk.2⟩))))) (Reps.one (show Kd.FK (Kd.slice 9 Kd.string) _ _ l0_5 [.slice A0_5 l0_5.length c0_5] from (Kd.FK_slice_mk (Kd.V_reads' (Kd.V_mono (ok' := (fun k_ => ((P0_2_ k_ ∨ P0_3_ k_ ∨ P0_4_ k_ ∨ P0_5_ k_) ∨ w.heap.size ≤ k_) ∧ k_ ≠ gb335)) (HO0_5.out) (fun k_ hk => ⟨hk.1.1.1.1.1, hk.1.1.1.1.2⟩))).2.1 (Kd.V_F (Kd.V_mono (ok' := (fun k_ => ((P0_2_ k_ ∨ P0_3_ k_ ∨ P0_4_ k_ ∨ P0_5_ k_) ∨ w.heap.size ≤ k_) ∧ k_ ≠ gb335)) (HO0_5.out) (fun k_ hk => ⟨hk.1.1.1.1.1, hk.1.1.1.1.2⟩))))) (Reps.none _ _)))))))))); intro v370 w51 ho52 hb hg_ hnew_; clear hg_ hnew_; (first | rw [← Ny369.out] at ho52 | (simp only [Int.reduceToNat] at ho52; rw [← Ny369.out] at ho52)); have n0_ := aM (Kd.V_elder' (by (with_reducible repeat (first | apply Kd.V_alloc | apply Kd.V_drewN | apply Kd.V_drew)); exact HO0_2.out) (Kd.N_base ho52) hb); have n1_ := aM (Kd.V_elder' (by (with_reducible repeat (first | apply Kd.V_alloc | apply Kd.V_drewN | apply Kd.V_drew)); exact HO0_3.out) (Kd.N_base ho52) hb); have n2_ := aM (Kd.V_elder' (by (with_reducible repeat (first | apply Kd.V_alloc | apply Kd.V_drewN | apply Kd.V_drew)); exact HO0_4.out) (Kd.N_base ho52) hb); have n3_ := aM (Kd.V_elder' (by (with_reducible repeat (first | apply Kd.V_alloc | apply Kd.V_drewN | apply Kd.V_drew)); exact HO0_5.out) (Kd.N_base ho52) hb); have n4_ := aM (Kd.N_lower ho52 (below_size (by repeat (first | (with_reducible first | exact HB.out | apply bA | apply bN | apply bD | refine below_set ?_ GE335.out) | exact HB.out)))); have n5_ := aM (blk_below (g := gb335) (o := .cells #[.int .i64 a0_0, .string a0_1, .slice A0_2 l0_2.length c0_2, .slice A0_3 l0_3.length c0_3, .slice A0_4 l0_4.length c0_4, .slice A0_5 l0_5.length c0_5, .int .i64 a0_6] 39 (0, 0)) (by (with_reducible repeat (first | refine blk_drewN ?_ _ | refine blk_drew ?_ | refine blk_alloc ?_ _)); exact BK335.out) hb); have n6_ := aM (below_step (by repeat (first | (with_reducible first | exact HB.out | apply bA | apply bN | apply bD | refine below_set ?_ GE335.out) | exact HB.out)) hb); clear HO0_2; clear HO0_3; clear HO0_4; clear HO0_5; clear BK335; clear HB; clear HO359; clear HO362; clear HO365; clear HO368; have HO0_2 := n0_; have HO0_3 := n1_; have HO0_4 := n2_; have HO0_5 := n3_; have HO371 := n4_; have BK335 := n5_; have HB := n6_; clear n0_ n1_ n2_ n3_ n4_ n5_ n6_; clear hb ho52; obtain ⟨Ao53, co53, eo53⟩ := Kd.N_slice HO371.out; subst eo53) | ((with_reducible refine gate_callee (f := 44) rfl ?_); refine goesL_ (some 49) rfl rfl Try.func44 (by kernel_rfl) rfl #[.slice Ao53 y369.length co53] rfl gQ ?_; (with_reducible refine (slices_Concat_string_string.calls k _ _ y369 t372 _ ?side1 ?side2 A32.out).mono ?_); (case side1 => repeat (first | exact (Kd.N_reads' HO371.out).2.2 | (with_reducible first | refine cA ?_ _ | refine cN ?_ _ | refine cD ?_))); (case side2 => exact (Kd.N_reads' HO371.out).2.1); rintro e w54 ⟨v373, rfl, ho0, hb⟩; refine ⟨_, rfl, ?_⟩; have n0_ := aM (Kd.V_elder' (by (with_reducible repeat (first | apply Kd.V_alloc | apply Kd.V_drewN | apply Kd.V_drew)); exact HO0_2.out) (Kd.R_base ho0) hb); have n1_ := aM (Kd.V_elder' (by (with_reducible repeat (first | apply Kd.V_alloc | apply Kd.V_drewN | apply Kd.V_drew)); exact HO0_3.out) (Kd.R_base ho0) hb); have n2_ := aM (Kd.V_elder' (by (with_reducible repeat (first | apply Kd.V_alloc | apply Kd.V_drewN | apply Kd.V_drew)); exact HO0_4.out) (Kd.R_base ho0) hb); have n3_ := aM (Kd.V_elder' (by (with_reducible repeat (first | apply Kd.V_alloc | apply Kd.V_drewN | apply Kd.V_drew)); exact HO0_5.out) (Kd.R_base ho0) hb); have n4_ := aM (Kd.N_elder' (by (with_reducible repeat (first | apply Kd.N_alloc | apply Kd.N_drewN | apply Kd.N_drew)); exact HO371.out) (Kd.R_base ho0) hb); have n5_ := aM (Kd.R_lower (Kd.R_newM (M := fun k_ => (w.heap.size ≤ k_)) ho0 (below_size (by repeat (first | (with_reducible first | exact HB.out | apply bA | apply bN | apply bD | refine below_set ?_ GE335.out) | exact HB.out))) (fun k_ h_ => h_)) (below_size (by repeat (first | (with_reducible first | exact HB.out | apply bA | apply bN | apply bD | refine below_set ?_ GE335.out) | exact HB.out)))); have n6_ := aM (blk_below (g := gb335) (o := .cells #[.int .i64 a0_0, .string a0_1, .slice A0_2 l0_2.length c0_2, .slice A0_3 l0_3.length c0_3, .slice A0_4 l0_4.length c0_4, .slice A0_5 l0_5.length c0_5, .int .i64 a0_6] 39 (0, 0)) (by (with_reducible repeat (first | refine blk_drewN ?_ _ | refine blk_drew ?_ | refine blk_alloc ?_ _)); exact BK335.out) hb); have n7_ := aM (below_step (by repeat (first | (with_reducible first | exact HB.out | apply bA | apply bN | apply bD | refine below_set ?_ GE335.out) | exact HB.out)) hb); clear HO0_2; clear HO0_3; clear HO0_4; clear HO0_5; clear HO371; clear BK335; clear HB; have HO0_2 := n0_; have HO0_3 := n1_; have HO0_4 := n2_; have HO0_5 := n3_; have HO371 := n4_; have HO374 := n5_; have BK335 := n6_; have HB := n7_; clear n0_ n1_ n2_ n3_ n4_ n5_ n6_ n7_; (try clear hb); (try clear hb2); (try clear hk); (try clear hi); (try clear ho0)))
     go_ret
     exact ⟨_, eQ, by (with_reducible repeat (first | apply rA | apply rN | apply rD)); exact Kd.R_mono HO374.out (fun _ hk => hk.1), by repeat (first | (with_reducible first | exact HB.out | apply bA | apply bN | apply bD | refine below_set ?_ GE335.out) | exact HB.out)⟩
   ·rw [if_neg c15] at H
    have c15b0 : (a0_0 == 3) = false := beq_eq_false_iff_ne.mpr c15
    have c15b1 : (a0_0 != 3) = true := bne_iff_ne.mpr c15
    by_cases c55 : a0_0 = 5
    ·rw [if_pos c55] at H
     have c55b0 : (a0_0 == 5) = true := beq_iff_eq.mpr c55
     have c55b1 : (a0_0 != 5) = false := bne_eq_false_iff_eq.mpr c55
     clear c55
     by_cases c56 : 0 < (l0_3.length : Int)
     ·rw [if_pos c56] at H
      have c56b0 : decide (0 < (l0_3.length : Int)) = true := decide_eq_true c56
      have c56b1 : decide (0 < l0_3.length) = true := decide_eq_true (by omega)
      clear c56
      by_cases c57 : 1 < (l0_3.length : Int)
      ·rw [if_pos c57] at H
       have c57b0 : decide (1 < (l0_3.length : Int)) = true := decide_eq_true c57
       have c57b1 : decide (1 < l0_3.length) = true := decide_eq_true (by omega)
       clear c57
       replace H := Option.bind_eq_some_iff.mp H
       obtain ⟨t377, A580, H⟩ := H
       replace H : (some (([(⟨#[107, 101, 114, 110]⟩ : ByteArray), rdOf ByteArray.empty l0_3 0, rdOf ByteArray.empty l0_3 1, t377] : List ByteArray))) = some r := H
       have A58 := aM A580
       clear A580
       obtain ⟨y378, hy378⟩ : ∃ y_ : List ByteArray, y_ = (([(⟨#[107, 101, 114, 110]⟩ : ByteArray), rdOf ByteArray.empty l0_3 0, rdOf ByteArray.empty l0_3 1, t377] : List ByteArray)) := ⟨_, rfl⟩
       replace H : (some y378) = some r := by first | (rw [hy378]; with_reducible exact H) | (have H2_ := bS H; rw [hy378]; with_reducible exact H2_) | (have H2_ := bS H; with_reducible exact H2_) | with_reducible exact H | (rw [hy378]; exact H) | exact H
       have Ny378 := aM hy378
       clear hy378
       obtain rfl := Option.some.inj H
       go_enter Try.func38, Try.ntmps38
       try go_wp2_with (first | ((with_reducible refine gate_dst (N := 1) rfl ?_); refine box_event ?hg (N := 1) ?hd (cs := #[.int .i64 a0_0, .string a0_1, .slice A0_2 l0_2.length c0_2, .slice A0_3 l0_3.length c0_3, .slice A0_4 l0_4.length c0_4, .slice A0_5 l0_5.length c0_5, .int .i64 a0_6]) (t := 39) ?hr ?_; (case hd => rfl); (case hg => rfl); (case hr => first | (go_simp; done) | (go_simp; rfl)); intro gb335 hg w59 hbox hb; have n0_ := aM (Kd.V_below (Kd.V_elderB (by (with_reducible repeat (first | apply Kd.V_alloc | apply Kd.V_drewN | apply Kd.V_drew)); exact HO0_2.out) gb335 (Nat.le_of_eq hg.symm)) hb); have n1_ := aM (Kd.V_below (Kd.V_elderB (by (with_reducible repeat (first | apply Kd.V_alloc | apply Kd.V_drewN | apply Kd.V_drew)); exact HO0_3.out) gb335 (Nat.le_of_eq hg.symm)) hb); have n2_ := aM (Kd.V_below (Kd.V_elderB (by (with_reducible repeat (first | apply Kd.V_alloc | apply Kd.V_drewN | apply Kd.V_drew)); exact HO0_4.out) gb335 (Nat.le_of_eq hg.symm)) hb); have n3_ := aM (Kd.V_below (Kd.V_elderB (by (with_reducible repeat (first | apply Kd.V_alloc | apply Kd.V_drewN | apply Kd.V_drew)); exact HO0_5.out) gb335 (Nat.le_of_eq hg.symm)) hb); have n4_ := aM (below_step bQ hb); have n5_ := aM (hbox); have n6_ := aM ((by rw [hg]; exact (below_size bQ) : w.heap.size ≤ gb335)); have n7_ := aM ((by rw [hg]; exact (below_size bQ) : w.heap.size ≤ gb335)); clear HO0_2; clear HO0_3; clear HO0_4; clear HO0_5; clear HB; have HO0_2 := n0_; have HO0_3 := n1_; have HO0_4 := n2_; have HO0_5 := n3_; have HB := n4_; have BK335 := n5_; have GW335 := n6_; have GE335 := n7_; clear n0_ n1_ n2_ n3_ n4_ n5_ n6_ n7_; clear hb hbox hg; obtain ⟨hcz60_0, hcz60_1, hcz60_2, hcz60_3, hcz60_4, hcz60_5, hcz60_6⟩ := cl7 BK335.out; obtain ⟨hfz60_0, hfz60_1, hfz60_2, hfz60_3, hfz60_4, hfz60_5⟩ := fz6 BK335.out; have hfz60_6 := blk_frozen BK335.out 6))
       have n0_ := aM (Kd.V_drew HO0_2.out)
       have n1_ := aM (Kd.V_drew HO0_3.out)
       have n2_ := aM (Kd.V_drew HO0_4.out)
       have n3_ := aM (Kd.V_drew HO0_5.out)
       have n4_ := aM (blk_drew BK335.out)
       have n5_ := aM (below_drew1 HB.out)
       clear HO0_2
       clear HO0_3
       clear HO0_4
       clear HO0_5
       clear BK335
       clear HB
       have HO0_2 := n0_
       have HO0_3 := n1_
       have HO0_4 := n2_
       have HO0_5 := n3_
       have BK335 := n4_
       have HB := n5_
       clear n0_ n1_ n2_ n3_ n4_ n5_
       have p375 : 0 ≤ (0 : Int) := (by omega)
       have q375 : 0 < (l0_3.length : Int) := dA
       obtain ⟨ad375, e375, hx375_0⟩ := Kd.at_string (Kd.V_reads' HO0_3.out).2.2 0 p375 q375
       cases e375
       have qi375 : (0 < l0_3.length) = True := eq_true (by omega)
       (try rw [show ((0 : Int)).toNat = 0 from rfl] at hx375_0)
       (try rw [Addr.add_zero'] at hx375_0)
       replace p375 := eq_true p375
       replace q375 := eq_true q375
       have p376 : 0 ≤ (1 : Int) := (by omega)
       have q376 : 1 < (l0_3.length : Int) := dA
       obtain ⟨ad376, e376, hx376_0⟩ := Kd.at_string (Kd.V_reads' HO0_3.out).2.2 1 p376 q376
       obtain rfl : ad375 = ad376 := (by injection e376)
       (try simp only [show (1 : Int).toNat = 1 from rfl, Nat.reduceMul, Nat.reduceEqDiff, Go.Addr.add, ↓reduceIte] at hx376_0)
       have qi376 : (1 < l0_3.length) = True := eq_true (by omega)
       (try rw [show ((1 : Int)).toNat = 1 from rfl] at hx376_0)
       replace p376 := eq_true p376
       replace q376 := eq_true q376
       refine start_ (n := 13) (S := fun w' => w'.cell? ⟨gb335, 0, none⟩ = some (.int .i64 a0_0) ∧ w'.cell? ⟨gb335, 1, none⟩ = some (.string a0_1) ∧ w'.cell? ⟨gb335, 2, none⟩ = some (.slice A0_2 l0_2.length c0_2) ∧ w'.cell? ⟨gb335, 3, none⟩ = some (.slice (some ad375) l0_3.length c0_3) ∧ w'.cell? ⟨gb335, 4, none⟩ = some (.slice A0_4 l0_4.length c0_4) ∧ w'.cell? ⟨gb335, 5, none⟩ = some (.slice A0_5 l0_5.length c0_5) ∧ w'.cell? ⟨gb335, 6, none⟩ = some (.int .i64 a0_6) ∧ w'.cell? ad375 = some (.string (rdOf ByteArray.empty l0_3 0)) ∧ w'.cell? ⟨ad375.block, ad375.off + 1, none⟩ = some (.string (rdOf ByteArray.empty l0_3 1))) (ds := []) mkimpl_l483_0 (by kernel_rfl) rfl rfl ⟨(blk_cell BK335.out 0).trans rfl, (blk_cell BK335.out 1).trans rfl, (blk_cell BK335.out 2).trans rfl, (blk_cell BK335.out 3).trans rfl, (blk_cell BK335.out 4).trans rfl, (blk_cell BK335.out 5).trans rfl, (blk_cell BK335.out 6).trans rfl, hx375_0, hx376_0⟩ (fun hHeld => ?_); refine with_tabW impl_lineWords.tab11 impl_lineWords.bits11 (fun HT_ HW_ => ?_)
       generalize w59.drew = w61 at HO0_2 HO0_3 HO0_4 HO0_5 BK335 HB hx375_0 hx376_0 hHeld ⊢
       refine pQ (i := 0) (N := some 52) mkimpl_l483_1 ?_
       refine pQ (i := 4) (N := some 56) mkimpl_l483_2 ?_
       refine pQ (i := 8) (N := some 60) mkimpl_l483_3 ?_
       refine tQ (i := 1) (N := some 53) mkimpl_l483_4 rfl hHeld (Or.inl ⟨by rfl, by rintro w' ⟨s0, s1, s2, s3, s4, s5, s6, s7, s8⟩; go_simp; with_reducible rfl⟩) ?_
       refine pQ (i := 2) (N := some 54) mkimpl_l483_5 ?_
       refine tQ (i := 3) (N := some 55) mkimpl_l483_6 rfl hHeld (Or.inl ⟨by rfl, by rintro w' ⟨s0, s1, s2, s3, s4, s5, s6, s7, s8⟩; go_simp; with_reducible rfl⟩) ?_
       refine tQ (i := 5) (N := some 57) mkimpl_l483_7 rfl hHeld (Or.inl ⟨by rfl, by rintro w' ⟨s0, s1, s2, s3, s4, s5, s6, s7, s8⟩; go_simp; with_reducible rfl⟩) ?_
       refine pQ (i := 6) (N := some 58) mkimpl_l483_9 ?_
       refine tQ (i := 7) (N := some 59) mkimpl_l483_11 rfl hHeld (Or.inl ⟨by rfl, by rintro w' ⟨s0, s1, s2, s3, s4, s5, s6, s7, s8⟩; go_simp; with_reducible rfl⟩) ?_
       refine tQ (i := 9) (N := some 61) mkimpl_l483_14 rfl hHeld (Or.inl ⟨by rfl, by rintro w' ⟨s0, s1, s2, s3, s4, s5, s6, s7, s8⟩; go_simp; with_reducible rfl⟩) ?_
       refine one_ (i := 10) (N := some 62) mkimpl_l483_17 rfl rfl (one_of HT_.out (by kernel_rfl)) (by decide) (fun K hK => ?_)
       refine goes_ Try.func63 (by kernel_rfl) rfl #[.int .i64 a0_6] (by rfl) rfl rfl gQ ?_
       with_reducible refine (impl_Decimal.calls a0_6 t377 _ A58.out).mono ?_
       rintro e w62 ⟨rfl, hb⟩
       have HS7_ := (hb.cell (World.block_lt_of_cell? _ _ (hHeld.2.2.2.2.2.2.2.1))).trans (hHeld.2.2.2.2.2.2.2.1)
       have HS8_ := (hb.cell (World.block_lt_of_cell? _ _ (hHeld.2.2.2.2.2.2.2.2))).trans (hHeld.2.2.2.2.2.2.2.2)
       refine ⟨_, rfl, ?_⟩
       have n0_ := aM (Kd.V_below (by (with_reducible repeat (first | apply Kd.V_alloc | apply Kd.V_drewN | apply Kd.V_drew)); exact HO0_2.out) hb)
       have n1_ := aM (Kd.V_below (by (with_reducible repeat (first | apply Kd.V_alloc | apply Kd.V_drewN | apply Kd.V_drew)); exact HO0_3.out) hb)
       have n2_ := aM (Kd.V_below (by (with_reducible repeat (first | apply Kd.V_alloc | apply Kd.V_drewN | apply Kd.V_drew)); exact HO0_4.out) hb)
       have n3_ := aM (Kd.V_below (by (with_reducible repeat (first | apply Kd.V_alloc | apply Kd.V_drewN | apply Kd.V_drew)); exact HO0_5.out) hb)
       have n4_ := aM (blk_below (g := gb335) (o := .cells #[.int .i64 a0_0, .string a0_1, .slice A0_2 l0_2.length c0_2, .slice (some ad375) l0_3.length c0_3, .slice A0_4 l0_4.length c0_4, .slice A0_5 l0_5.length c0_5, .int .i64 a0_6] 39 (0, 0)) (by (with_reducible repeat (first | refine blk_drewN ?_ _ | refine blk_drew ?_ | refine blk_alloc ?_ _)); exact BK335.out) hb)
       have n5_ := aM (below_step (by repeat (first | (with_reducible first | exact HB.out | apply bA | apply bN | apply bD | refine below_set ?_ GE335.out) | exact HB.out)) hb)
       clear HO0_2
       clear HO0_3
       clear HO0_4
       clear HO0_5
       clear BK335
       clear HB
       have HO0_2 := n0_
       have HO0_3 := n1_
       have HO0_4 := n2_
       have HO0_5 := n3_
       have BK335 := n4_
       have HB := n5_
       clear n0_ n1_ n2_ n3_ n4_ n5_
       (try clear hb)
       (try clear hb2)
       (try clear hk)
       (try clear hi)
       refine hK.out _ _ ⟨(blk_cell BK335.out 0).trans rfl, (blk_cell BK335.out 1).trans rfl, (blk_cell BK335.out 2).trans rfl, (blk_cell BK335.out 3).trans rfl, (blk_cell BK335.out 4).trans rfl, (blk_cell BK335.out 5).trans rfl, (blk_cell BK335.out 6).trans rfl, HS7_, HS8_⟩ (fun hHeld => ?_)
       clear hK K
       refine norm_ (a' := ?_) ?_ ?_
       rotate_left
       ·show Act.put _ (some 62) _ = _
        simp only [Act.put, sI, sZ, sS, i64_w, i32_w]
        rfl
       refine one_ (i := 11) (N := some 63) mkimpl_l483_20 rfl rfl (one_of HT_.out (by kernel_rfl)) (by decide) (fun K hK => ?_)
       refine Kd.R_lit_step Kd.string _ 9 ?hg (N := 63) ?hd (xs := ([(⟨#[107, 101, 114, 110]⟩ : ByteArray), rdOf ByteArray.empty l0_3 0, rdOf ByteArray.empty l0_3 1, t377] : List ByteArray)) (inner := [.string (⟨#[107, 101, 114, 110]⟩ : ByteArray), .string (rdOf ByteArray.empty l0_3 0), .string (rdOf ByteArray.empty l0_3 1), .string t377]) (ok := fun _ => True) (okp := fun _ => True) ?hr ?hp (fun _ hk => hk) trivial (Below.refl _ _) (Nat.le_refl _) (by simp) ?_; (case hd => rfl); (case hg => rfl); (case hr => first | (go_simp; done) | (go_simp; rfl)); (case hp => exact (Reps.one (show Kd.M Kd.string _ _ _ (⟨#[107, 101, 114, 110]⟩ : ByteArray) [.string (⟨#[107, 101, 114, 110]⟩ : ByteArray)] from rfl) (Reps.one (show Kd.M Kd.string _ _ _ (rdOf ByteArray.empty l0_3 0) [.string (rdOf ByteArray.empty l0_3 0)] from rfl) (Reps.one (show Kd.M Kd.string _ _ _ (rdOf ByteArray.empty l0_3 1) [.string (rdOf ByteArray.empty l0_3 1)] from rfl) (Reps.one (show Kd.M Kd.string _ _ _ t377 [.string t377] from rfl) (Reps.none _ _))))))
       intro v379 w63 ho64 hb hg_ hnew_
       have HS7_ := (hb.cell (World.block_lt_of_cell? _ _ (hHeld.2.2.2.2.2.2.2.1))).trans (hHeld.2.2.2.2.2.2.2.1)
       have HS8_ := (hb.cell (World.block_lt_of_cell? _ _ (hHeld.2.2.2.2.2.2.2.2))).trans (hHeld.2.2.2.2.2.2.2.2)
       clear hg_ hnew_
       (first | rw [← Ny378.out] at ho64 | (simp only [Int.reduceToNat] at ho64; rw [← Ny378.out] at ho64))
       have n0_ := aM (Kd.V_elder' (by (with_reducible repeat (first | apply Kd.V_alloc | apply Kd.V_drewN | apply Kd.V_drew)); exact HO0_2.out) (Kd.R_base ho64) hb)
       have n1_ := aM (Kd.V_elder' (by (with_reducible repeat (first | apply Kd.V_alloc | apply Kd.V_drewN | apply Kd.V_drew)); exact HO0_3.out) (Kd.R_base ho64) hb)
       have n2_ := aM (Kd.V_elder' (by (with_reducible repeat (first | apply Kd.V_alloc | apply Kd.V_drewN | apply Kd.V_drew)); exact HO0_4.out) (Kd.R_base ho64) hb)
       have n3_ := aM (Kd.V_elder' (by (with_reducible repeat (first | apply Kd.V_alloc | apply Kd.V_drewN | apply Kd.V_drew)); exact HO0_5.out) (Kd.R_base ho64) hb)
       have n4_ := aM (Kd.R_lower (Kd.R_newM (M := fun k_ => (w.heap.size ≤ k_)) ho64 (below_size (by repeat (first | (with_reducible first | exact HB.out | apply bA | apply bN | apply bD | refine below_set ?_ GE335.out) | exact HB.out))) (fun k_ h_ => h_)) (below_size (by repeat (first | (with_reducible first | exact HB.out | apply bA | apply bN | apply bD | refine below_set ?_ GE335.out) | exact HB.out))))
       have n5_ := aM (blk_below (g := gb335) (o := .cells #[.int .i64 a0_0, .string a0_1, .slice A0_2 l0_2.length c0_2, .slice (some ad375) l0_3.length c0_3, .slice A0_4 l0_4.length c0_4, .slice A0_5 l0_5.length c0_5, .int .i64 a0_6] 39 (0, 0)) (by (with_reducible repeat (first | refine blk_drewN ?_ _ | refine blk_drew ?_ | refine blk_alloc ?_ _)); exact BK335.out) hb)
       have n6_ := aM (below_step (by repeat (first | (with_reducible first | exact HB.out | apply bA | apply bN | apply bD | refine below_set ?_ GE335.out) | exact HB.out)) hb)
       clear HO0_2
       clear HO0_3
       clear HO0_4
       clear HO0_5
       clear BK335
       clear HB
       have HO0_2 := n0_
       have HO0_3 := n1_
       have HO0_4 := n2_
       have HO0_5 := n3_
       have HO380 := n4_
       have BK335 := n5_
       have HB := n6_
       clear n0_ n1_ n2_ n3_ n4_ n5_ n6_
       clear hb ho64
       refine hK.out _ _ ⟨(blk_cell BK335.out 0).trans rfl, (blk_cell BK335.out 1).trans rfl, (blk_cell BK335.out 2).trans rfl, (blk_cell BK335.out 3).trans rfl, (blk_cell BK335.out 4).trans rfl, (blk_cell BK335.out 5).trans rfl, (blk_cell BK335.out 6).trans rfl, HS7_, HS8_⟩ (fun hHeld => ?_)
       clear hK K
       refine norm_ (a' := ?_) ?_ ?_
       rotate_left
       ·show Act.put _ (some 63) _ = _
        simp only [Act.put, sI, sZ, sS, i64_w, i32_w]
        rfl
       refine pQ (i := 12) (N := some 2) mkimpl_l483_23 ?_
       refine done_ (done_of HT_.out (by kernel_rfl)) ?_
       try go_wp2
       go_ret
       exact ⟨_, eQ, by (with_reducible repeat (first | apply rA | apply rN | apply rD)); exact Kd.R_mono HO380.out (fun _ hk => hk.1), by repeat (first | (with_reducible first | exact HB.out | apply bA | apply bN | apply bD | refine below_set ?_ GE335.out) | exact HB.out)⟩
      ·rw [if_neg c57] at H
       exact absurd H (by simp)
     ·rw [if_neg c56] at H
      exact absurd H (by simp)
    ·rw [if_neg c55] at H
     have c55b0 : (a0_0 == 5) = false := beq_eq_false_iff_ne.mpr c55
     have c55b1 : (a0_0 != 5) = true := bne_iff_ne.mpr c55
     by_cases c65 : a0_0 = 6
     ·rw [if_pos c65] at H
      have c65b0 : (a0_0 == 6) = true := beq_iff_eq.mpr c65
      have c65b1 : (a0_0 != 6) = false := bne_eq_false_iff_eq.mpr c65
      clear c65
      by_cases c66 : 0 < (l0_3.length : Int)
      ·rw [if_pos c66] at H
       have c66b0 : decide (0 < (l0_3.length : Int)) = true := decide_eq_true c66
       have c66b1 : decide (0 < l0_3.length) = true := decide_eq_true (by omega)
       clear c66
       by_cases c67 : 1 < (l0_3.length : Int)
       ·rw [if_pos c67] at H
        have c67b0 : decide (1 < (l0_3.length : Int)) = true := decide_eq_true c67
        have c67b1 : decide (1 < l0_3.length) = true := decide_eq_true (by omega)
        clear c67
        obtain ⟨y383, hy383⟩ : ∃ y_ : List ByteArray, y_ = (([(⟨#[109, 97, 114, 107]⟩ : ByteArray), rdOf ByteArray.empty l0_3 0, (⟨#[111, 110]⟩ : ByteArray), rdOf ByteArray.empty l0_3 1, (⟨#[97, 116]⟩ : ByteArray), a0_1] : List ByteArray)) := ⟨_, rfl⟩
        replace H : (some y383) = some r := by first | (rw [hy383]; with_reducible exact H) | (have H2_ := bS H; rw [hy383]; with_reducible exact H2_) | (have H2_ := bS H; with_reducible exact H2_) | with_reducible exact H | (rw [hy383]; exact H) | exact H
        have Ny383 := aM hy383
        clear hy383
        obtain rfl := Option.some.inj H
        go_enter Try.func38, Try.ntmps38
        try go_wp2_with (first | ((with_reducible refine gate_dst (N := 1) rfl ?_); refine box_event ?hg (N := 1) ?hd (cs := #[.int .i64 a0_0, .string a0_1, .slice A0_2 l0_2.length c0_2, .slice A0_3 l0_3.length c0_3, .slice A0_4 l0_4.length c0_4, .slice A0_5 l0_5.length c0_5, .int .i64 a0_6]) (t := 39) ?hr ?_; (case hd => rfl); (case hg => rfl); (case hr => first | (go_simp; done) | (go_simp; rfl)); intro gb335 hg w68 hbox hb; have n0_ := aM (Kd.V_below (Kd.V_elderB (by (with_reducible repeat (first | apply Kd.V_alloc | apply Kd.V_drewN | apply Kd.V_drew)); exact HO0_2.out) gb335 (Nat.le_of_eq hg.symm)) hb); have n1_ := aM (Kd.V_below (Kd.V_elderB (by (with_reducible repeat (first | apply Kd.V_alloc | apply Kd.V_drewN | apply Kd.V_drew)); exact HO0_3.out) gb335 (Nat.le_of_eq hg.symm)) hb); have n2_ := aM (Kd.V_below (Kd.V_elderB (by (with_reducible repeat (first | apply Kd.V_alloc | apply Kd.V_drewN | apply Kd.V_drew)); exact HO0_4.out) gb335 (Nat.le_of_eq hg.symm)) hb); have n3_ := aM (Kd.V_below (Kd.V_elderB (by (with_reducible repeat (first | apply Kd.V_alloc | apply Kd.V_drewN | apply Kd.V_drew)); exact HO0_5.out) gb335 (Nat.le_of_eq hg.symm)) hb); have n4_ := aM (below_step bQ hb); have n5_ := aM (hbox); have n6_ := aM ((by rw [hg]; exact (below_size bQ) : w.heap.size ≤ gb335)); have n7_ := aM ((by rw [hg]; exact (below_size bQ) : w.heap.size ≤ gb335)); clear HO0_2; clear HO0_3; clear HO0_4; clear HO0_5; clear HB; have HO0_2 := n0_; have HO0_3 := n1_; have HO0_4 := n2_; have HO0_5 := n3_; have HB := n4_; have BK335 := n5_; have GW335 := n6_; have GE335 := n7_; clear n0_ n1_ n2_ n3_ n4_ n5_ n6_ n7_; clear hb hbox hg; obtain ⟨hcz69_0, hcz69_1, hcz69_2, hcz69_3, hcz69_4, hcz69_5, hcz69_6⟩ := cl7 BK335.out; obtain ⟨hfz69_0, hfz69_1, hfz69_2, hfz69_3, hfz69_4, hfz69_5⟩ := fz6 BK335.out; have hfz69_6 := blk_frozen BK335.out 6))
        have n0_ := aM (Kd.V_drew HO0_2.out)
        have n1_ := aM (Kd.V_drew HO0_3.out)
        have n2_ := aM (Kd.V_drew HO0_4.out)
        have n3_ := aM (Kd.V_drew HO0_5.out)
        have n4_ := aM (blk_drew BK335.out)
        have n5_ := aM (below_drew1 HB.out)
        clear HO0_2
        clear HO0_3
        clear HO0_4
        clear HO0_5
        clear BK335
        clear HB
        have HO0_2 := n0_
        have HO0_3 := n1_
        have HO0_4 := n2_
        have HO0_5 := n3_
        have BK335 := n4_
        have HB := n5_
        clear n0_ n1_ n2_ n3_ n4_ n5_
        have p381 : 0 ≤ (0 : Int) := (by omega)
        have q381 : 0 < (l0_3.length : Int) := dA
        obtain ⟨ad381, e381, hx381_0⟩ := Kd.at_string (Kd.V_reads' HO0_3.out).2.2 0 p381 q381
        cases e381
        have qi381 : (0 < l0_3.length) = True := eq_true (by omega)
        (try rw [show ((0 : Int)).toNat = 0 from rfl] at hx381_0)
        (try rw [Addr.add_zero'] at hx381_0)
        replace p381 := eq_true p381
        replace q381 := eq_true q381
        have p382 : 0 ≤ (1 : Int) := (by omega)
        have q382 : 1 < (l0_3.length : Int) := dA
        obtain ⟨ad382, e382, hx382_0⟩ := Kd.at_string (Kd.V_reads' HO0_3.out).2.2 1 p382 q382
        obtain rfl : ad381 = ad382 := (by injection e382)
        (try simp only [show (1 : Int).toNat = 1 from rfl, Nat.reduceMul, Nat.reduceEqDiff, Go.Addr.add, ↓reduceIte] at hx382_0)
        have qi382 : (1 < l0_3.length) = True := eq_true (by omega)
        (try rw [show ((1 : Int)).toNat = 1 from rfl] at hx382_0)
        replace p382 := eq_true p382
        replace q382 := eq_true q382
        refine start_ (n := 12) (S := fun w' => w'.cell? ⟨gb335, 0, none⟩ = some (.int .i64 a0_0) ∧ w'.cell? ⟨gb335, 1, none⟩ = some (.string a0_1) ∧ w'.cell? ⟨gb335, 2, none⟩ = some (.slice A0_2 l0_2.length c0_2) ∧ w'.cell? ⟨gb335, 3, none⟩ = some (.slice (some ad381) l0_3.length c0_3) ∧ w'.cell? ⟨gb335, 4, none⟩ = some (.slice A0_4 l0_4.length c0_4) ∧ w'.cell? ⟨gb335, 5, none⟩ = some (.slice A0_5 l0_5.length c0_5) ∧ w'.cell? ⟨gb335, 6, none⟩ = some (.int .i64 a0_6) ∧ w'.cell? ad381 = some (.string (rdOf ByteArray.empty l0_3 0)) ∧ w'.cell? ⟨ad381.block, ad381.off + 1, none⟩ = some (.string (rdOf ByteArray.empty l0_3 1))) (ds := []) mkimpl_l483_8 (by kernel_rfl) rfl rfl ⟨(blk_cell BK335.out 0).trans rfl, (blk_cell BK335.out 1).trans rfl, (blk_cell BK335.out 2).trans rfl, (blk_cell BK335.out 3).trans rfl, (blk_cell BK335.out 4).trans rfl, (blk_cell BK335.out 5).trans rfl, (blk_cell BK335.out 6).trans rfl, hx381_0, hx382_0⟩ (fun hHeld => ?_); refine with_tabW impl_lineWords.tab13 impl_lineWords.bits13 (fun HT_ HW_ => ?_)
        generalize w68.drew = w70 at HO0_2 HO0_3 HO0_4 HO0_5 BK335 HB hx381_0 hx382_0 hHeld ⊢
        refine pQ (i := 0) (N := some 66) mkimpl_l483_10 ?_
        refine pQ (i := 4) (N := some 70) mkimpl_l483_12 ?_
        refine pQ (i := 8) (N := some 74) mkimpl_l483_15 ?_
        refine tQ (i := 1) (N := some 67) mkimpl_l483_18 rfl hHeld (Or.inl ⟨by rfl, by rintro w' ⟨s0, s1, s2, s3, s4, s5, s6, s7, s8⟩; go_simp; with_reducible rfl⟩) ?_
        refine pQ (i := 2) (N := some 68) mkimpl_l483_21 ?_
        refine tQ (i := 3) (N := some 69) mkimpl_l483_24 rfl hHeld (Or.inl ⟨by rfl, by rintro w' ⟨s0, s1, s2, s3, s4, s5, s6, s7, s8⟩; go_simp; with_reducible rfl⟩) ?_
        refine tQ (i := 5) (N := some 71) mkimpl_l483_26 rfl hHeld (Or.inl ⟨by rfl, by rintro w' ⟨s0, s1, s2, s3, s4, s5, s6, s7, s8⟩; go_simp; with_reducible rfl⟩) ?_
        refine pQ (i := 6) (N := some 72) mkimpl_l483_28 ?_
        refine tQ (i := 7) (N := some 73) mkimpl_l483_30 rfl hHeld (Or.inl ⟨by rfl, by rintro w' ⟨s0, s1, s2, s3, s4, s5, s6, s7, s8⟩; go_simp; with_reducible rfl⟩) ?_
        refine tQ (i := 9) (N := some 75) mkimpl_l483_32 rfl hHeld (Or.inl ⟨by rfl, by rintro w' ⟨s0, s1, s2, s3, s4, s5, s6, s7, s8⟩; go_simp; with_reducible rfl⟩) ?_
        refine one_ (i := 10) (N := some 76) mkimpl_l483_33 rfl rfl (one_of HT_.out (by kernel_rfl)) (by decide) (fun K hK => ?_)
        refine Kd.R_lit_step Kd.string _ 9 ?hg (N := 76) ?hd (xs := ([(⟨#[109, 97, 114, 107]⟩ : ByteArray), rdOf ByteArray.empty l0_3 0, (⟨#[111, 110]⟩ : ByteArray), rdOf ByteArray.empty l0_3 1, (⟨#[97, 116]⟩ : ByteArray), a0_1] : List ByteArray)) (inner := [.string (⟨#[109, 97, 114, 107]⟩ : ByteArray), .string (rdOf ByteArray.empty l0_3 0), .string (⟨#[111, 110]⟩ : ByteArray), .string (rdOf ByteArray.empty l0_3 1), .string (⟨#[97, 116]⟩ : ByteArray), .string a0_1]) (ok := fun _ => True) (okp := fun _ => True) ?hr ?hp (fun _ hk => hk) trivial (Below.refl _ _) (Nat.le_refl _) (by simp) ?_; (case hd => rfl); (case hg => rfl); (case hr => first | (go_simp; done) | (go_simp; rfl)); (case hp => exact (Reps.one (show Kd.M Kd.string _ _ _ (⟨#[109, 97, 114, 107]⟩ : ByteArray) [.string (⟨#[109, 97, 114, 107]⟩ : ByteArray)] from rfl) (Reps.one (show Kd.M Kd.string _ _ _ (rdOf ByteArray.empty l0_3 0) [.string (rdOf ByteArray.empty l0_3 0)] from rfl) (Reps.one (show Kd.M Kd.string _ _ _ (⟨#[111, 110]⟩ : ByteArray) [.string (⟨#[111, 110]⟩ : ByteArray)] from rfl) (Reps.one (show Kd.M Kd.string _ _ _ (rdOf ByteArray.empty l0_3 1) [.string (rdOf ByteArray.empty l0_3 1)] from rfl) (Reps.one (show Kd.M Kd.string _ _ _ (⟨#[97, 116]⟩ : ByteArray) [.string (⟨#[97, 116]⟩ : ByteArray)] from rfl) (Reps.one (show Kd.M Kd.string _ _ _ a0_1 [.string a0_1] from rfl) (Reps.none _ _))))))))
        intro v384 w71 ho72 hb hg_ hnew_
        have HS7_ := (hb.cell (World.block_lt_of_cell? _ _ (hHeld.2.2.2.2.2.2.2.1))).trans (hHeld.2.2.2.2.2.2.2.1)
        have HS8_ := (hb.cell (World.block_lt_of_cell? _ _ (hHeld.2.2.2.2.2.2.2.2))).trans (hHeld.2.2.2.2.2.2.2.2)
        clear hg_ hnew_
        (first | rw [← Ny383.out] at ho72 | (simp only [Int.reduceToNat] at ho72; rw [← Ny383.out] at ho72))
        have n0_ := aM (Kd.V_elder' (by (with_reducible repeat (first | apply Kd.V_alloc | apply Kd.V_drewN | apply Kd.V_drew)); exact HO0_2.out) (Kd.R_base ho72) hb)
        have n1_ := aM (Kd.V_elder' (by (with_reducible repeat (first | apply Kd.V_alloc | apply Kd.V_drewN | apply Kd.V_drew)); exact HO0_3.out) (Kd.R_base ho72) hb)
        have n2_ := aM (Kd.V_elder' (by (with_reducible repeat (first | apply Kd.V_alloc | apply Kd.V_drewN | apply Kd.V_drew)); exact HO0_4.out) (Kd.R_base ho72) hb)
        have n3_ := aM (Kd.V_elder' (by (with_reducible repeat (first | apply Kd.V_alloc | apply Kd.V_drewN | apply Kd.V_drew)); exact HO0_5.out) (Kd.R_base ho72) hb)
        have n4_ := aM (Kd.R_lower (Kd.R_newM (M := fun k_ => (w.heap.size ≤ k_)) ho72 (below_size (by repeat (first | (with_reducible first | exact HB.out | apply bA | apply bN | apply bD | refine below_set ?_ GE335.out) | exact HB.out))) (fun k_ h_ => h_)) (below_size (by repeat (first | (with_reducible first | exact HB.out | apply bA | apply bN | apply bD | refine below_set ?_ GE335.out) | exact HB.out))))
        have n5_ := aM (blk_below (g := gb335) (o := .cells #[.int .i64 a0_0, .string a0_1, .slice A0_2 l0_2.length c0_2, .slice (some ad381) l0_3.length c0_3, .slice A0_4 l0_4.length c0_4, .slice A0_5 l0_5.length c0_5, .int .i64 a0_6] 39 (0, 0)) (by (with_reducible repeat (first | refine blk_drewN ?_ _ | refine blk_drew ?_ | refine blk_alloc ?_ _)); exact BK335.out) hb)
        have n6_ := aM (below_step (by repeat (first | (with_reducible first | exact HB.out | apply bA | apply bN | apply bD | refine below_set ?_ GE335.out) | exact HB.out)) hb)
        clear HO0_2
        clear HO0_3
        clear HO0_4
        clear HO0_5
        clear BK335
        clear HB
        have HO0_2 := n0_
        have HO0_3 := n1_
        have HO0_4 := n2_
        have HO0_5 := n3_
        have HO385 := n4_
        have BK335 := n5_
        have HB := n6_
        clear n0_ n1_ n2_ n3_ n4_ n5_ n6_
        clear hb ho72
        refine hK.out _ _ ⟨(blk_cell BK335.out 0).trans rfl, (blk_cell BK335.out 1).trans rfl, (blk_cell BK335.out 2).trans rfl, (blk_cell BK335.out 3).trans rfl, (blk_cell BK335.out 4).trans rfl, (blk_cell BK335.out 5).trans rfl, (blk_cell BK335.out 6).trans rfl, HS7_, HS8_⟩ (fun hHeld => ?_)
        clear hK K
        refine norm_ (a' := ?_) ?_ ?_
        rotate_left
        ·show Act.put _ (some 76) _ = _
         simp only [Act.put, sI, sZ, sS, i64_w, i32_w]
         rfl
        refine pQ (i := 11) (N := some 2) mkimpl_l483_34 ?_
        refine done_ (done_of HT_.out (by kernel_rfl)) ?_
        try go_wp2
        go_ret
        exact ⟨_, eQ, by (with_reducible repeat (first | apply rA | apply rN | apply rD)); exact Kd.R_mono HO385.out (fun _ hk => hk.1), by repeat (first | (with_reducible first | exact HB.out | apply bA | apply bN | apply bD | refine below_set ?_ GE335.out) | exact HB.out)⟩
       ·rw [if_neg c67] at H
        exact absurd H (by simp)
      ·rw [if_neg c66] at H
       exact absurd H (by simp)
     ·rw [if_neg c65] at H
      have c65b0 : (a0_0 == 6) = false := beq_eq_false_iff_ne.mpr c65
      have c65b1 : (a0_0 != 6) = true := bne_iff_ne.mpr c65
      by_cases c73 : a0_0 = 7
      ·rw [if_pos c73] at H
       have c73b0 : (a0_0 == 7) = true := beq_iff_eq.mpr c73
       have c73b1 : (a0_0 != 7) = false := bne_eq_false_iff_eq.mpr c73
       clear c73
       replace H := Option.bind_eq_some_iff.mp H
       obtain ⟨t386, A740, H⟩ := H
       replace H : (if 0 ≤ a0_6 then (if a0_6 < (t386.length : Int) then ((some (([(⟨#[106, 111, 105, 110]⟩ : ByteArray), a0_1, rdOf ByteArray.empty t386 a0_6] : List ByteArray) : List ByteArray)).bind fun y390 => (if y390.length + l0_5.length < 8796093022208 then (some (y390 ++ l0_5)) else (none))) else (none)) else (none)) = some r := H
       have A74 := aM A740
       clear A740
       by_cases c75 : 0 ≤ a0_6
       ·rw [if_pos c75] at H
        have c75b0 : decide (0 ≤ a0_6) = true := decide_eq_true c75
        clear c75
        by_cases c76 : a0_6 < (t386.length : Int)
        ·rw [if_pos c76] at H
         have c76b0 : decide (a0_6 < (t386.length : Int)) = true := decide_eq_true c76
         clear c76
         obtain ⟨y390, hy390⟩ : ∃ y_ : List ByteArray, y_ = (([(⟨#[106, 111, 105, 110]⟩ : ByteArray), a0_1, rdOf ByteArray.empty t386 a0_6] : List ByteArray)) := ⟨_, rfl⟩
         replace H : (if y390.length + l0_5.length < 8796093022208 then (some (y390 ++ l0_5)) else (none)) = some r := by first | (rw [hy390]; with_reducible exact H) | (have H2_ := bS H; rw [hy390]; with_reducible exact H2_) | (have H2_ := bS H; with_reducible exact H2_) | with_reducible exact H | (rw [hy390]; exact H) | exact H
         have Ny390 := aM hy390
         clear hy390
         by_cases c77 : y390.length + l0_5.length < 8796093022208
         ·rw [if_pos c77] at H
          have LMc77 := aM c77
          clear c77
          obtain ⟨y393, hy393⟩ : ∃ y_ : List ByteArray, y_ = (y390 ++ l0_5) := ⟨_, rfl⟩
          replace H : (some y393) = some r := by first | (rw [hy393]; with_reducible exact H) | (have H2_ := bS H; rw [hy393]; with_reducible exact H2_) | (have H2_ := bS H; with_reducible exact H2_) | with_reducible exact H | (rw [hy393]; exact H) | exact H
          have Ny393 := aM hy393
          clear hy393
          obtain rfl := Option.some.inj H
          go_enter Try.func38, Try.ntmps38
          try go_wp2_with (first | ((with_reducible refine gate_dst (N := 1) rfl ?_); refine box_event ?hg (N := 1) ?hd (cs := #[.int .i64 a0_0, .string a0_1, .slice A0_2 l0_2.length c0_2, .slice A0_3 l0_3.length c0_3, .slice A0_4 l0_4.length c0_4, .slice A0_5 l0_5.length c0_5, .int .i64 a0_6]) (t := 39) ?hr ?_; (case hd => rfl); (case hg => rfl); (case hr => first | (go_simp; done) | (go_simp; rfl)); intro gb335 hg w78 hbox hb; have n0_ := aM (Kd.V_below (Kd.V_elderB (by (with_reducible repeat (first | apply Kd.V_alloc | apply Kd.V_drewN | apply Kd.V_drew)); exact HO0_2.out) gb335 (Nat.le_of_eq hg.symm)) hb); have n1_ := aM (Kd.V_below (Kd.V_elderB (by (with_reducible repeat (first | apply Kd.V_alloc | apply Kd.V_drewN | apply Kd.V_drew)); exact HO0_3.out) gb335 (Nat.le_of_eq hg.symm)) hb); have n2_ := aM (Kd.V_below (Kd.V_elderB (by (with_reducible repeat (first | apply Kd.V_alloc | apply Kd.V_drewN | apply Kd.V_drew)); exact HO0_4.out) gb335 (Nat.le_of_eq hg.symm)) hb); have n3_ := aM (Kd.V_below (Kd.V_elderB (by (with_reducible repeat (first | apply Kd.V_alloc | apply Kd.V_drewN | apply Kd.V_drew)); exact HO0_5.out) gb335 (Nat.le_of_eq hg.symm)) hb); have n4_ := aM (below_step bQ hb); have n5_ := aM (hbox); have n6_ := aM ((by rw [hg]; exact (below_size bQ) : w.heap.size ≤ gb335)); have n7_ := aM ((by rw [hg]; exact (below_size bQ) : w.heap.size ≤ gb335)); clear HO0_2; clear HO0_3; clear HO0_4; clear HO0_5; clear HB; have HO0_2 := n0_; have HO0_3 := n1_; have HO0_4 := n2_; have HO0_5 := n3_; have HB := n4_; have BK335 := n5_; have GW335 := n6_; have GE335 := n7_; clear n0_ n1_ n2_ n3_ n4_ n5_ n6_ n7_; clear hb hbox hg; obtain ⟨hcz79_0, hcz79_1, hcz79_2, hcz79_3, hcz79_4, hcz79_5, hcz79_6⟩ := cl7 BK335.out; obtain ⟨hfz79_0, hfz79_1, hfz79_2, hfz79_3, hfz79_4, hfz79_5⟩ := fz6 BK335.out; have hfz79_6 := blk_frozen BK335.out 6))
          have n0_ := aM (Kd.V_drew HO0_2.out)
          have n1_ := aM (Kd.V_drew HO0_3.out)
          have n2_ := aM (Kd.V_drew HO0_4.out)
          have n3_ := aM (Kd.V_drew HO0_5.out)
          have n4_ := aM (blk_drew BK335.out)
          have n5_ := aM (below_drew1 HB.out)
          clear HO0_2
          clear HO0_3
          clear HO0_4
          clear HO0_5
          clear BK335
          clear HB
          have HO0_2 := n0_
          have HO0_3 := n1_
          have HO0_4 := n2_
          have HO0_5 := n3_
          have BK335 := n4_
          have HB := n5_
          clear n0_ n1_ n2_ n3_ n4_ n5_
          refine start_ (n := 12) (S := fun w' => w'.cell? ⟨gb335, 0, none⟩ = some (.int .i64 a0_0) ∧ w'.cell? ⟨gb335, 1, none⟩ = some (.string a0_1) ∧ w'.cell? ⟨gb335, 2, none⟩ = some (.slice A0_2 l0_2.length c0_2) ∧ w'.cell? ⟨gb335, 3, none⟩ = some (.slice A0_3 l0_3.length c0_3) ∧ w'.cell? ⟨gb335, 4, none⟩ = some (.slice A0_4 l0_4.length c0_4) ∧ w'.cell? ⟨gb335, 5, none⟩ = some (.slice A0_5 l0_5.length c0_5) ∧ w'.cell? ⟨gb335, 6, none⟩ = some (.int .i64 a0_6)) (ds := [10]) mkimpl_l483_8 (by kernel_rfl) rfl rfl ⟨(blk_cell BK335.out 0).trans rfl, (blk_cell BK335.out 1).trans rfl, (blk_cell BK335.out 2).trans rfl, (blk_cell BK335.out 3).trans rfl, (blk_cell BK335.out 4).trans rfl, (blk_cell BK335.out 5).trans rfl, (blk_cell BK335.out 6).trans rfl⟩ (fun hHeld => ?_); refine with_tabW impl_lineWords.tab15 impl_lineWords.bits15 (fun HT_ HW_ => ?_)
          generalize w78.drew = w80 at HO0_2 HO0_3 HO0_4 HO0_5 BK335 HB hHeld ⊢
          refine pQ (i := 0) (N := some 79) mkimpl_l483_10 ?_
          refine pQ (i := 3) (N := some 82) mkimpl_l483_13 ?_
          refine pQ (i := 8) (N := some 87) mkimpl_l483_16 ?_
          refine tQ (i := 1) (N := some 80) mkimpl_l483_19 rfl hHeld (Or.inl ⟨by rfl, by rintro w' ⟨s0, s1, s2, s3, s4, s5, s6⟩; go_simp; with_reducible rfl⟩) ?_
          refine tQ (i := 4) (N := some 83) mkimpl_l483_22 rfl hHeld (Or.inl ⟨by rfl, by rintro w' ⟨s0, s1, s2, s3, s4, s5, s6⟩; go_simp; with_reducible rfl⟩) ?_
          refine tQ (i := 9) (N := some 88) mkimpl_l483_25 rfl hHeld (Or.inl ⟨by rfl, by rintro w' ⟨s0, s1, s2, s3, s4, s5, s6⟩; go_simp; with_reducible rfl⟩) ?_
          refine one_ (i := 2) (N := some 81) mkimpl_l483_27 rfl rfl (one_of HT_.out (by kernel_rfl)) (by decide) (fun K hK => ?_)
          refine goes_ Try.func64 (by kernel_rfl) rfl #[] (by rfl) rfl rfl gQ ?_
          with_reducible refine (impl_joinKinds.calls  t386 _ A74.out).mono ?_
          rintro e w81 ⟨v387, rfl, ho0, hb⟩
          refine ⟨_, rfl, ?_⟩
          have n0_ := aM (Kd.V_elder' (by (with_reducible repeat (first | apply Kd.V_alloc | apply Kd.V_drewN | apply Kd.V_drew)); exact HO0_2.out) (Kd.R_base ho0) hb)
          have n1_ := aM (Kd.V_elder' (by (with_reducible repeat (first | apply Kd.V_alloc | apply Kd.V_drewN | apply Kd.V_drew)); exact HO0_3.out) (Kd.R_base ho0) hb)
          have n2_ := aM (Kd.V_elder' (by (with_reducible repeat (first | apply Kd.V_alloc | apply Kd.V_drewN | apply Kd.V_drew)); exact HO0_4.out) (Kd.R_base ho0) hb)
          have n3_ := aM (Kd.V_elder' (by (with_reducible repeat (first | apply Kd.V_alloc | apply Kd.V_drewN | apply Kd.V_drew)); exact HO0_5.out) (Kd.R_base ho0) hb)
          have n4_ := aM (Kd.R_lower (Kd.R_newM (M := fun k_ => (w.heap.size ≤ k_)) ho0 (below_size (by repeat (first | (with_reducible first | exact HB.out | apply bA | apply bN | apply bD | refine below_set ?_ GE335.out) | exact HB.out))) (fun k_ h_ => h_)) (below_size (by repeat (first | (with_reducible first | exact HB.out | apply bA | apply bN | apply bD | refine below_set ?_ GE335.out) | exact HB.out))))
          have n5_ := aM (blk_below (g := gb335) (o := .cells #[.int .i64 a0_0, .string a0_1, .slice A0_2 l0_2.length c0_2, .slice A0_3 l0_3.length c0_3, .slice A0_4 l0_4.length c0_4, .slice A0_5 l0_5.length c0_5, .int .i64 a0_6] 39 (0, 0)) (by (with_reducible repeat (first | refine blk_drewN ?_ _ | refine blk_drew ?_ | refine blk_alloc ?_ _)); exact BK335.out) hb)
          have n6_ := aM (below_step (by repeat (first | (with_reducible first | exact HB.out | apply bA | apply bN | apply bD | refine below_set ?_ GE335.out) | exact HB.out)) hb)
          clear HO0_2
          clear HO0_3
          clear HO0_4
          clear HO0_5
          clear BK335
          clear HB
          have HO0_2 := n0_
          have HO0_3 := n1_
          have HO0_4 := n2_
          have HO0_5 := n3_
          have HO388 := n4_
          have BK335 := n5_
          have HB := n6_
          clear n0_ n1_ n2_ n3_ n4_ n5_ n6_
          (try clear hb)
          (try clear hb2)
          (try clear hk)
          (try clear hi)
          (try clear ho0)
          obtain ⟨Ao82, co82, eo82⟩ := Kd.R_slice HO388.out
          (first | subst eo82 | (injection eo82 with f1_ f2_ f3_; have f4_ := f1_.symm; have f5_ := f3_.symm; clear f1_ f2_ f3_; subst f4_; subst f5_))
          have p389 : 0 ≤ (a0_6 : Int) := dA
          have q389 : a0_6 < (t386.length : Int) := dA
          obtain ⟨ad389, e389, hx389_0⟩ := Kd.at_string (Kd.R_reads' HO388.out).2.2 a0_6 p389 q389
          cases e389
          replace p389 := eq_true p389
          replace q389 := eq_true q389
          refine hK.out _ _ ⟨(blk_cell BK335.out 0).trans rfl, (blk_cell BK335.out 1).trans rfl, (blk_cell BK335.out 2).trans rfl, (blk_cell BK335.out 3).trans rfl, (blk_cell BK335.out 4).trans rfl, (blk_cell BK335.out 5).trans rfl, (blk_cell BK335.out 6).trans rfl⟩ (fun hHeld => ?_)
          clear hK K
          refine norm_ (a' := ?_) ?_ ?_
          rotate_left
          ·show Act.put _ (some 81) _ = _
           simp only [Act.put, sI, sZ, sS, i64_w, i32_w]
           rfl
          refine pQ (i := 5) (N := some 84) mkimpl_l483_29 ?_
          refine one_ (i := 6) (N := some 85) mkimpl_l483_31 rfl rfl (one_of HT_.out (by kernel_rfl)) (by decide) (fun K hK => ?_)
          refine value_ (v := .string (rdOf ByteArray.empty t386 a0_6)) (w1 := w81) (by rfl) rfl (by first | (go_simp; done) | (go_simp; rfl)) ?_
          refine hK.out _ _ ⟨(blk_cell BK335.out 0).trans rfl, (blk_cell BK335.out 1).trans rfl, (blk_cell BK335.out 2).trans rfl, (blk_cell BK335.out 3).trans rfl, (blk_cell BK335.out 4).trans rfl, (blk_cell BK335.out 5).trans rfl, (blk_cell BK335.out 6).trans rfl⟩ (fun hHeld => ?_)
          clear hK K
          refine norm_ (a' := ?_) ?_ ?_
          rotate_left
          ·show Act.put _ (some 85) _ = _
           simp only [Act.put, sI, sZ, sS, i64_w, i32_w]
           rfl
          refine one_ (i := 7) (N := some 86) mkimpl_l483_32 rfl rfl (one_of HT_.out (by kernel_rfl)) (by decide) (fun K hK => ?_)
          refine Kd.R_lit_step Kd.string _ 9 ?hg (N := 86) ?hd (xs := ([(⟨#[106, 111, 105, 110]⟩ : ByteArray), a0_1, rdOf ByteArray.empty t386 a0_6] : List ByteArray)) (inner := [.string (⟨#[106, 111, 105, 110]⟩ : ByteArray), .string a0_1, .string (rdOf ByteArray.empty t386 a0_6)]) (ok := fun _ => True) (okp := fun _ => True) ?hr ?hp (fun _ hk => hk) trivial (Below.refl _ _) (Nat.le_refl _) (by simp) ?_; (case hd => rfl); (case hg => rfl); (case hr => first | (go_simp; done) | (go_simp; rfl)); (case hp => exact (Reps.one (show Kd.M Kd.string _ _ _ (⟨#[106, 111, 105, 110]⟩ : ByteArray) [.string (⟨#[106, 111, 105, 110]⟩ : ByteArray)] from rfl) (Reps.one (show Kd.M Kd.string _ _ _ a0_1 [.string a0_1] from rfl) (Reps.one (show Kd.M Kd.string _ _ _ (rdOf ByteArray.empty t386 a0_6) [.string (rdOf ByteArray.empty t386 a0_6)] from rfl) (Reps.none _ _)))))
          intro v391 w83 ho84 hb hg_ hnew_
          clear hg_ hnew_
          (first | rw [← Ny390.out] at ho84 | (simp only [Int.reduceToNat] at ho84; rw [← Ny390.out] at ho84))
          have n0_ := aM (Kd.V_elder' (by (with_reducible repeat (first | apply Kd.V_alloc | apply Kd.V_drewN | apply Kd.V_drew)); exact HO0_2.out) (Kd.R_base ho84) hb)
          have n1_ := aM (Kd.V_elder' (by (with_reducible repeat (first | apply Kd.V_alloc | apply Kd.V_drewN | apply Kd.V_drew)); exact HO0_3.out) (Kd.R_base ho84) hb)
          have n2_ := aM (Kd.V_elder' (by (with_reducible repeat (first | apply Kd.V_alloc | apply Kd.V_drewN | apply Kd.V_drew)); exact HO0_4.out) (Kd.R_base ho84) hb)
          have n3_ := aM (Kd.V_elder' (by (with_reducible repeat (first | apply Kd.V_alloc | apply Kd.V_drewN | apply Kd.V_drew)); exact HO0_5.out) (Kd.R_base ho84) hb)
          have n4_ := aM (Kd.R_elder' (by (with_reducible repeat (first | apply rA | apply rN | apply rD)); exact HO388.out) (Kd.R_base ho84) hb)
          have n5_ := aM (Kd.R_lower (Kd.R_new' (Kd.R_newM (M := fun k_ => (w.heap.size ≤ k_)) ho84 (below_size (by repeat (first | (with_reducible first | exact HB.out | apply bA | apply bN | apply bD | refine below_set ?_ GE335.out) | exact HB.out))) (fun k_ h_ => h_)) (Kd.R_lt (by (with_reducible repeat (first | apply rA | apply rN | apply rD)); exact HO388.out))) (below_size (by repeat (first | (with_reducible first | exact HB.out | apply bA | apply bN | apply bD | refine below_set ?_ GE335.out) | exact HB.out))))
          have n6_ := aM (blk_below (g := gb335) (o := .cells #[.int .i64 a0_0, .string a0_1, .slice A0_2 l0_2.length c0_2, .slice A0_3 l0_3.length c0_3, .slice A0_4 l0_4.length c0_4, .slice A0_5 l0_5.length c0_5, .int .i64 a0_6] 39 (0, 0)) (by (with_reducible repeat (first | refine blk_drewN ?_ _ | refine blk_drew ?_ | refine blk_alloc ?_ _)); exact BK335.out) hb)
          have n7_ := aM (below_step (by repeat (first | (with_reducible first | exact HB.out | apply bA | apply bN | apply bD | refine below_set ?_ GE335.out) | exact HB.out)) hb)
          clear HO0_2
          clear HO0_3
          clear HO0_4
          clear HO0_5
          clear HO388
          clear BK335
          clear HB
          have HO0_2 := n0_
          have HO0_3 := n1_
          have HO0_4 := n2_
          have HO0_5 := n3_
          have HO388 := n4_
          have HO392 := n5_
          have BK335 := n6_
          have HB := n7_
          clear n0_ n1_ n2_ n3_ n4_ n5_ n6_ n7_
          clear hb ho84
          refine hK.out _ _ ⟨(blk_cell BK335.out 0).trans rfl, (blk_cell BK335.out 1).trans rfl, (blk_cell BK335.out 2).trans rfl, (blk_cell BK335.out 3).trans rfl, (blk_cell BK335.out 4).trans rfl, (blk_cell BK335.out 5).trans rfl, (blk_cell BK335.out 6).trans rfl⟩ (fun hHeld => ?_)
          clear hK K
          refine norm_ (a' := ?_) ?_ ?_
          rotate_left
          ·show Act.put _ (some 86) _ = _
           simp only [Act.put, sI, sZ, sS, i64_w, i32_w]
           rfl
          refine last_ (i := 10) (N := some 89) mkimpl_l483_33 rfl rfl (one_of HT_.out (by kernel_rfl)) (by decide) (fun K hK => ?_)
          refine Kd.R_append_rows_step Kd.string (w0 := w) w.heap.size (by rfl) (.tmp 86) (.tmp 88) 34 9 (.string ⟨#[]⟩) 16 rfl Try.underlying34 info9 rfl (by decide) (by omega) v391 y390 l0_5 _ _ _ (fun k_ => (w.heap.size ≤ k_) ∧ some k_ ≠ (.slice (some ad389) t386.length co82 : Value).ownBlock) (fun _ => False) rfl rfl ?aO ?aR (fun _ _ h => h) (fun _ h => h.elim) ?aF ?aB ?aS ?aL ?_
          (case aR => repeat (first | exact (Kd.V_reads' HO0_5.out).2.2 | (with_reducible first | refine cA ?_ _ | refine cN ?_ _ | refine cD ?_)))
          (case aB => exact (by repeat (first | (with_reducible first | exact HB.out | apply bA | apply bN | apply bD | refine below_set ?_ GE335.out) | exact HB.out)))
          (case aF => exact (fun k_ hk => ⟨(Nat.le_trans (below_size (by repeat (first | (with_reducible first | exact HB.out | apply bA | apply bN | apply bD | refine below_set ?_ GE335.out) | exact HB.out))) hk), Kd.fresh' (Kd.R_lt (by (with_reducible repeat (first | apply rA | apply rN | apply rD)); exact HO388.out)) k_ hk⟩))
          (case aO => exact (by (with_reducible repeat (first | apply rA | apply rN | apply rD)); exact Kd.R_mono HO392.out (fun _ hk => ⟨hk.1.1, hk.2⟩)))
          (case aS => exact (below_size (by repeat (first | (with_reducible first | exact HB.out | apply bA | apply bN | apply bD | refine below_set ?_ GE335.out) | exact HB.out))))
          (case aL => have := LMc77.out; omega)
          intro v394 w85 ho hb hg hat
          rw [← Ny393.out] at ho
          have n0_ := aM (Kd.V_afterv (ok := (fun k_ => ((P0_2_ k_ ∨ P0_3_ k_ ∨ P0_4_ k_ ∨ P0_5_ k_) ∨ w.heap.size ≤ k_) ∧ some k_ ≠ (.slice (some ad389) t386.length co82 : Value).ownBlock ∧ k_ ≠ gb335)) (by (with_reducible repeat (first | apply Kd.V_alloc | apply Kd.V_drewN | apply Kd.V_drew)); exact Kd.V_mono HO0_2.out (fun _ hk => ⟨⟨hk.1.1.1, ⟨hk.1.2, hk.1.1.2⟩⟩, hk.2⟩)) hg hat)
          have n1_ := aM (Kd.V_afterv (ok := (fun k_ => ((P0_2_ k_ ∨ P0_3_ k_ ∨ P0_4_ k_ ∨ P0_5_ k_) ∨ w.heap.size ≤ k_) ∧ some k_ ≠ (.slice (some ad389) t386.length co82 : Value).ownBlock ∧ k_ ≠ gb335)) (by (with_reducible repeat (first | apply Kd.V_alloc | apply Kd.V_drewN | apply Kd.V_drew)); exact Kd.V_mono HO0_3.out (fun _ hk => ⟨⟨hk.1.1.1, ⟨hk.1.2, hk.1.1.2⟩⟩, hk.2⟩)) hg hat)
          have n2_ := aM (Kd.V_afterv (ok := (fun k_ => ((P0_2_ k_ ∨ P0_3_ k_ ∨ P0_4_ k_ ∨ P0_5_ k_) ∨ w.heap.size ≤ k_) ∧ some k_ ≠ (.slice (some ad389) t386.length co82 : Value).ownBlock ∧ k_ ≠ gb335)) (by (with_reducible repeat (first | apply Kd.V_alloc | apply Kd.V_drewN | apply Kd.V_drew)); exact Kd.V_mono HO0_4.out (fun _ hk => ⟨⟨hk.1.1.1, ⟨hk.1.2, hk.1.1.2⟩⟩, hk.2⟩)) hg hat)
          have n3_ := aM (Kd.V_afterv (ok := (fun k_ => ((P0_2_ k_ ∨ P0_3_ k_ ∨ P0_4_ k_ ∨ P0_5_ k_) ∨ w.heap.size ≤ k_) ∧ some k_ ≠ (.slice (some ad389) t386.length co82 : Value).ownBlock ∧ k_ ≠ gb335)) (by (with_reducible repeat (first | apply Kd.V_alloc | apply Kd.V_drewN | apply Kd.V_drew)); exact Kd.V_mono HO0_5.out (fun _ hk => ⟨⟨hk.1.1.1, ⟨hk.1.2, hk.1.1.2⟩⟩, hk.2⟩)) hg hat)
          have n4_ := aM (blk_grown (g := gb335) (o := .cells #[.int .i64 a0_0, .string a0_1, .slice A0_2 l0_2.length c0_2, .slice A0_3 l0_3.length c0_3, .slice A0_4 l0_4.length c0_4, .slice A0_5 l0_5.length c0_5, .int .i64 a0_6] 39 (0, 0)) (by (with_reducible repeat (first | refine blk_drewN ?_ _ | refine blk_drew ?_ | refine blk_alloc ?_ _)); exact BK335.out) hg (Kd.R_ne HO392.out BK335.out (by decide)))
          have n5_ := aM (Kd.R_after (ok := (fun k_ => (w.heap.size ≤ k_))) (by (with_reducible repeat (first | apply rA | apply rN | apply rD)); exact Kd.R_mono HO388.out (fun _ hk => ⟨hk.1.1, hk.2⟩)) hg hat)
          have n6_ := aM (hb)
          have n7_ := aM (ho)
          clear HO0_2
          clear HO0_3
          clear HO0_4
          clear HO0_5
          clear BK335
          clear HO388
          clear HB
          clear HO392
          have HO0_2 := n0_
          have HO0_3 := n1_
          have HO0_4 := n2_
          have HO0_5 := n3_
          have BK335 := n4_
          have HO388 := n5_
          have HB := n6_
          have HO395 := n7_
          clear n0_ n1_ n2_ n3_ n4_ n5_ n6_ n7_
          clear ho hb hg hat
          refine hK.out _ _ ?_
          clear hK K
          refine norm_ (a' := ?_) ?_ ?_
          rotate_left
          ·show Act.put _ (some 89) _ = _
           simp only [Act.put, sI, sZ, sS, i64_w, i32_w]
           rfl
          refine pQ (i := 11) (N := some 2) mkimpl_l483_34 ?_
          refine done_ (done_of HT_.out (by kernel_rfl)) ?_
          try go_wp2
          go_ret
          exact ⟨_, eQ, by (with_reducible repeat (first | apply rA | apply rN | apply rD)); exact Kd.R_mono HO395.out (fun _ hk => hk.1), by repeat (first | (with_reducible first | exact HB.out | apply bA | apply bN | apply bD | refine below_set ?_ GE335.out) | exact HB.out)⟩
         ·rw [if_neg c77] at H
          exact absurd H (by simp)
        ·rw [if_neg c76] at H
         exact absurd H (by simp)
       ·rw [if_neg c75] at H
        exact absurd H (by simp)
      ·rw [if_neg c73] at H
       have c73b0 : (a0_0 == 7) = false := beq_eq_false_iff_ne.mpr c73
       have c73b1 : (a0_0 != 7) = true := bne_iff_ne.mpr c73
       obtain ⟨y396, hy396⟩ : ∃ y_ : List ByteArray, y_ = (([(⟨#[101, 110, 100]⟩ : ByteArray)] : List ByteArray)) := ⟨_, rfl⟩
       replace H : (some y396) = some r := by first | (rw [hy396]; with_reducible exact H) | (have H2_ := bS H; rw [hy396]; with_reducible exact H2_) | (have H2_ := bS H; with_reducible exact H2_) | with_reducible exact H | (rw [hy396]; exact H) | exact H
       have Ny396 := aM hy396
       clear hy396
       obtain rfl := Option.some.inj H
       go_enter Try.func38, Try.ntmps38
       go_wp2_with (first | ((with_reducible refine gate_dst (N := 1) rfl ?_); refine box_event ?hg (N := 1) ?hd (cs := #[.int .i64 a0_0, .string a0_1, .slice A0_2 l0_2.length c0_2, .slice A0_3 l0_3.length c0_3, .slice A0_4 l0_4.length c0_4, .slice A0_5 l0_5.length c0_5, .int .i64 a0_6]) (t := 39) ?hr ?_; (case hd => rfl); (case hg => rfl); (case hr => first | (go_simp; done) | (go_simp; rfl)); intro gb335 hg w86 hbox hb; have n0_ := aM (Kd.V_below (Kd.V_elderB (by (with_reducible repeat (first | apply Kd.V_alloc | apply Kd.V_drewN | apply Kd.V_drew)); exact HO0_2.out) gb335 (Nat.le_of_eq hg.symm)) hb); have n1_ := aM (Kd.V_below (Kd.V_elderB (by (with_reducible repeat (first | apply Kd.V_alloc | apply Kd.V_drewN | apply Kd.V_drew)); exact HO0_3.out) gb335 (Nat.le_of_eq hg.symm)) hb); have n2_ := aM (Kd.V_below (Kd.V_elderB (by (with_reducible repeat (first | apply Kd.V_alloc | apply Kd.V_drewN | apply Kd.V_drew)); exact HO0_4.out) gb335 (Nat.le_of_eq hg.symm)) hb); have n3_ := aM (Kd.V_below (Kd.V_elderB (by (with_reducible repeat (first | apply Kd.V_alloc | apply Kd.V_drewN | apply Kd.V_drew)); exact HO0_5.out) gb335 (Nat.le_of_eq hg.symm)) hb); have n4_ := aM (below_step bQ hb); have n5_ := aM (hbox); have n6_ := aM ((by rw [hg]; exact (below_size bQ) : w.heap.size ≤ gb335)); have n7_ := aM ((by rw [hg]; exact (below_size bQ) : w.heap.size ≤ gb335)); clear HO0_2; clear HO0_3; clear HO0_4; clear HO0_5; clear HB; have HO0_2 := n0_; have HO0_3 := n1_; have HO0_4 := n2_; have HO0_5 := n3_; have HB := n4_; have BK335 := n5_; have GW335 := n6_; have GE335 := n7_; clear n0_ n1_ n2_ n3_ n4_ n5_ n6_ n7_; clear hb hbox hg; obtain ⟨hcz87_0, hcz87_1, hcz87_2, hcz87_3, hcz87_4, hcz87_5, hcz87_6⟩ := cl7 BK335.out; obtain ⟨hfz87_0, hfz87_1, hfz87_2, hfz87_3, hfz87_4, hfz87_5⟩ := fz6 BK335.out; have hfz87_6 := blk_frozen BK335.out 6) | ((with_reducible refine gate_dst (N := 90) rfl ?_); refine Kd.R_lit Kd.string _ 9 ?hg (N := 90) ?hd (xs := ([(⟨#[101, 110, 100]⟩ : ByteArray)] : List ByteArray)) (inner := [.string (⟨#[101, 110, 100]⟩ : ByteArray)]) (ok := fun _ => True) (okp := fun _ => True) ?hr ?hp (fun _ hk => hk) trivial (Below.refl _ _) (Nat.le_refl _) (by simp) ?_; (case hd => rfl); (case hg => rfl); (case hr => first | (go_simp; done) | (go_simp; rfl)); (case hp => exact (Reps.one (show Kd.M Kd.string _ _ _ (⟨#[101, 110, 100]⟩ : ByteArray) [.string (⟨#[101, 110, 100]⟩ : ByteArray)] from rfl) (Reps.none _ _))); intro v397 w88 ho89 hb hg_ hnew_; clear hg_ hnew_; (first | rw [← Ny396.out] at ho89 | (simp only [Int.reduceToNat] at ho89; rw [← Ny396.out] at ho89)); have n0_ := aM (Kd.V_elder' (by (with_reducible repeat (first | apply Kd.V_alloc | apply Kd.V_drewN | apply Kd.V_drew)); exact HO0_2.out) (Kd.R_base ho89) hb); have n1_ := aM (Kd.V_elder' (by (with_reducible repeat (first | apply Kd.V_alloc | apply Kd.V_drewN | apply Kd.V_drew)); exact HO0_3.out) (Kd.R_base ho89) hb); have n2_ := aM (Kd.V_elder' (by (with_reducible repeat (first | apply Kd.V_alloc | apply Kd.V_drewN | apply Kd.V_drew)); exact HO0_4.out) (Kd.R_base ho89) hb); have n3_ := aM (Kd.V_elder' (by (with_reducible repeat (first | apply Kd.V_alloc | apply Kd.V_drewN | apply Kd.V_drew)); exact HO0_5.out) (Kd.R_base ho89) hb); have n4_ := aM (Kd.R_lower (Kd.R_newM (M := fun k_ => (w.heap.size ≤ k_)) ho89 (below_size (by repeat (first | (with_reducible first | exact HB.out | apply bA | apply bN | apply bD | refine below_set ?_ GE335.out) | exact HB.out))) (fun k_ h_ => h_)) (below_size (by repeat (first | (with_reducible first | exact HB.out | apply bA | apply bN | apply bD | refine below_set ?_ GE335.out) | exact HB.out)))); have n5_ := aM (blk_below (g := gb335) (o := .cells #[.int .i64 a0_0, .string a0_1, .slice A0_2 l0_2.length c0_2, .slice A0_3 l0_3.length c0_3, .slice A0_4 l0_4.length c0_4, .slice A0_5 l0_5.length c0_5, .int .i64 a0_6] 39 (0, 0)) (by (with_reducible repeat (first | refine blk_drewN ?_ _ | refine blk_drew ?_ | refine blk_alloc ?_ _)); exact BK335.out) hb); have n6_ := aM (below_step (by repeat (first | (with_reducible first | exact HB.out | apply bA | apply bN | apply bD | refine below_set ?_ GE335.out) | exact HB.out)) hb); clear HO0_2; clear HO0_3; clear HO0_4; clear HO0_5; clear BK335; clear HB; have HO0_2 := n0_; have HO0_3 := n1_; have HO0_4 := n2_; have HO0_5 := n3_; have HO398 := n4_; have BK335 := n5_; have HB := n6_; clear n0_ n1_ n2_ n3_ n4_ n5_ n6_; clear hb ho89))
       go_ret
       exact ⟨_, eQ, by (with_reducible repeat (first | apply rA | apply rN | apply rD)); exact Kd.R_mono HO398.out (fun _ hk => hk.1), by repeat (first | (with_reducible first | exact HB.out | apply bA | apply bN | apply bD | refine below_set ?_ GE335.out) | exact HB.out)⟩

/-! ### impl_LineText: function 19 -/
def impl_LineText.f (k : Nat) (a0_0 : Int) (a0_1 : ByteArray) (l0_2 : List ByteArray) (l0_3 : List ByteArray) (l0_4 : List ByteArray) (l0_5 : List ByteArray) (a0_6 : Int) : Option (ByteArray) := (impl_ValidLine.f k a0_0 a0_1 l0_2 l0_3 l0_4 l0_5 a0_6).bind fun t400 => (if t400 = true then ((impl_lineWords.f k a0_0 a0_1 l0_2 l0_3 l0_4 l0_5 a0_6).bind fun t401 => ((strings_Join.f t401 (⟨#[32]⟩ : ByteArray)).bind fun t404 => (some t404))) else (some (⟨#[]⟩ : ByteArray)))
theorem impl_LineText.mono : ∀ a0 a1 a2 a3 a4 a5 a6 k, LeO (impl_LineText.f k a0 a1 a2 a3 a4 a5 a6) (impl_LineText.f (k + 1) a0 a1 a2 a3 a4 a5 a6) := by
 intro a0 a1 a2 a3 a4 a5 a6 k
 unfold impl_LineText.f
 repeat' first
   | (with_reducible exact impl_ValidLine.mono _ _ _ _ _ _ _ _)
   | (with_reducible exact impl_lineWords.mono _ _ _ _ _ _ _ _)
   | (with_reducible exact LeO.refl _)
   | (with_reducible exact LeO.none _)
   | (with_reducible refine LeO.ite ?_ ?_)
   | (with_reducible refine LeO.bind ?_ (fun _ => ?_))
   | exact impl_ValidLine.mono _ _ _ _ _ _ _ _
   | exact impl_lineWords.mono _ _ _ _ _ _ _ _
   | exact LeO.none _
   | refine LeO.ite ?_ ?_
   | refine LeO.bind ?_ (fun _ => ?_)
set_option maxHeartbeats 8000000 in
set_option maxRecDepth 100000 in
theorem impl_LineText.calls (k : Nat) (a0_0 : Int) (a0_1 : ByteArray) (A0_2 : Option Addr) (c0_2 : Nat) (l0_2 : List ByteArray) (A0_3 : Option Addr) (c0_3 : Nat) (l0_3 : List ByteArray) (A0_4 : Option Addr) (c0_4 : Nat) (l0_4 : List ByteArray) (A0_5 : Option Addr) (c0_5 : Nat) (l0_5 : List ByteArray) (a0_6 : Int) (r : ByteArray) (w : World) (hr0_2 : Kd.C Kd.string w A0_2 l0_2.length l0_2) (hc0_2 : l0_2.length ≤ c0_2) (hr0_3 : Kd.C Kd.string w A0_3 l0_3.length l0_3) (hc0_3 : l0_3.length ≤ c0_3) (hr0_4 : Kd.C Kd.string w A0_4 l0_4.length l0_4) (hc0_4 : l0_4.length ≤ c0_4) (hr0_5 : Kd.C Kd.string w A0_5 l0_5.length l0_5) (hc0_5 : l0_5.length ≤ c0_5) (h : impl_LineText.f k a0_0 a0_1 l0_2 l0_3 l0_4 l0_5 a0_6 = some r) :
  Calls Try.prog 19 #[.agg #[.int .i64 a0_0, .string a0_1, .slice A0_2 l0_2.length c0_2, .slice A0_3 l0_3.length c0_3, .slice A0_4 l0_4.length c0_4, .slice A0_5 l0_5.length c0_5, .int .i64 a0_6]] w fun e w' => e = .returned (.string r) ∧ Below w.heap.size w w' := by
 have hu39 := Try.underlying39
 have HR0_2 := aM hr0_2
 have HC0_2 := aM hc0_2
 clear hr0_2 hc0_2
 have HR0_3 := aM hr0_3
 have HC0_3 := aM hc0_3
 clear hr0_3 hc0_3
 have HR0_4 := aM hr0_4
 have HC0_4 := aM hc0_4
 clear hr0_4 hc0_4
 have HR0_5 := aM hr0_5
 have HC0_5 := aM hc0_5
 clear hr0_5 hc0_5
 have HB := aM (Below.refl w.heap.size w)
 have H : ((impl_ValidLine.f k a0_0 a0_1 l0_2 l0_3 l0_4 l0_5 a0_6).bind fun t400 => (if t400 = true then ((impl_lineWords.f k a0_0 a0_1 l0_2 l0_3 l0_4 l0_5 a0_6).bind fun t401 => ((strings_Join.f t401 (⟨#[32]⟩ : ByteArray)).bind fun t404 => (some t404))) else (some (⟨#[]⟩ : ByteArray)))) = some r := h
 clear h
 replace H := Option.bind_eq_some_iff.mp H
 obtain ⟨t400, A20, H⟩ := H
 replace H : (if t400 = true then ((impl_lineWords.f k a0_0 a0_1 l0_2 l0_3 l0_4 l0_5 a0_6).bind fun t401 => ((strings_Join.f t401 (⟨#[32]⟩ : ByteArray)).bind fun t404 => (some t404))) else (some (⟨#[]⟩ : ByteArray))) = some r := H
 have A2 := aM A20
 clear A20
 by_cases c3 : t400 = true
 ·subst c3
  have H1 : ((impl_lineWords.f k a0_0 a0_1 l0_2 l0_3 l0_4 l0_5 a0_6).bind fun t401 => ((strings_Join.f t401 (⟨#[32]⟩ : ByteArray)).bind fun t404 => (some t404))) = some r := by rw [if_pos rfl] at H; exact H
  clear H
  have H := H1
  clear H1
  replace H := Option.bind_eq_some_iff.mp H
  obtain ⟨t401, A40, H⟩ := H
  replace H : ((strings_Join.f t401 (⟨#[32]⟩ : ByteArray)).bind fun t404 => (some t404)) = some r := H
  have A4 := aM A40
  clear A40
  replace H := Option.bind_eq_some_iff.mp H
  obtain ⟨t404, A50, H⟩ := H
  replace H : (some t404) = some r := H
  have A5 := aM A50
  clear A50
  obtain rfl := Option.some.inj H
  go_enter Try.func19, Try.ntmps19
  go_wp2_with (first | ((with_reducible refine gate_dst (N := 1) rfl ?_); refine box_event ?hg (N := 1) ?hd (cs := #[.int .i64 a0_0, .string a0_1, .slice A0_2 l0_2.length c0_2, .slice A0_3 l0_3.length c0_3, .slice A0_4 l0_4.length c0_4, .slice A0_5 l0_5.length c0_5, .int .i64 a0_6]) (t := 39) ?hr ?_; (case hd => rfl); (case hg => rfl); (case hr => first | (go_simp; done) | (go_simp; rfl)); intro gb399 hg w6 hbox hb; have n0_ := aM (below_step bQ hb); have n1_ := aM (hbox); have n2_ := aM ((by rw [hg]; exact (below_size bQ) : w.heap.size ≤ gb399)); have n3_ := aM ((by rw [hg]; exact (below_size bQ) : w.heap.size ≤ gb399)); clear HB; have HB := n0_; have BK399 := n1_; have GW399 := n2_; have GE399 := n3_; clear n0_ n1_ n2_ n3_; clear hb hbox hg; obtain ⟨hcz7_0, hcz7_1, hcz7_2, hcz7_3, hcz7_4, hcz7_5, hcz7_6⟩ := cl7 BK399.out; obtain ⟨hfz7_0, hfz7_1, hfz7_2, hfz7_3, hfz7_4, hfz7_5⟩ := fz6 BK399.out; have hfz7_6 := blk_frozen BK399.out 6) | ((with_reducible refine gate_callee (f := 36) rfl ?_); refine goesL_ (some 4) rfl rfl Try.func36 (by kernel_rfl) rfl #[.agg #[.int .i64 a0_0, .string a0_1, .slice A0_2 l0_2.length c0_2, .slice A0_3 l0_3.length c0_3, .slice A0_4 l0_4.length c0_4, .slice A0_5 l0_5.length c0_5, .int .i64 a0_6]] rfl gQ ?_; (with_reducible refine (impl_ValidLine.calls k a0_0 a0_1 _ _ l0_2 _ _ l0_3 _ _ l0_4 _ _ l0_5 a0_6 true _ ?side1 ?side2 ?side3 ?side4 ?side5 ?side6 ?side7 ?side8 A2.out).mono ?_); (case side1 => exact cQ HR0_2.out); (case side2 => exact HC0_2.out); (case side3 => exact cQ HR0_3.out); (case side4 => exact HC0_3.out); (case side5 => exact cQ HR0_4.out); (case side6 => exact HC0_4.out); (case side7 => exact cQ HR0_5.out); (case side8 => exact HC0_5.out); rintro e w8 ⟨rfl, hb⟩; refine ⟨_, rfl, ?_⟩; have n0_ := aM (blk_below (g := gb399) (o := .cells #[.int .i64 a0_0, .string a0_1, .slice A0_2 l0_2.length c0_2, .slice A0_3 l0_3.length c0_3, .slice A0_4 l0_4.length c0_4, .slice A0_5 l0_5.length c0_5, .int .i64 a0_6] 39 (0, 0)) (by (with_reducible repeat (first | refine blk_drewN ?_ _ | refine blk_drew ?_ | refine blk_alloc ?_ _)); exact BK399.out) hb); have n1_ := aM (below_step (by repeat (first | (with_reducible first | exact HB.out | apply bA | apply bN | apply bD | refine below_set ?_ GE399.out) | exact HB.out)) hb); clear BK399; clear HB; have BK399 := n0_; have HB := n1_; clear n0_ n1_; (try clear hb); (try clear hb2); (try clear hk); (try clear hi); obtain ⟨hcz9_0, hcz9_1, hcz9_2, hcz9_3, hcz9_4, hcz9_5, hcz9_6⟩ := cl7 BK399.out; obtain ⟨hfz9_0, hfz9_1, hfz9_2, hfz9_3, hfz9_4, hfz9_5⟩ := fz6 BK399.out; have hfz9_6 := blk_frozen BK399.out 6) | ((with_reducible refine gate_callee (f := 38) rfl ?_); refine goesL_ (some 7) rfl rfl Try.func38 (by kernel_rfl) rfl #[.agg #[.int .i64 a0_0, .string a0_1, .slice A0_2 l0_2.length c0_2, .slice A0_3 l0_3.length c0_3, .slice A0_4 l0_4.length c0_4, .slice A0_5 l0_5.length c0_5, .int .i64 a0_6]] rfl gQ ?_; (with_reducible refine (impl_lineWords.calls k a0_0 a0_1 (fun k_ => k_ < w.heap.size) _ _ l0_2 (fun k_ => k_ < w.heap.size) _ _ l0_3 (fun k_ => k_ < w.heap.size) _ _ l0_4 (fun k_ => k_ < w.heap.size) _ _ l0_5 a0_6 t401 _ ?side1 ?side2 ?side3 ?side4 A4.out).mono ?_); (case side1 => exact Kd.V_mk HC0_2.out (Kd.F_below (Kd.C_F Kd.heap_string HR0_2.out) (by repeat (first | (with_reducible first | exact HB.out | apply bA | apply bN | apply bD | refine below_set ?_ GE399.out) | exact HB.out)))); (case side2 => exact Kd.V_mk HC0_3.out (Kd.F_below (Kd.C_F Kd.heap_string HR0_3.out) (by repeat (first | (with_reducible first | exact HB.out | apply bA | apply bN | apply bD | refine below_set ?_ GE399.out) | exact HB.out)))); (case side3 => exact Kd.V_mk HC0_4.out (Kd.F_below (Kd.C_F Kd.heap_string HR0_4.out) (by repeat (first | (with_reducible first | exact HB.out | apply bA | apply bN | apply bD | refine below_set ?_ GE399.out) | exact HB.out)))); (case side4 => exact Kd.V_mk HC0_5.out (Kd.F_below (Kd.C_F Kd.heap_string HR0_5.out) (by repeat (first | (with_reducible first | exact HB.out | apply bA | apply bN | apply bD | refine below_set ?_ GE399.out) | exact HB.out)))); rintro e w10 ⟨v402, rfl, ho0, hb⟩; refine ⟨_, rfl, ?_⟩; have n0_ := aM (Kd.R_lower (Kd.R_mono (ok' := fun k_ => True) ho0 (fun _ hk_ => trivial)) (below_size (by repeat (first | (with_reducible first | exact HB.out | apply bA | apply bN | apply bD | refine below_set ?_ GE399.out) | exact HB.out)))); have n1_ := aM (blk_below (g := gb399) (o := .cells #[.int .i64 a0_0, .string a0_1, .slice A0_2 l0_2.length c0_2, .slice A0_3 l0_3.length c0_3, .slice A0_4 l0_4.length c0_4, .slice A0_5 l0_5.length c0_5, .int .i64 a0_6] 39 (0, 0)) (by (with_reducible repeat (first | refine blk_drewN ?_ _ | refine blk_drew ?_ | refine blk_alloc ?_ _)); exact BK399.out) hb); have n2_ := aM (below_step (by repeat (first | (with_reducible first | exact HB.out | apply bA | apply bN | apply bD | refine below_set ?_ GE399.out) | exact HB.out)) hb); clear BK399; clear HB; have HO403 := n0_; have BK399 := n1_; have HB := n2_; clear n0_ n1_ n2_; (try clear hb); (try clear hb2); (try clear hk); (try clear hi); (try clear ho0); obtain ⟨Ao11, co11, eo11⟩ := Kd.R_slice HO403.out; subst eo11) | ((with_reducible refine gate_callee (f := 37) rfl ?_); refine goesL_ (some 8) rfl rfl Try.func37 (by kernel_rfl) rfl #[.slice Ao11 t401.length co11, .string (⟨#[32]⟩ : ByteArray)] rfl gQ ?_; (with_reducible refine (strings_Join.calls _ _ t401 (⟨#[32]⟩ : ByteArray) t404 _ ?side1 ?side2 A5.out).mono ?_); (case side1 => repeat (first | exact (Kd.R_reads' HO403.out).2.2 | (with_reducible first | refine cA ?_ _ | refine cN ?_ _ | refine cD ?_))); (case side2 => exact (Kd.R_reads' HO403.out).2.1); rintro e w12 ⟨rfl, hb⟩; refine ⟨_, rfl, ?_⟩; have n0_ := aM (Kd.R_below (by (with_reducible repeat (first | apply rA | apply rN | apply rD)); exact HO403.out) hb); have n1_ := aM (blk_below (g := gb399) (o := .cells #[.int .i64 a0_0, .string a0_1, .slice A0_2 l0_2.length c0_2, .slice A0_3 l0_3.length c0_3, .slice A0_4 l0_4.length c0_4, .slice A0_5 l0_5.length c0_5, .int .i64 a0_6] 39 (0, 0)) (by (with_reducible repeat (first | refine blk_drewN ?_ _ | refine blk_drew ?_ | refine blk_alloc ?_ _)); exact BK399.out) hb); have n2_ := aM (below_step (by repeat (first | (with_reducible first | exact HB.out | apply bA | apply bN | apply bD | refine below_set ?_ GE399.out) | exact HB.out)) hb); clear HO403; clear BK399; clear HB; have HO403 := n0_; have BK399 := n1_; have HB := n2_; clear n0_ n1_ n2_; (try clear hb); (try clear hb2); (try clear hk); (try clear hi)))
  go_ret
  exact ⟨eQ, by repeat (first | (with_reducible first | exact HB.out | apply bA | apply bN | apply bD | refine below_set ?_ GE399.out) | exact HB.out)⟩
 ·replace c3 := Bool.eq_false_iff.mpr c3
  subst c3
  have H1 : (some (⟨#[]⟩ : ByteArray)) = some r := by rw [if_neg (show ¬ (false = true) by decide)] at H; exact H
  clear H
  have H := H1
  clear H1
  obtain rfl := Option.some.inj H
  go_enter Try.func19, Try.ntmps19
  go_wp2_with (first | ((with_reducible refine gate_dst (N := 1) rfl ?_); refine box_event ?hg (N := 1) ?hd (cs := #[.int .i64 a0_0, .string a0_1, .slice A0_2 l0_2.length c0_2, .slice A0_3 l0_3.length c0_3, .slice A0_4 l0_4.length c0_4, .slice A0_5 l0_5.length c0_5, .int .i64 a0_6]) (t := 39) ?hr ?_; (case hd => rfl); (case hg => rfl); (case hr => first | (go_simp; done) | (go_simp; rfl)); intro gb399 hg w13 hbox hb; have n0_ := aM (below_step bQ hb); have n1_ := aM (hbox); have n2_ := aM ((by rw [hg]; exact (below_size bQ) : w.heap.size ≤ gb399)); have n3_ := aM ((by rw [hg]; exact (below_size bQ) : w.heap.size ≤ gb399)); clear HB; have HB := n0_; have BK399 := n1_; have GW399 := n2_; have GE399 := n3_; clear n0_ n1_ n2_ n3_; clear hb hbox hg; obtain ⟨hcz14_0, hcz14_1, hcz14_2, hcz14_3, hcz14_4, hcz14_5, hcz14_6⟩ := cl7 BK399.out; obtain ⟨hfz14_0, hfz14_1, hfz14_2, hfz14_3, hfz14_4, hfz14_5⟩ := fz6 BK399.out; have hfz14_6 := blk_frozen BK399.out 6) | ((with_reducible refine gate_callee (f := 36) rfl ?_); refine goesL_ (some 4) rfl rfl Try.func36 (by kernel_rfl) rfl #[.agg #[.int .i64 a0_0, .string a0_1, .slice A0_2 l0_2.length c0_2, .slice A0_3 l0_3.length c0_3, .slice A0_4 l0_4.length c0_4, .slice A0_5 l0_5.length c0_5, .int .i64 a0_6]] rfl gQ ?_; (with_reducible refine (impl_ValidLine.calls k a0_0 a0_1 _ _ l0_2 _ _ l0_3 _ _ l0_4 _ _ l0_5 a0_6 false _ ?side1 ?side2 ?side3 ?side4 ?side5 ?side6 ?side7 ?side8 A2.out).mono ?_); (case side1 => exact cQ HR0_2.out); (case side2 => exact HC0_2.out); (case side3 => exact cQ HR0_3.out); (case side4 => exact HC0_3.out); (case side5 => exact cQ HR0_4.out); (case side6 => exact HC0_4.out); (case side7 => exact cQ HR0_5.out); (case side8 => exact HC0_5.out); rintro e w15 ⟨rfl, hb⟩; refine ⟨_, rfl, ?_⟩; have n0_ := aM (blk_below (g := gb399) (o := .cells #[.int .i64 a0_0, .string a0_1, .slice A0_2 l0_2.length c0_2, .slice A0_3 l0_3.length c0_3, .slice A0_4 l0_4.length c0_4, .slice A0_5 l0_5.length c0_5, .int .i64 a0_6] 39 (0, 0)) (by (with_reducible repeat (first | refine blk_drewN ?_ _ | refine blk_drew ?_ | refine blk_alloc ?_ _)); exact BK399.out) hb); have n1_ := aM (below_step (by repeat (first | (with_reducible first | exact HB.out | apply bA | apply bN | apply bD | refine below_set ?_ GE399.out) | exact HB.out)) hb); clear BK399; clear HB; have BK399 := n0_; have HB := n1_; clear n0_ n1_; (try clear hb); (try clear hb2); (try clear hk); (try clear hi)))
  go_ret
  exact ⟨eQ, by repeat (first | (with_reducible first | exact HB.out | apply bA | apply bN | apply bD | refine below_set ?_ GE399.out) | exact HB.out)⟩

/-! ### impl_validSource_1: function 50 -/
def impl_validSource_1.f (k : Nat) (a0_0 : Int) (a0_1 : ByteArray) (l0_2 : List ByteArray) (l0_3 : List ByteArray) (l0_4 : List ByteArray) (l0_5 : List ByteArray) (a0_6 : Int) : Option (Bool) := (impl_ValidLine.f k a0_0 a0_1 l0_2 l0_3 l0_4 l0_5 a0_6).bind fun t406 => (some (!t406))
theorem impl_validSource_1.mono : ∀ a0 a1 a2 a3 a4 a5 a6 k, LeO (impl_validSource_1.f k a0 a1 a2 a3 a4 a5 a6) (impl_validSource_1.f (k + 1) a0 a1 a2 a3 a4 a5 a6) := by
 intro a0 a1 a2 a3 a4 a5 a6 k
 unfold impl_validSource_1.f
 repeat' first
   | (with_reducible exact impl_ValidLine.mono _ _ _ _ _ _ _ _)
   | (with_reducible exact LeO.refl _)
   | (with_reducible exact LeO.none _)
   | (with_reducible refine LeO.ite ?_ ?_)
   | (with_reducible refine LeO.bind ?_ (fun _ => ?_))
   | exact impl_ValidLine.mono _ _ _ _ _ _ _ _
   | exact LeO.none _
   | refine LeO.ite ?_ ?_
   | refine LeO.bind ?_ (fun _ => ?_)
set_option maxHeartbeats 8000000 in
set_option maxRecDepth 100000 in
theorem impl_validSource_1.calls (k : Nat) (a0_0 : Int) (a0_1 : ByteArray) (A0_2 : Option Addr) (c0_2 : Nat) (l0_2 : List ByteArray) (A0_3 : Option Addr) (c0_3 : Nat) (l0_3 : List ByteArray) (A0_4 : Option Addr) (c0_4 : Nat) (l0_4 : List ByteArray) (A0_5 : Option Addr) (c0_5 : Nat) (l0_5 : List ByteArray) (a0_6 : Int) (r : Bool) (w : World) (hr0_2 : Kd.C Kd.string w A0_2 l0_2.length l0_2) (hc0_2 : l0_2.length ≤ c0_2) (hr0_3 : Kd.C Kd.string w A0_3 l0_3.length l0_3) (hc0_3 : l0_3.length ≤ c0_3) (hr0_4 : Kd.C Kd.string w A0_4 l0_4.length l0_4) (hc0_4 : l0_4.length ≤ c0_4) (hr0_5 : Kd.C Kd.string w A0_5 l0_5.length l0_5) (hc0_5 : l0_5.length ≤ c0_5) (h : impl_validSource_1.f k a0_0 a0_1 l0_2 l0_3 l0_4 l0_5 a0_6 = some r) :
  Calls Try.prog 50 #[.agg #[.int .i64 a0_0, .string a0_1, .slice A0_2 l0_2.length c0_2, .slice A0_3 l0_3.length c0_3, .slice A0_4 l0_4.length c0_4, .slice A0_5 l0_5.length c0_5, .int .i64 a0_6]] w fun e w' => e = .returned (.bool r) ∧ Below w.heap.size w w' := by
 have hu39 := Try.underlying39
 have HR0_2 := aM hr0_2
 have HC0_2 := aM hc0_2
 clear hr0_2 hc0_2
 have HR0_3 := aM hr0_3
 have HC0_3 := aM hc0_3
 clear hr0_3 hc0_3
 have HR0_4 := aM hr0_4
 have HC0_4 := aM hc0_4
 clear hr0_4 hc0_4
 have HR0_5 := aM hr0_5
 have HC0_5 := aM hc0_5
 clear hr0_5 hc0_5
 have HB := aM (Below.refl w.heap.size w)
 have H : ((impl_ValidLine.f k a0_0 a0_1 l0_2 l0_3 l0_4 l0_5 a0_6).bind fun t406 => (some (!t406))) = some r := h
 clear h
 replace H := Option.bind_eq_some_iff.mp H
 obtain ⟨t406, A20, H⟩ := H
 replace H : (some (!t406)) = some r := H
 have A2 := aM A20
 clear A20
 obtain rfl := Option.some.inj H
 go_enter Try.func50, Try.ntmps50
 go_wp2_with (first | ((with_reducible refine gate_dst (N := 1) rfl ?_); refine box_event ?hg (N := 1) ?hd (cs := #[.int .i64 a0_0, .string a0_1, .slice A0_2 l0_2.length c0_2, .slice A0_3 l0_3.length c0_3, .slice A0_4 l0_4.length c0_4, .slice A0_5 l0_5.length c0_5, .int .i64 a0_6]) (t := 39) ?hr ?_; (case hd => rfl); (case hg => rfl); (case hr => first | (go_simp; done) | (go_simp; rfl)); intro gb405 hg w3 hbox hb; have n0_ := aM (below_step bQ hb); have n1_ := aM (hbox); have n2_ := aM ((by rw [hg]; exact (below_size bQ) : w.heap.size ≤ gb405)); have n3_ := aM ((by rw [hg]; exact (below_size bQ) : w.heap.size ≤ gb405)); clear HB; have HB := n0_; have BK405 := n1_; have GW405 := n2_; have GE405 := n3_; clear n0_ n1_ n2_ n3_; clear hb hbox hg; obtain ⟨hcz4_0, hcz4_1, hcz4_2, hcz4_3, hcz4_4, hcz4_5, hcz4_6⟩ := cl7 BK405.out; obtain ⟨hfz4_0, hfz4_1, hfz4_2, hfz4_3, hfz4_4, hfz4_5⟩ := fz6 BK405.out; have hfz4_6 := blk_frozen BK405.out 6) | ((with_reducible refine gate_callee (f := 36) rfl ?_); refine goesL_ (some 4) rfl rfl Try.func36 (by kernel_rfl) rfl #[.agg #[.int .i64 a0_0, .string a0_1, .slice A0_2 l0_2.length c0_2, .slice A0_3 l0_3.length c0_3, .slice A0_4 l0_4.length c0_4, .slice A0_5 l0_5.length c0_5, .int .i64 a0_6]] rfl gQ ?_; (with_reducible refine (impl_ValidLine.calls k a0_0 a0_1 _ _ l0_2 _ _ l0_3 _ _ l0_4 _ _ l0_5 a0_6 t406 _ ?side1 ?side2 ?side3 ?side4 ?side5 ?side6 ?side7 ?side8 A2.out).mono ?_); (case side1 => exact cQ HR0_2.out); (case side2 => exact HC0_2.out); (case side3 => exact cQ HR0_3.out); (case side4 => exact HC0_3.out); (case side5 => exact cQ HR0_4.out); (case side6 => exact HC0_4.out); (case side7 => exact cQ HR0_5.out); (case side8 => exact HC0_5.out); rintro e w5 ⟨rfl, hb⟩; refine ⟨_, rfl, ?_⟩; have n0_ := aM (blk_below (g := gb405) (o := .cells #[.int .i64 a0_0, .string a0_1, .slice A0_2 l0_2.length c0_2, .slice A0_3 l0_3.length c0_3, .slice A0_4 l0_4.length c0_4, .slice A0_5 l0_5.length c0_5, .int .i64 a0_6] 39 (0, 0)) (by (with_reducible repeat (first | refine blk_drewN ?_ _ | refine blk_drew ?_ | refine blk_alloc ?_ _)); exact BK405.out) hb); have n1_ := aM (below_step (by repeat (first | (with_reducible first | exact HB.out | apply bA | apply bN | apply bD | refine below_set ?_ GE405.out) | exact HB.out)) hb); clear BK405; clear HB; have BK405 := n0_; have HB := n1_; clear n0_ n1_; (try clear hb); (try clear hb2); (try clear hk); (try clear hi)))
 go_ret
 exact ⟨eQ, by repeat (first | (with_reducible first | exact HB.out | apply bA | apply bN | apply bD | refine below_set ?_ GE405.out) | exact HB.out)⟩

end Go.Proofs.Ytfabhfdjabehpaa.QFnExactSourceText
