/- FnExactDifferentPixels: called with any arguments that read as data the law returns true, and its arguments read afterwards as before. -/
import Derived.Test.YthngjfipdfckkaaDoorRows
import Derived.Test.YthngjfipdfckkaaDoorArgFnExactDifferentPixels
import Derived.Test.YthngjfipdfckkaaDoorPureFnExactDifferentPixels
import Derived.Test.YthngjfipdfckkaaDoorTie
import Derived.Test.YthngjfipdfckkaaDoorCards
import Derived.Lay
import Derived.MakeChecks
import Derived.SevenTiedAt
import Derived.LaidOnce
import Derived.WalkKit
import Derived.ProofKit
import Derived.OpenShut
import Derived.ShutString
import Derived.ChangeOld
import Derived.Below
import Derived.SizedLaws
import Derived.Carry
namespace Go.Proofs.YthngjfipdfckkaaDoor.fnExactDifferentPixels
open Go.ChangeShapes Go.WideShapes Go.ChangeAt Go.RowKit Go.Proofs.YthngjfipdfckkaaDoor.QFnExactDifferentPixels Go.Proofs.YthngjfipdfckkaaDoor.ArgFnExactDifferentPixels Go.Proofs.YthngjfipdfckkaaDoorW.PrintWords Go.Proofs.YthngjfipdfckkaaDoor.Open
open Go.ChangeMaps (open_string shut_string)
set_option linter.unusedVariables false
theorem own : ownKnob Tryd.prog.godebug = none := by kernel_rfl
theorem laidOut : laidOutB Tryd.prog = true := by kernel_rfl
set_option maxRecDepth 100000 in
theorem lifted (os : Os) (started : os.Started) (H : Type) (enc : TypeId × Value → H) :
    ReturnsInHanded {} Tryd.checked os 5 .any (fun w args => (Rows.fnExactDifferentPixelsSpec.pre enc Tryd.prog Tryd.f5 [] false w args ∧ laidMetH Tryd.prog Rows.fnExactDifferentPixelsRow.laid w) ∧ sizedMet enc Tryd.prog Tryd.f5 (OpenSpec.ofChange Rows.fnExactDifferentPixelsSpec) false w args) (Rows.fnExactDifferentPixelsSpec.post enc Tryd.prog Tryd.f5 false true false false) := by
  refine returnsInHanded_of_change_and (C := Tryd.checked) (X := fun w _ => laidMetH Tryd.prog Rows.fnExactDifferentPixelsRow.laid w) (fun _ _ _ hh h => h.of_heap hh) own started (by kernel_rfl) Tryd.func5
    (ChangeSpec.witness_shaped (enc := enc) (C := Tryd.checked) (os := os) (X := fun w _ => laidMetH Tryd.prog Rows.fnExactDifferentPixelsRow.laid w) false (World.laidAll Tryd.prog os Rows.fnExactDifferentPixelsRow.laid) #[.agg #[.int .i64 0, .int .i64 0, .int .i64 0, .slice none 0 0], .agg #[.int .i64 0, .int .i64 0, .int .i64 0, .slice none 0 0]] 8 (World.laidAll_os _ _ _)
      (World.shaped_of_ZipB (by kernel_rfl) (by kernel_rfl)) (by kernel_rfl) (by kernel_rfl) (by kernel_rfl)
      (by rw [MakeChecks.laidMetH_plain _ _ _ (by kernel_rfl)]; exact laidMet_laidAll _ (by kernel_rfl) (by kernel_rfl))) ?_
  intro W base args ds gs before hval0 hW _ hsz0 hL _
  have hval : ∀ (j : Nat) t v, Tryd.f5.params[j]? = some t → args[j]? = some v → Value.okWide Tryd.prog W .any base t v := hval0
  have hW' := hW
  obtain ⟨p, q, hA0, hV, rfl, hfz, hnd⟩ := hW
  have hA : DataW.TrodAll enc Tryd.prog W 0 (fun _ => true) true Tryd.f5.params.toList args.toList ds p := hA0
  rw [Tryd.params5] at hA hval
  obtain ⟨v0, vs0, d0, ds0, p0, q0, hargs, rfl, rfl, h0, r0⟩ := trodAll_cons hA
  obtain ⟨v1, vs1, d1, ds1, p1, q1, rfl, rfl, rfl, h1, r1⟩ := trodAll_cons r0
  obtain ⟨rfl, rfl, rfl⟩ := trodAll_nil r1
  obtain rfl : args = #[v0, v1] := by cases args; simp_all
  obtain ⟨rfl, rfl⟩ := trodVars_none hV
  obtain ⟨cs0, rfl, hcs0⟩ := okWide_struct Tryd.underlying24 (hval 0 24 v0 rfl rfl)
  have k0 := h0
  have lt0 : ∀ x ∈ p0, x.block < W.heap.size := by obtain ⟨m, hm⟩ := k0; exact DataW.trod_lt m _ _ _ hm
  obtain ⟨fuel0, hf0⟩ := h0
  obtain ⟨⟨a0_0, a0_1, a0_2, l0_3⟩, z0, ⟨w0_0, w0_1, w0_2, w0_3⟩⟩ := (Opens.struct Tryd.underlying24 (by kernel_rfl) (OpensF.more rfl (by kernel_rfl) (o2 W) rfl (OpensF.more rfl (by kernel_rfl) (o2 W) rfl (OpensF.more rfl (by kernel_rfl) (o2 W) rfl (OpensF.one rfl (by kernel_rfl) (o22 W)))))) H enc 0 _ true fuel0 _ _ hf0
  obtain ⟨_, _, ec0, rfl, ⟨_, _, rfl, rfl, ⟨_, _, rfl, rfl, ⟨A0_3, c0_3, rfl, hc0_3, hr0_3⟩⟩⟩⟩ := z0
  obtain rfl := Array.toList_inj.1 (ec0.trans (by rfl : _ = (#[Value.int .i64 a0_0, Value.int .i64 a0_1, Value.int .i64 a0_2, Value.slice A0_3 l0_3.length c0_3] : Array Value).toList))
  obtain ⟨cs1, rfl, hcs1⟩ := okWide_struct Tryd.underlying24 (hval 1 24 v1 rfl rfl)
  have k1 := h1
  have lt1 : ∀ x ∈ p1, x.block < W.heap.size := by obtain ⟨m, hm⟩ := k1; exact DataW.trod_lt m _ _ _ hm
  obtain ⟨fuel1, hf1⟩ := h1
  obtain ⟨⟨a1_0, a1_1, a1_2, l1_3⟩, z1, ⟨w1_0, w1_1, w1_2, w1_3⟩⟩ := (Opens.struct Tryd.underlying24 (by kernel_rfl) (OpensF.more rfl (by kernel_rfl) (o2 W) rfl (OpensF.more rfl (by kernel_rfl) (o2 W) rfl (OpensF.more rfl (by kernel_rfl) (o2 W) rfl (OpensF.one rfl (by kernel_rfl) (o22 W)))))) H enc 0 _ true fuel1 _ _ hf1
  obtain ⟨_, _, ec1, rfl, ⟨_, _, rfl, rfl, ⟨_, _, rfl, rfl, ⟨A1_3, c1_3, rfl, hc1_3, hr1_3⟩⟩⟩⟩ := z1
  obtain rfl := Array.toList_inj.1 (ec1.trans (by rfl : _ = (#[Value.int .i64 a1_0, Value.int .i64 a1_1, Value.int .i64 a1_2, Value.slice A1_3 l1_3.length c1_3] : Array Value).toList))
  clear hA0 hval0 hsz0
  obtain ⟨k, h⟩ := Pure.FnExactDifferentPixels a0_0 a0_1 a0_2 l0_3 a1_0 a1_1 a1_2 l1_3 w0_0 w0_1 w0_2 w0_3 w1_0 w1_1 w1_2 w1_3
  refine (laws_FnExactDifferentPixels.calls k a0_0 a0_1 a0_2 _ _ l0_3 a1_0 a1_1 a1_2 _ _ l1_3 true W hr0_3 hc0_3 hr1_3 hc1_3 h).mono fun e W' ⟨he, bel0⟩ => ?_
  subst he
  have bel : Below W.heap.size W W' := bel0
  exact ⟨_, rfl, _, _, _, [], _, [], hW', trodAll_mk1 (shut_bool Tryd.underlying4 _), (trodAll_cons_mk (Below.trod laidOut (by kernel_rfl) (of_decide_eq_true (by kernel_rfl)) k0 bel lt0) (trodAll_cons_mk (Below.trod laidOut (by kernel_rfl) (of_decide_eq_true (by kernel_rfl)) k1 bel lt1) trodAll_mk0)), rfl, bel.frame _, fun h => by cases h⟩
theorem over : Rows.fnExactDifferentPixelsRow.holds Tryd.pinned (OpenSpec.ofChange Rows.fnExactDifferentPixelsSpec) :=
  OpenClaim.holds_of_wide 5 Tryd.f5 rfl rfl rfl rfl rfl rfl rfl ⟨rfl, rfl, rfl, rfl, rfl⟩ rfl rfl rfl rfl rfl (by kernel_rfl) Tryd.func5 (by kernel_rfl)
    (of_decide_eq_true (by kernel_rfl)) (by unfold Func.isWrapper; first | (rw [if_pos (by decide +kernel)]; kernel_rfl) | (rw [if_neg (by decide +kernel)]; exact ⟨rfl, rfl⟩))
    (fun os started H enc _ => lifted os started H enc)
theorem proved : Rows.FnExactDifferentPixelsSaid := over
theorem card : Rows.FnExactDifferentPixelsCardSaid :=
  Claim7.holds_tied_plain_at .later [] [.data, .pinned] true (true, "d900b71176f2fbdd3a6ebb26205113633831309c943babaa2273e2e10da40ba0") false
    over (fun _ h => by cases h) (by kernel_rfl) (fun _ h => by cases h) fnExactDifferentPixels_row_tie rfl ⟨rfl, rfl⟩ (by kernel_rfl) rfl
    (fun f fn hf hfn => by
      obtain rfl : f = 5 := Option.some.inj ((show Tryd.prog.funcNamed Rows.fnExactDifferentPixelsRow.func = some 5 by kernel_rfl).symm.trans hf) |>.symm
      obtain rfl : fn = Tryd.f5 := (Option.some.inj (Tryd.func5.symm.trans hfn)).symm
      refine ⟨by kernel_rfl, fun j t ht => ?_⟩
      rw [Tryd.params5] at ht
      rcases j with _ | j
      · obtain rfl : t = 24 := by simpa using ht.symm
        exact (show Tryd.prog.wantsStandIn 24 = false by kernel_rfl)
      rcases j with _ | j
      · obtain rfl : t = 24 := by simpa using ht.symm
        exact (show Tryd.prog.wantsStandIn 24 = false by kernel_rfl)
      · simp at ht)
    (by kernel_rfl)
#print axioms card
end Go.Proofs.YthngjfipdfckkaaDoor.fnExactDifferentPixels
namespace Go.Proofs.YthngjfipdfckkaaDoor
/-- The statement, under a short name, for the claim. -/
theorem fnExactDifferentPixels_holds : Rows.FnExactDifferentPixelsCardSaid := fnExactDifferentPixels.card
end Go.Proofs.YthngjfipdfckkaaDoor
