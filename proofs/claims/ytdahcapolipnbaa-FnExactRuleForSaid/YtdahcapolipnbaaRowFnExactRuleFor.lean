/- FnExactRuleFor: called with any arguments that read as data the law returns true, and its arguments read afterwards as before. -/
import Derived.Test.YtdahcapolipnbaaRows
import Derived.Test.YtdahcapolipnbaaArgFnExactRuleFor
import Derived.Test.YtdahcapolipnbaaPureFnExactRuleFor
import Derived.WalkKit
import Derived.ProofKit
import Derived.OpenShut
import Derived.ShutString
import Derived.ChangeOld
import Derived.Below
import Derived.SizedLaws
import Derived.Carry
namespace Go.Proofs.Ytdahcapolipnbaa.fnExactRuleFor
open Go.ChangeShapes Go.WideShapes Go.ChangeAt Go.RowKit Go.Proofs.Ytdahcapolipnbaa.QFnExactRuleFor Go.Proofs.Ytdahcapolipnbaa.ArgFnExactRuleFor Go.Proofs.YtdahcapolipnbaaW.PrintWords Go.Proofs.Ytdahcapolipnbaa.Open
open Go.ChangeMaps (open_string shut_string)
set_option linter.unusedVariables false
theorem own : ownKnob Try.prog.godebug = none := by kernel_rfl
theorem laidOut : laidOutB Try.prog = true := by kernel_rfl
set_option maxRecDepth 100000 in
theorem lifted (os : Os) (started : os.Started) (H : Type) (enc : TypeId × Value → H) :
    ReturnsInHanded {} Try.checked os 9 .any (Rows.fnExactRuleForSpec.pre6 enc Try.prog Try.f9 Rows.fnExactRuleForRow.domain false) (Rows.fnExactRuleForSpec.post enc Try.prog Try.f9 false true false false) := by
  refine returnsInHanded_of_change_sized (C := Try.checked) own started (by kernel_rfl) Try.func9
    (ChangeSpec.witness6 (enc := enc) (C := Try.checked) false ⟨#[], #[.agg #[.string ByteArray.empty, .slice none 0 0], .slice none 0 0, .int .i64 0], []⟩ 8 (by kernel_rfl) (by kernel_rfl) (by kernel_rfl) (by kernel_rfl)) ?_
  intro W base args ds gs before hval0 hW hcnd hsz0 _
  have hval : ∀ (j : Nat) t v, Try.f9.params[j]? = some t → args[j]? = some v → Value.okWide Try.prog W .any base t v := hval0
  have hW' := hW
  obtain ⟨p, q, hA0, hV, rfl, hfz, hnd⟩ := hW
  have hA : DataW.TrodAll enc Try.prog W 0 (fun _ => true) true Try.f9.params.toList args.toList ds p := hA0
  rw [Try.params9] at hA hval
  obtain ⟨v0, vs0, d0, ds0, p0, q0, hargs, rfl, rfl, h0, r0⟩ := trodAll_cons hA
  obtain ⟨v1, vs1, d1, ds1, p1, q1, rfl, rfl, rfl, h1, r1⟩ := trodAll_cons r0
  obtain ⟨v2, vs2, d2, ds2, p2, q2, rfl, rfl, rfl, h2, r2⟩ := trodAll_cons r1
  obtain ⟨rfl, rfl, rfl⟩ := trodAll_nil r2
  obtain rfl : args = #[v0, v1, v2] := by cases args; simp_all
  obtain ⟨rfl, rfl⟩ := trodVars_none hV
  obtain ⟨cs0, rfl, hcs0⟩ := okWide_struct Try.underlying55 (hval 0 55 v0 rfl rfl)
  have k0 := h0
  have lt0 : ∀ x ∈ p0, x.block < W.heap.size := by obtain ⟨m, hm⟩ := k0; exact DataW.trod_lt m _ _ _ hm
  obtain ⟨fuel0, hf0⟩ := h0
  obtain ⟨⟨a0_0, l0_1⟩, z0, ⟨w0_0, w0_1⟩⟩ := (Opens.struct Try.underlying55 (by kernel_rfl) (OpensF.more rfl (by kernel_rfl) (o9 W) rfl (OpensF.one rfl (by kernel_rfl) (o53 W)))) H enc 0 _ true fuel0 _ _ hf0
  obtain ⟨_, _, ec0, rfl, ⟨A0_1, c0_1, rfl, hc0_1, hr0_1⟩⟩ := z0
  obtain rfl := Array.toList_inj.1 (ec0.trans (by rfl : _ = (#[Value.string a0_0, Value.slice A0_1 l0_1.length c0_1] : Array Value).toList))
  obtain ⟨a1, len1, cap1, rfl⟩ := okWide_slice Try.underlying42 (hval 1 42 v1 rfl rfl)
  have k1 := h1
  have lt1 : ∀ x ∈ p1, x.block < W.heap.size := by obtain ⟨m, hm⟩ := k1; exact DataW.trod_lt m _ _ _ hm
  obtain ⟨l1, z1, w1⟩ : ∃ l, (Kd.slice 109 k109).K W l [Value.slice a1 len1 cap1] ∧ w42 l := by
    obtain ⟨fuel, hf⟩ := h1
    exact o42 W H enc 0 _ true fuel _ _ hf
  obtain ⟨A1, c1, e1, hc1, hr1⟩ := z1
  simp only [List.cons.injEq, Value.slice.injEq, and_true] at e1
  obtain ⟨rfl, rfl, rfl⟩ := e1
  obtain ⟨a2, rfl, rfl, rfl, w2⟩ := open_int Try.underlying2 (hval 2 2 v2 rfl rfl) h2
  clear hA0 hval0 hsz0
  obtain ⟨k, h⟩ := Pure.FnExactRuleFor a0_0 l0_1 l1 a2 w0_0 w0_1 w1 w2
  refine (laws_FnExactRuleFor.calls k a0_0 _ _ l0_1 _ _ l1 a2 true W hr0_1 hc0_1 hr1 hc1 h).mono fun e W' ⟨he, bel0⟩ => ?_
  subst he
  have bel : Below W.heap.size W W' := bel0
  exact ⟨_, rfl, _, _, _, [], _, [], hW', trodAll_mk1 (shut_bool Try.underlying4 _), (trodAll_cons_mk (Below.trod laidOut (by kernel_rfl) (of_decide_eq_true (by kernel_rfl)) k0 bel lt0) (trodAll_cons_mk (Below.trod laidOut (by kernel_rfl) (of_decide_eq_true (by kernel_rfl)) k1 bel lt1) (trodAll_cons_mk (shut_int Try.underlying2 w2) trodAll_mk0))), rfl, bel.frame _, fun h => by cases h⟩
theorem over : Rows.fnExactRuleForRow.holds Try.pinned (OpenSpec.ofChange Rows.fnExactRuleForSpec) :=
  OpenClaim.holds_of_wide 9 Try.f9 rfl rfl rfl rfl rfl rfl rfl ⟨rfl, rfl, rfl, rfl, rfl⟩ rfl rfl rfl rfl rfl (by kernel_rfl) Try.func9 (by kernel_rfl)
    (of_decide_eq_true (by kernel_rfl)) (by unfold Func.isWrapper; first | (rw [if_pos (by decide +kernel)]; kernel_rfl) | (rw [if_neg (by decide +kernel)]; exact ⟨rfl, rfl⟩))
    (fun os started H enc _ => lifted os started H enc)
theorem proved : Rows.FnExactRuleForSaid := over
#print axioms proved
end Go.Proofs.Ytdahcapolipnbaa.fnExactRuleFor
namespace Go.Proofs.Ytdahcapolipnbaa
/-- The row, under a short name, for the claim. -/
theorem fnExactRuleFor_holds : Rows.FnExactRuleForSaid := fnExactRuleFor.proved
end Go.Proofs.Ytdahcapolipnbaa
