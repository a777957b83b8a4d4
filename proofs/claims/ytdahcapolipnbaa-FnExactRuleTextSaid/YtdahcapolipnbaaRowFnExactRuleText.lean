/- FnExactRuleText: called with any arguments that read as data the law returns true, and its arguments read afterwards as before. -/
import Derived.Test.YtdahcapolipnbaaRows
import Derived.Test.YtdahcapolipnbaaArgFnExactRuleText
import Derived.Test.YtdahcapolipnbaaPureFnExactRuleText
import Derived.WalkKit
import Derived.ProofKit
import Derived.OpenShut
import Derived.ShutString
import Derived.ChangeOld
import Derived.Below
import Derived.SizedLaws
import Derived.Carry
namespace Go.Proofs.Ytdahcapolipnbaa.fnExactRuleText
open Go.ChangeShapes Go.WideShapes Go.ChangeAt Go.RowKit Go.Proofs.Ytdahcapolipnbaa.QFnExactRuleText Go.Proofs.Ytdahcapolipnbaa.ArgFnExactRuleText Go.Proofs.YtdahcapolipnbaaW.PrintWords Go.Proofs.Ytdahcapolipnbaa.Open
open Go.ChangeMaps (open_string shut_string)
set_option linter.unusedVariables false
theorem own : ownKnob Try.prog.godebug = none := by kernel_rfl
theorem laidOut : laidOutB Try.prog = true := by kernel_rfl
set_option maxRecDepth 100000 in
theorem lifted (os : Os) (started : os.Started) (H : Type) (enc : TypeId × Value → H) :
    ReturnsInHanded {} Try.checked os 6 .any (Rows.fnExactRuleTextSpec.pre6 enc Try.prog Try.f6 Rows.fnExactRuleTextRow.domain false) (Rows.fnExactRuleTextSpec.post enc Try.prog Try.f6 false true false false) := by
  refine returnsInHanded_of_change_sized (C := Try.checked) own started (by kernel_rfl) Try.func6
    (ChangeSpec.witness6 (enc := enc) (C := Try.checked) false ⟨#[], #[.agg #[.slice none 0 0, .slice none 0 0, .slice none 0 0, .slice none 0 0]], []⟩ 8 (by kernel_rfl) (by kernel_rfl) (by kernel_rfl) (by kernel_rfl)) ?_
  intro W base args ds gs before hval0 hW hcnd hsz0 _
  have hval : ∀ (j : Nat) t v, Try.f6.params[j]? = some t → args[j]? = some v → Value.okWide Try.prog W .any base t v := hval0
  have hW' := hW
  obtain ⟨p, q, hA0, hV, rfl, hfz, hnd⟩ := hW
  have hA : DataW.TrodAll enc Try.prog W 0 (fun _ => true) true Try.f6.params.toList args.toList ds p := hA0
  rw [Try.params6] at hA hval
  obtain ⟨v0, vs0, d0, ds0, p0, q0, hargs, rfl, rfl, h0, r0⟩ := trodAll_cons hA
  obtain ⟨rfl, rfl, rfl⟩ := trodAll_nil r0
  obtain rfl : args = #[v0] := by cases args; simp_all
  obtain ⟨rfl, rfl⟩ := trodVars_none hV
  obtain ⟨cs0, rfl, hcs0⟩ := okWide_struct Try.underlying35 (hval 0 35 v0 rfl rfl)
  have k0 := h0
  have lt0 : ∀ x ∈ p0, x.block < W.heap.size := by obtain ⟨m, hm⟩ := k0; exact DataW.trod_lt m _ _ _ hm
  obtain ⟨fuel0, hf0⟩ := h0
  obtain ⟨⟨l0_0, l0_1, l0_2, l0_3⟩, z0, ⟨w0_0, w0_1, w0_2, w0_3⟩⟩ := (Opens.struct Try.underlying35 (by kernel_rfl) (OpensF.more rfl (by kernel_rfl) (o33 W) rfl (OpensF.more rfl (by kernel_rfl) (o33 W) rfl (OpensF.more rfl (by kernel_rfl) (o33 W) rfl (OpensF.one rfl (by kernel_rfl) (o22 W)))))) H enc 0 _ true fuel0 _ _ hf0
  obtain ⟨_, _, ec0, ⟨A0_0, c0_0, rfl, hc0_0, hr0_0⟩, ⟨_, _, rfl, ⟨A0_1, c0_1, rfl, hc0_1, hr0_1⟩, ⟨_, _, rfl, ⟨A0_2, c0_2, rfl, hc0_2, hr0_2⟩, ⟨A0_3, c0_3, rfl, hc0_3, hr0_3⟩⟩⟩⟩ := z0
  obtain rfl := Array.toList_inj.1 (ec0.trans (by rfl : _ = (#[Value.slice A0_0 l0_0.length c0_0, Value.slice A0_1 l0_1.length c0_1, Value.slice A0_2 l0_2.length c0_2, Value.slice A0_3 l0_3.length c0_3] : Array Value).toList))
  clear hA0 hval0 hsz0
  obtain ⟨k, h⟩ := Pure.FnExactRuleText l0_0 l0_1 l0_2 l0_3 w0_0 w0_1 w0_2 w0_3
  refine (laws_FnExactRuleText.calls k _ _ l0_0 _ _ l0_1 _ _ l0_2 _ _ l0_3 true W hr0_0 hc0_0 hr0_1 hc0_1 hr0_2 hc0_2 hr0_3 hc0_3 h).mono fun e W' ⟨he, bel0⟩ => ?_
  subst he
  have bel : Below W.heap.size W W' := bel0
  exact ⟨_, rfl, _, _, _, [], _, [], hW', trodAll_mk1 (shut_bool Try.underlying4 _), (trodAll_cons_mk (Below.trod laidOut (by kernel_rfl) (of_decide_eq_true (by kernel_rfl)) k0 bel lt0) trodAll_mk0), rfl, bel.frame _, fun h => by cases h⟩
theorem over : Rows.fnExactRuleTextRow.holds Try.pinned (OpenSpec.ofChange Rows.fnExactRuleTextSpec) :=
  OpenClaim.holds_of_wide 6 Try.f6 rfl rfl rfl rfl rfl rfl rfl ⟨rfl, rfl, rfl, rfl, rfl⟩ rfl rfl rfl rfl rfl (by kernel_rfl) Try.func6 (by kernel_rfl)
    (of_decide_eq_true (by kernel_rfl)) (by unfold Func.isWrapper; first | (rw [if_pos (by decide +kernel)]; kernel_rfl) | (rw [if_neg (by decide +kernel)]; exact ⟨rfl, rfl⟩))
    (fun os started H enc _ => lifted os started H enc)
theorem proved : Rows.FnExactRuleTextSaid := over
#print axioms proved
end Go.Proofs.Ytdahcapolipnbaa.fnExactRuleText
namespace Go.Proofs.Ytdahcapolipnbaa
/-- The statement, under a short name, for the claim. -/
theorem fnExactRuleText_holds : Rows.FnExactRuleTextSaid := fnExactRuleText.proved
end Go.Proofs.Ytdahcapolipnbaa
