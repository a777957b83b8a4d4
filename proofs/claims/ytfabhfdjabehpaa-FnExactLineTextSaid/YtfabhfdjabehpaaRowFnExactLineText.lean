/- FnExactLineText: called with any arguments that read as data the law returns true, and its arguments read afterwards as before. -/
import Derived.Test.YtfabhfdjabehpaaRows
import Derived.Test.YtfabhfdjabehpaaArgFnExactLineText
import Derived.Test.YtfabhfdjabehpaaPureFnExactLineText
import Derived.WalkKit
import Derived.ProofKit
import Derived.OpenShut
import Derived.ShutString
import Derived.ChangeOld
import Derived.Below
import Derived.SizedLaws
import Derived.Carry
namespace Go.Proofs.Ytfabhfdjabehpaa.fnExactLineText
open Go.ChangeShapes Go.WideShapes Go.ChangeAt Go.RowKit Go.Proofs.Ytfabhfdjabehpaa.QFnExactLineText Go.Proofs.Ytfabhfdjabehpaa.ArgFnExactLineText Go.Proofs.YtfabhfdjabehpaaW.PrintWords Go.Proofs.Ytfabhfdjabehpaa.Open
open Go.ChangeMaps (open_string shut_string)
set_option linter.unusedVariables false
theorem own : ownKnob Try.prog.godebug = none := by kernel_rfl
theorem laidOut : laidOutB Try.prog = true := by kernel_rfl
set_option maxRecDepth 100000 in
theorem lifted (os : Os) (started : os.Started) (H : Type) (enc : TypeId × Value → H) :
    ReturnsInHanded {} Try.checked os 4 .any (Rows.fnExactLineTextSpec.pre6 enc Try.prog Try.f4 Rows.fnExactLineTextRow.domain false) (Rows.fnExactLineTextSpec.post enc Try.prog Try.f4 false true false false) := by
  refine returnsInHanded_of_change_sized (C := Try.checked) own started (by kernel_rfl) Try.func4
    (ChangeSpec.witness6 (enc := enc) (C := Try.checked) false ⟨#[], #[.agg #[.int .i64 0, .string ByteArray.empty, .slice none 0 0, .slice none 0 0, .slice none 0 0, .slice none 0 0, .int .i64 0]], []⟩ 8 (by kernel_rfl) (by kernel_rfl) (by kernel_rfl) (by kernel_rfl)) ?_
  intro W base args ds gs before hval0 hW hcnd hsz0 _
  have hval : ∀ (j : Nat) t v, Try.f4.params[j]? = some t → args[j]? = some v → Value.okWide Try.prog W .any base t v := hval0
  have hW' := hW
  obtain ⟨p, q, hA0, hV, rfl, hfz, hnd⟩ := hW
  have hA : DataW.TrodAll enc Try.prog W 0 (fun _ => true) true Try.f4.params.toList args.toList ds p := hA0
  rw [Try.params4] at hA hval
  obtain ⟨v0, vs0, d0, ds0, p0, q0, hargs, rfl, rfl, h0, r0⟩ := trodAll_cons hA
  obtain ⟨rfl, rfl, rfl⟩ := trodAll_nil r0
  obtain rfl : args = #[v0] := by cases args; simp_all
  obtain ⟨rfl, rfl⟩ := trodVars_none hV
  obtain ⟨cs0, rfl, hcs0⟩ := okWide_struct Try.underlying36 (hval 0 36 v0 rfl rfl)
  have k0 := h0
  have lt0 : ∀ x ∈ p0, x.block < W.heap.size := by obtain ⟨m, hm⟩ := k0; exact DataW.trod_lt m _ _ _ hm
  obtain ⟨fuel0, hf0⟩ := h0
  obtain ⟨⟨a0_0, a0_1, l0_2, l0_3, l0_4, l0_5, a0_6⟩, z0, ⟨w0_0, w0_1, w0_2, w0_3, w0_4, w0_5, w0_6⟩⟩ := (Opens.struct Try.underlying36 (by kernel_rfl) (OpensF.more rfl (by kernel_rfl) (o2 W) rfl (OpensF.more rfl (by kernel_rfl) (o9 W) rfl (OpensF.more rfl (by kernel_rfl) (o34 W) rfl (OpensF.more rfl (by kernel_rfl) (o34 W) rfl (OpensF.more rfl (by kernel_rfl) (o34 W) rfl (OpensF.more rfl (by kernel_rfl) (o34 W) rfl (OpensF.one rfl (by kernel_rfl) (o2 W))))))))) H enc 0 _ true fuel0 _ _ hf0
  obtain ⟨_, _, ec0, rfl, ⟨_, _, rfl, rfl, ⟨_, _, rfl, ⟨A0_2, c0_2, rfl, hc0_2, hr0_2⟩, ⟨_, _, rfl, ⟨A0_3, c0_3, rfl, hc0_3, hr0_3⟩, ⟨_, _, rfl, ⟨A0_4, c0_4, rfl, hc0_4, hr0_4⟩, ⟨_, _, rfl, ⟨A0_5, c0_5, rfl, hc0_5, hr0_5⟩, rfl⟩⟩⟩⟩⟩⟩ := z0
  obtain rfl := Array.toList_inj.1 (ec0.trans (by rfl : _ = (#[Value.int .i64 a0_0, Value.string a0_1, Value.slice A0_2 l0_2.length c0_2, Value.slice A0_3 l0_3.length c0_3, Value.slice A0_4 l0_4.length c0_4, Value.slice A0_5 l0_5.length c0_5, Value.int .i64 a0_6] : Array Value).toList))
  clear hA0 hval0 hsz0
  obtain ⟨k, h⟩ := Pure.FnExactLineText a0_0 a0_1 l0_2 l0_3 l0_4 l0_5 a0_6 w0_0 w0_1 w0_2 w0_3 w0_4 w0_5 w0_6
  refine (laws_FnExactLineText.calls k a0_0 a0_1 _ _ l0_2 _ _ l0_3 _ _ l0_4 _ _ l0_5 a0_6 true W hr0_2 hc0_2 hr0_3 hc0_3 hr0_4 hc0_4 hr0_5 hc0_5 h).mono fun e W' ⟨he, bel0⟩ => ?_
  subst he
  have bel : Below W.heap.size W W' := bel0
  exact ⟨_, rfl, _, _, _, [], _, [], hW', trodAll_mk1 (shut_bool Try.underlying4 _), (trodAll_cons_mk (Below.trod laidOut (by kernel_rfl) (of_decide_eq_true (by kernel_rfl)) k0 bel lt0) trodAll_mk0), rfl, bel.frame _, fun h => by cases h⟩
theorem over : Rows.fnExactLineTextRow.holds Try.pinned (OpenSpec.ofChange Rows.fnExactLineTextSpec) :=
  OpenClaim.holds_of_wide 4 Try.f4 rfl rfl rfl rfl rfl rfl rfl ⟨rfl, rfl, rfl, rfl, rfl⟩ rfl rfl rfl rfl rfl (by kernel_rfl) Try.func4 (by kernel_rfl)
    (of_decide_eq_true (by kernel_rfl)) (by unfold Func.isWrapper; first | (rw [if_pos (by decide +kernel)]; kernel_rfl) | (rw [if_neg (by decide +kernel)]; exact ⟨rfl, rfl⟩))
    (fun os started H enc _ => lifted os started H enc)
theorem proved : Rows.FnExactLineTextSaid := over
#print axioms proved
end Go.Proofs.Ytfabhfdjabehpaa.fnExactLineText
namespace Go.Proofs.Ytfabhfdjabehpaa
/-- The statement, under a short name, for the claim. -/
theorem fnExactLineText_holds : Rows.FnExactLineTextSaid := fnExactLineText.proved
end Go.Proofs.Ytfabhfdjabehpaa
