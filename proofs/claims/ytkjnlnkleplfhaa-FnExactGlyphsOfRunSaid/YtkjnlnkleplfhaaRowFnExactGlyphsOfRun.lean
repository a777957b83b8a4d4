/- FnExactGlyphsOfRun: called with any arguments that read as data the law returns true, and its arguments read afterwards as before. -/
import Derived.Test.YtkjnlnkleplfhaaRows
import Derived.Test.YtkjnlnkleplfhaaArgFnExactGlyphsOfRun
import Derived.Test.YtkjnlnkleplfhaaPureFnExactGlyphsOfRun
import Derived.WalkKit
import Derived.ProofKit
import Derived.OpenShut
import Derived.ShutString
import Derived.ChangeOld
import Derived.Below
import Derived.SizedLaws
import Derived.Carry
namespace Go.Proofs.Ytkjnlnkleplfhaa.fnExactGlyphsOfRun
open Go.ChangeShapes Go.WideShapes Go.ChangeAt Go.RowKit Go.Proofs.Ytkjnlnkleplfhaa.QFnExactGlyphsOfRun Go.Proofs.Ytkjnlnkleplfhaa.ArgFnExactGlyphsOfRun Go.Proofs.YtkjnlnkleplfhaaW.PrintWords Go.Proofs.Ytkjnlnkleplfhaa.Open
open Go.ChangeMaps (open_string shut_string)
set_option linter.unusedVariables false
theorem own : ownKnob Try.prog.godebug = none := by kernel_rfl
theorem laidOut : laidOutB Try.prog = true := by kernel_rfl
set_option maxRecDepth 100000 in
theorem lifted (os : Os) (started : os.Started) (H : Type) (enc : TypeId × Value → H) :
    ReturnsInHanded {} Try.checked os 12 .any (Rows.fnExactGlyphsOfRunSpec.pre6 enc Try.prog Try.f12 Rows.fnExactGlyphsOfRunRow.domain false) (Rows.fnExactGlyphsOfRunSpec.post enc Try.prog Try.f12 false true false false) := by
  refine returnsInHanded_of_change_sized (C := Try.checked) own started (by kernel_rfl) Try.func12
    (ChangeSpec.witness6 (enc := enc) (C := Try.checked) false ⟨#[], #[.slice none 0 0], []⟩ 8 (by kernel_rfl) (by kernel_rfl) (by kernel_rfl) (by kernel_rfl)) ?_
  intro W base args ds gs before hval0 hW hcnd hsz0 _
  have hval : ∀ (j : Nat) t v, Try.f12.params[j]? = some t → args[j]? = some v → Value.okWide Try.prog W .any base t v := hval0
  have hW' := hW
  obtain ⟨p, q, hA0, hV, rfl, hfz, hnd⟩ := hW
  have hA : DataW.TrodAll enc Try.prog W 0 (fun _ => true) true Try.f12.params.toList args.toList ds p := hA0
  rw [Try.params12] at hA hval
  obtain ⟨v0, vs0, d0, ds0, p0, q0, hargs, rfl, rfl, h0, r0⟩ := trodAll_cons hA
  obtain ⟨rfl, rfl, rfl⟩ := trodAll_nil r0
  obtain rfl : args = #[v0] := by cases args; simp_all
  obtain ⟨rfl, rfl⟩ := trodVars_none hV
  obtain ⟨a0, len0, cap0, rfl⟩ := okWide_slice Try.underlying58 (hval 0 58 v0 rfl rfl)
  have k0 := h0
  have lt0 : ∀ x ∈ p0, x.block < W.heap.size := by obtain ⟨m, hm⟩ := k0; exact DataW.trod_lt m _ _ _ hm
  obtain ⟨l0, z0, w0⟩ : ∃ l, (Kd.slice 98 k98).K W l [Value.slice a0 len0 cap0] ∧ w58 l := by
    obtain ⟨fuel, hf⟩ := h0
    exact o58 W H enc 0 _ true fuel _ _ hf
  obtain ⟨A0, c0, e0, hc0, hr0⟩ := z0
  simp only [List.cons.injEq, Value.slice.injEq, and_true] at e0
  obtain ⟨rfl, rfl, rfl⟩ := e0
  clear hA0 hval0 hsz0
  obtain ⟨k, h⟩ := Pure.FnExactGlyphsOfRun l0 w0
  refine (laws_FnExactGlyphsOfRun.calls k _ _ l0 true W hr0 hc0 h).mono fun e W' ⟨he, bel0⟩ => ?_
  subst he
  have bel : Below W.heap.size W W' := bel0
  exact ⟨_, rfl, _, _, _, [], _, [], hW', trodAll_mk1 (shut_bool Try.underlying4 _), (trodAll_cons_mk (Below.trod laidOut (by kernel_rfl) (of_decide_eq_true (by kernel_rfl)) k0 bel lt0) trodAll_mk0), rfl, bel.frame _, fun h => by cases h⟩
theorem over : Rows.fnExactGlyphsOfRunRow.holds Try.pinned (OpenSpec.ofChange Rows.fnExactGlyphsOfRunSpec) :=
  OpenClaim.holds_of_wide 12 Try.f12 rfl rfl rfl rfl rfl rfl rfl ⟨rfl, rfl, rfl, rfl, rfl⟩ rfl rfl rfl rfl rfl (by kernel_rfl) Try.func12 (by kernel_rfl)
    (of_decide_eq_true (by kernel_rfl)) (by unfold Func.isWrapper; first | (rw [if_pos (by decide +kernel)]; kernel_rfl) | (rw [if_neg (by decide +kernel)]; exact ⟨rfl, rfl⟩))
    (fun os started H enc _ => lifted os started H enc)
theorem proved : Rows.FnExactGlyphsOfRunSaid := over
#print axioms proved
end Go.Proofs.Ytkjnlnkleplfhaa.fnExactGlyphsOfRun
namespace Go.Proofs.Ytkjnlnkleplfhaa
/-- The row, under a short name, for the claim. -/
theorem fnExactGlyphsOfRun_holds : Rows.FnExactGlyphsOfRunSaid := fnExactGlyphsOfRun.proved
end Go.Proofs.Ytkjnlnkleplfhaa
