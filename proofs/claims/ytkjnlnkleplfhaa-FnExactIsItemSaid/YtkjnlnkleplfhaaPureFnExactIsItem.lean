/- The plain statement of FnExactIsItem: the program and the reference agree on every input that the guards let in. -/
import Derived.Test.YtkjnlnkleplfhaaArgFnExactIsItem
namespace Go.Proofs.Ytkjnlnkleplfhaa.Pure
open Go.RowKit Go.Proofs.Ytkjnlnkleplfhaa.PFnExactIsItem Go.Proofs.Ytkjnlnkleplfhaa.ArgFnExactIsItem Go.Proofs.YtkjnlnkleplfhaaW.PrintWords Go.Proofs.YtkjnlnkleplfhaaW.PrintLast Go.Proofs.YtkjnlnkleplfhaaW.PrintMore
set_option linter.unusedVariables false
set_option linter.unusedSimpArgs false
-- part: base
theorem w64 {x : Int} (h : -9223372036854775808 ≤ x) (h' : x < 9223372036854775808) : wrap64 x = x := by
  unfold wrap64; omega
theorem evPos {α : Type} {c : Prop} [Decidable c] {g f : Nat → Option α} {r : α} (h : c) (k : Ev g r) : Ev (fun n => if c then g n else f n) r := by
  simpa only [if_pos h] using k
theorem evNeg {α : Type} {c : Prop} [Decidable c] {g f : Nat → Option α} {r : α} (h : ¬ c) (k : Ev f r) : Ev (fun n => if c then g n else f n) r := by
  simpa only [if_neg h] using k
theorem rd_get {xs : List Int} {i : Nat} (h : i < xs.length) : rd xs (i : Int) = xs[i] := by
  simp [rd, h]
/-- The numbers from s on, n of them. -/
def marks (s : Int) : Nat → List Int
  | 0 => []
  | n + 1 => s :: marks (s + 1) n
theorem marks_length (s : Int) (n : Nat) : (marks s n).length = n := by
  induction n generalizing s with
  | zero => rfl
  | succ n ih => simp [marks, ih]
theorem marks_get (s : Int) (n : Nat) : ∀ (i : Nat) (h : i < (marks s n).length), (marks s n)[i] = s + i := by
  induction n generalizing s with
  | zero => intro i h; simp [marks] at h
  | succ n ih =>
    intro i h
    cases i with
    | zero => simp [marks]
    | succ i => simp only [marks, List.getElem_cons_succ]; rw [ih]; push_cast; omega
theorem marks_snoc (s : Int) (n : Nat) : marks s (n + 1) = marks s n ++ [s + n] := by
  induction n generalizing s with
  | zero => simp [marks]
  | succ n ih => rw [marks, ih, marks]; simp; omega
-- part: names
theorem small_spec (c : Int) : spec_l01Small.f c = some (decide (97 ≤ c ∧ c ≤ 122)) := by
  unfold spec_l01Small.f
  by_cases h : c ≥ 97 <;> simp [h]
theorem digit_spec (c : Int) : spec_l01Digit.f c = some (decide (48 ≤ c ∧ c ≤ 57)) := by
  unfold spec_l01Digit.f
  by_cases h : c ≥ 48 <;> simp [h]
theorem small_impl (c : Int) : impl_isSmall.f c = some (decide (97 ≤ c ∧ c ≤ 122)) := by
  unfold impl_isSmall.f
  by_cases h : c ≥ 97 <;> simp [h]
theorem digit_impl (c : Int) : impl_isDigit.f c = some (decide (48 ≤ c ∧ c ≤ 57)) := by
  unfold impl_isDigit.f
  by_cases h : c ≥ 48 <;> simp [h]
/-- A sign of a name. -/
def nameSign (c : Int) : Prop := (97 ≤ c ∧ c ≤ 122) ∨ (48 ≤ c ∧ c ≤ 57) ∨ c = 46
instance (c : Int) : Decidable (nameSign c) := by unfold nameSign; infer_instance
def isNm (s : ByteArray) : Prop := 0 < s.size ∧ s.size ≤ 12 ∧ (97 ≤ bt s 0 ∧ bt s 0 ≤ 122) ∧ ∀ j : Nat, j < s.size → nameSign (bt s j)
instance (s : ByteArray) : Decidable (isNm s) := by unfold isNm; infer_instance
theorem specName_l0 (s : ByteArray) (hn : s.size ≤ 12) : ∀ (d i : Nat), i + d = s.size → (∀ j : Nat, j < i → nameSign (bt s j)) → Ev (fun k => spec_IsName.l0 k s (i : Int)) (decide (∀ j : Nat, j < s.size → nameSign (bt s j))) := by
  intro d
  induction d with
  | zero =>
    intro i h hp
    have e : (∀ j : Nat, j < s.size → nameSign (bt s j)) := fun j hj => hp j (by omega)
    refine Ev.step (f := fun _ => some _) (fun k => ?_) (Ev.now _)
    simp only [spec_IsName.l0]
    rw [if_neg (by omega), decide_eq_true e]
  | succ d ih =>
    intro i h hp
    by_cases hs : nameSign (bt s i)
    · refine Ev.step (fun k => ?_) (ih (i + 1) (by omega) (fun j hj => by
        by_cases e : j = i
        · subst e; exact hs
        · exact hp j (by omega)))
      simp only [spec_IsName.l0, small_spec, digit_spec, Option.bind_some]
      rw [if_pos (by omega), if_pos (by omega), w64 (by omega) (by omega)]
      push_cast
      rcases hs with h1 | h1 | h1
      · rw [if_pos (by simpa using h1)]
      · rw [if_neg (by simp; omega), if_pos (by simpa using h1)]
      · rw [if_neg (by simp; omega), if_neg (by simp; omega), if_pos h1]
    · have e : ¬ (∀ j : Nat, j < s.size → nameSign (bt s j)) := fun H => hs (H i (by omega))
      refine Ev.step (f := fun _ => some _) (fun k => ?_) (Ev.now _)
      simp only [spec_IsName.l0, small_spec, digit_spec, Option.bind_some]
      unfold nameSign at hs
      rw [if_pos (by omega), if_pos (by omega), if_neg (by simp; omega), if_neg (by simp; omega), if_neg (by omega), decide_eq_false e]
theorem implName_l0 (s : ByteArray) (hn : s.size ≤ 12) : ∀ (d i : Nat), i + d = s.size → (∀ j : Nat, j < i → nameSign (bt s j)) → Ev (fun k => impl_IsName.l0 k s (i : Int)) (decide (∀ j : Nat, j < s.size → nameSign (bt s j))) := by
  intro d
  induction d with
  | zero =>
    intro i h hp
    have e : (∀ j : Nat, j < s.size → nameSign (bt s j)) := fun j hj => hp j (by omega)
    refine Ev.step (f := fun _ => some _) (fun k => ?_) (Ev.now _)
    simp only [impl_IsName.l0]
    rw [if_neg (by omega), decide_eq_true e]
  | succ d ih =>
    intro i h hp
    by_cases hs : nameSign (bt s i)
    · refine Ev.step (fun k => ?_) (ih (i + 1) (by omega) (fun j hj => by
        by_cases e : j = i
        · subst e; exact hs
        · exact hp j (by omega)))
      simp only [impl_IsName.l0, small_impl, digit_impl, Option.bind_some]
      rw [if_pos (by omega), if_pos (by omega), w64 (by omega) (by omega)]
      push_cast
      rcases hs with h1 | h1 | h1
      · rw [if_pos (by simpa using h1)]
      · rw [if_neg (by simp; omega), if_pos (by simpa using h1)]
      · rw [if_neg (by simp; omega), if_neg (by simp; omega), if_pos h1]
    · have e : ¬ (∀ j : Nat, j < s.size → nameSign (bt s j)) := fun H => hs (H i (by omega))
      refine Ev.step (f := fun _ => some _) (fun k => ?_) (Ev.now _)
      simp only [impl_IsName.l0, small_impl, digit_impl, Option.bind_some]
      unfold nameSign at hs
      rw [if_pos (by omega), if_pos (by omega), if_neg (by simp; omega), if_neg (by simp; omega), if_neg (by omega), decide_eq_false e]
theorem toList_nil (s : ByteArray) : s.toList = ([] : List UInt8) ↔ s.size = 0 := by
  rw [ByteArray.toList_eq, ← List.length_eq_zero_iff, data_length]
theorem specName_ev (s : ByteArray) : Ev (fun k => spec_IsName.f k s) (decide (isNm s)) := by
  by_cases h0 : s.size = 0
  · rw [decide_eq_false (fun h => by have := h.1; omega)]
    refine evPos ((toList_nil s).2 h0) ?_
    exact Ev.step (f := fun _ => some false) (fun k => by simp [spec_IsName.j0]) (Ev.now _)
  refine evNeg (fun h => h0 ((toList_nil s).1 h)) ?_
  by_cases h1 : (s.size : Int) > 12
  · rw [decide_eq_false (fun h => by have := h.2.1; omega)]
    refine evPos h1 ?_
    exact Ev.step (f := fun _ => some false) (fun k => by simp [spec_IsName.j0]) (Ev.now _)
  refine evNeg h1 (evPos (by omega) ?_)
  refine Ev.bind (g := fun _ => _) (by rw [small_spec]; exact Ev.now _) ?_
  by_cases h2 : 97 ≤ bt s 0 ∧ bt s 0 ≤ 122
  · refine Ev.step (f := fun k => spec_IsName.l0 k s 0) (fun k => by simp [spec_IsName.j0, h2]) ?_
    have e : isNm s ↔ ∀ j : Nat, j < s.size → nameSign (bt s j) := ⟨fun h => h.2.2.2, fun h => ⟨by omega, by omega, h2, h⟩⟩
    rw [decide_eq_decide.2 e]
    exact specName_l0 s (by omega) s.size 0 (by omega) (by simp)
  · rw [decide_eq_false (fun h : isNm s => h2 h.2.2.1)]
    refine Ev.step (f := fun _ => some false) (fun k => ?_) (Ev.now _)
    simp only [spec_IsName.j0]
    rw [if_pos (by simp; omega)]
theorem implName_ev (s : ByteArray) : Ev (fun k => impl_IsName.f k s) (decide (isNm s)) := by
  by_cases h0 : s.size = 0
  · rw [decide_eq_false (fun h => by have := h.1; omega)]
    refine evPos (by omega) ?_
    exact Ev.step (f := fun _ => some false) (fun k => by simp [impl_IsName.j0]) (Ev.now _)
  refine evNeg (by omega) ?_
  by_cases h1 : (s.size : Int) > 12
  · rw [decide_eq_false (fun h => by have := h.2.1; omega)]
    refine evPos h1 ?_
    exact Ev.step (f := fun _ => some false) (fun k => by simp [impl_IsName.j0]) (Ev.now _)
  refine evNeg h1 (evPos (by omega) ?_)
  refine Ev.bind (g := fun _ => _) (by rw [small_impl]; exact Ev.now _) ?_
  by_cases h2 : 97 ≤ bt s 0 ∧ bt s 0 ≤ 122
  · refine Ev.step (f := fun k => impl_IsName.l0 k s 1) (fun k => by simp [impl_IsName.j0, h2]) ?_
    have e : isNm s ↔ ∀ j : Nat, j < s.size → nameSign (bt s j) := ⟨fun h => h.2.2.2, fun h => ⟨by omega, by omega, h2, h⟩⟩
    rw [decide_eq_decide.2 e]
    exact implName_l0 s (by omega) (s.size - 1) 1 (by omega) (fun j hj => by
      have e0 : j = 0 := by omega
      subst e0
      exact .inl h2)
  · rw [decide_eq_false (fun h : isNm s => h2 h.2.2.1)]
    refine Ev.step (f := fun _ => some false) (fun k => ?_) (Ev.now _)
    simp only [impl_IsName.j0]
    rw [if_pos (by simp; omega)]
-- part: items
theorem extract_toList (s : ByteArray) (a b : Nat) : (s.extract a b).toList = (s.data.toList.drop a).take (b - a) := by
  rw [ByteArray.toList_eq, ByteArray.data_extract, Array.toList_extract, List.extract_eq_take_drop]
theorem bt_zero (s : ByteArray) (h : 0 < s.size) : ∃ c : UInt8, s.data.toList.take 1 = [c] ∧ bt s 0 = c.toNat := by
  have hl : 0 < s.data.toList.length := by rw [data_length]; exact h
  obtain ⟨c, l, e⟩ : ∃ c l, s.data.toList = c :: l := by
    match s.data.toList, hl with
    | c :: l, _ => exact ⟨c, l, rfl⟩
  refine ⟨c, by rw [e]; rfl, ?_⟩
  rw [← rd_bytesOf, bytesOf, e]
  rfl
theorem cutAt_f (s : ByteArray) : strings_CutPrefix.f s (⟨#[64]⟩ : ByteArray) = some (if 0 < s.size ∧ bt s 0 = 64 then (s.extract 1 s.size, true) else (s, false)) := by
  have e1 : (ByteArray.mk #[64]).size = 1 := rfl
  have e2 : (ByteArray.mk #[64]).toList = [64] := by rw [ByteArray.toList_eq]
  unfold strings_CutPrefix.f stringslite_CutPrefix.f stringslite_HasPrefix.f
  simp only [e1, e2]
  by_cases h : 0 < s.size
  · obtain ⟨c, hc, hb⟩ := bt_zero s h
    have e3 : (s.extract 0 (((1 : Nat) : Int)).toNat).toList = [c] := by rw [extract_toList]; exact hc
    rw [if_pos (by omega), if_pos (by omega), if_pos (by omega), e3]
    simp only [Option.bind_some]
    by_cases h2 : bt s 0 = 64
    · have e4 : c = 64 := UInt8.toNat_inj.1 (show c.toNat = 64 by omega)
      subst e4
      rw [if_pos (by rfl), if_pos (by omega), if_pos (by omega), if_pos ⟨h, h2⟩]
      rfl
    · have e4 : c ≠ 64 := fun e => h2 (by rw [hb, e]; rfl)
      rw [if_neg (by simpa using e4), if_neg (fun h => h2 h.2)]
      rfl
  · rw [if_neg (by omega)]
    simp only [Option.bind_some]
    rw [if_neg (by simp), if_neg (fun h' => h h'.1)]
    rfl
/-- An item. -/
def isIt (s : ByteArray) : Prop := if 0 < s.size ∧ bt s 0 = 64 then isNm (s.extract 1 s.size) else isNm s ∧ s.toList ≠ [98, 121]
instance (s : ByteArray) : Decidable (isIt s) := by unfold isIt; infer_instance
theorem byTest (s : ByteArray) (b : Bool) : Ev (fun _ => if b = true then (some (s.toList != ([98, 121] : List UInt8))) else (some false)) (b && (s.toList != ([98, 121] : List UInt8))) := by
  cases b <;> exact Ev.now _
theorem specItem_ev (s : ByteArray) : Ev (fun k => spec_IsItem.f k s) (decide (isIt s)) := by
  by_cases h0 : s.size = 0
  · refine evPos ((toList_nil s).2 h0) ?_
    refine Ev.step (fun k => by rw [spec_IsItem.j0]) (evNeg (by simp) ?_)
    refine Ev.bind (specName_ev s) ?_
    have e : decide (isIt s) = (decide (isNm s) && (s.toList != ([98, 121] : List UInt8))) := by
      have h' : isIt s ↔ (isNm s ∧ s.toList ≠ [98, 121]) := by unfold isIt; rw [if_neg (fun h => by omega)]
      rw [Bool.eq_iff_iff]; simp [h']
    rw [e]
    exact byTest s _
  · refine evNeg (fun h => h0 ((toList_nil s).1 h)) (evPos (by omega) ?_)
    by_cases h1 : bt s 0 = 64
    · refine Ev.step (fun k => by rw [spec_IsItem.j0]) (evPos (by simpa using h1) (evPos (by omega) ?_))
      have e : decide (isIt s) = decide (isNm (s.extract 1 s.size)) := by
        have h' : isIt s ↔ isNm (s.extract 1 s.size) := by unfold isIt; rw [if_pos ⟨by omega, h1⟩]
        rw [Bool.eq_iff_iff]; simp [h']
      rw [e]
      exact Ev.bind (specName_ev _) (Ev.now _)
    · refine Ev.step (fun k => by rw [spec_IsItem.j0]) (evNeg (by simpa using h1) ?_)
      refine Ev.bind (specName_ev s) ?_
      have e : decide (isIt s) = (decide (isNm s) && (s.toList != ([98, 121] : List UInt8))) := by
        have h' : isIt s ↔ (isNm s ∧ s.toList ≠ [98, 121]) := by unfold isIt; rw [if_neg (fun h => h1 h.2)]
        rw [Bool.eq_iff_iff]; simp [h']
      rw [e]
      exact byTest s _
theorem implItem_ev (s : ByteArray) : Ev (fun k => impl_IsItem.f k s) (decide (isIt s)) := by
  refine Ev.bind (g := fun _ => _) (by rw [cutAt_f]; exact Ev.now _) ?_
  by_cases h1 : 0 < s.size ∧ bt s 0 = 64
  · have e : decide (isIt s) = decide (isNm (s.extract 1 s.size)) := by
      have h' : isIt s ↔ isNm (s.extract 1 s.size) := by unfold isIt; rw [if_pos h1]
      rw [Bool.eq_iff_iff]; simp [h']
    rw [e, if_pos h1]
    exact evPos rfl (Ev.bind (implName_ev _) (Ev.now _))
  · have e : decide (isIt s) = (decide (isNm s) && (s.toList != ([98, 121] : List UInt8))) := by
      have h' : isIt s ↔ (isNm s ∧ s.toList ≠ [98, 121]) := by unfold isIt; rw [if_neg h1]
      rw [Bool.eq_iff_iff]; simp [h']
    rw [e, if_neg h1]
    exact evNeg (by simp) (Ev.bind (implName_ev s) (byTest s _))
-- part: the law
theorem FnExactIsItem : Owed := by
  intro s _
  apply Ev.rounds
  by_cases h : (s.size : Int) > 1048576
  · exact evPos h (Ev.now true)
  refine evNeg h (Ev.bind (specItem_ev s) (Ev.bind (implItem_ev s) (evNeg (by simp) (Ev.now true))))
end Go.Proofs.Ytkjnlnkleplfhaa.Pure
