/- The plain statement of FnExactSourceText: the program and the reference agree on every input that the guards let in. -/
import Derived.Test.YtfabhfdjabehpaaArgFnExactSourceText
namespace Go.Proofs.Ytfabhfdjabehpaa.Pure
open Go.RowKit Go.Proofs.Ytfabhfdjabehpaa.QFnExactSourceText Go.Proofs.Ytfabhfdjabehpaa.ArgFnExactSourceText Go.Proofs.YtfabhfdjabehpaaW.PrintWords Go.Proofs.YtfabhfdjabehpaaW.PrintLast Go.Proofs.YtfabhfdjabehpaaW.PrintMore
set_option linter.unusedVariables false
set_option linter.unusedSimpArgs false
-- part: base
theorem w64 {x : Int} (h : -9223372036854775808 ≤ x) (h' : x < 9223372036854775808) : wrap64 x = x := by
  unfold wrap64; omega
theorem evPos {α : Type} {c : Prop} [Decidable c] {g f : Nat → Option α} {r : α} (h : c) (k : Ev g r) : Ev (fun n => if c then g n else f n) r := by
  simpa only [if_pos h] using k
theorem evNeg {α : Type} {c : Prop} [Decidable c] {g f : Nat → Option α} {r : α} (h : ¬ c) (k : Ev f r) : Ev (fun n => if c then g n else f n) r := by
  simpa only [if_neg h] using k
theorem rd_get {xs : List Int} {i : Nat} (h : i < xs.length) : rd xs (i : Int) = xs[i] := by
  simp [rd, h]
/-- The numbers from s on, n of them. -/
def marks (s : Int) : Nat → List Int
  | 0 => []
  | n + 1 => s :: marks (s + 1) n
theorem marks_length (s : Int) (n : Nat) : (marks s n).length = n := by
  induction n generalizing s with
  | zero => rfl
  | succ n ih => simp [marks, ih]
theorem marks_get (s : Int) (n : Nat) : ∀ (i : Nat) (h : i < (marks s n).length), (marks s n)[i] = s + i := by
  induction n generalizing s with
  | zero => intro i h; simp [marks] at h
  | succ n ih =>
    intro i h
    cases i with
    | zero => simp [marks]
    | succ i => simp only [marks, List.getElem_cons_succ]; rw [ih]; push_cast; omega
theorem marks_snoc (s : Int) (n : Nat) : marks s (n + 1) = marks s n ++ [s + n] := by
  induction n generalizing s with
  | zero => simp [marks]
  | succ n ih => rw [marks, ih, marks]; simp; omega
-- part: names
theorem small_spec (c : Int) : spec_l01Small.f c = some (decide (97 ≤ c ∧ c ≤ 122)) := by
  unfold spec_l01Small.f
  by_cases h : c ≥ 97 <;> simp [h]
theorem digit_spec (c : Int) : spec_l01Digit.f c = some (decide (48 ≤ c ∧ c ≤ 57)) := by
  unfold spec_l01Digit.f
  by_cases h : c ≥ 48 <;> simp [h]
theorem small_impl (c : Int) : impl_isSmall.f c = some (decide (97 ≤ c ∧ c ≤ 122)) := by
  unfold impl_isSmall.f
  by_cases h : c ≥ 97 <;> simp [h]
theorem digit_impl (c : Int) : impl_isDigit.f c = some (decide (48 ≤ c ∧ c ≤ 57)) := by
  unfold impl_isDigit.f
  by_cases h : c ≥ 48 <;> simp [h]
/-- A sign of a name. -/
def nameSign (c : Int) : Prop := (97 ≤ c ∧ c ≤ 122) ∨ (48 ≤ c ∧ c ≤ 57) ∨ c = 46
instance (c : Int) : Decidable (nameSign c) := by unfold nameSign; infer_instance
def isNm (s : ByteArray) : Prop := 0 < s.size ∧ s.size ≤ 12 ∧ (97 ≤ bt s 0 ∧ bt s 0 ≤ 122) ∧ ∀ j : Nat, j < s.size → nameSign (bt s j)
instance (s : ByteArray) : Decidable (isNm s) := by unfold isNm; infer_instance
theorem specName_l0 (s : ByteArray) (hn : s.size ≤ 12) : ∀ (d i : Nat), i + d = s.size → (∀ j : Nat, j < i → nameSign (bt s j)) → Ev (fun k => spec_IsName.l0 k s (i : Int)) (decide (∀ j : Nat, j < s.size → nameSign (bt s j))) := by
  intro d
  induction d with
  | zero =>
    intro i h hp
    have e : (∀ j : Nat, j < s.size → nameSign (bt s j)) := fun j hj => hp j (by omega)
    refine Ev.step (f := fun _ => some _) (fun k => ?_) (Ev.now _)
    simp only [spec_IsName.l0]
    rw [if_neg (by omega), decide_eq_true e]
  | succ d ih =>
    intro i h hp
    by_cases hs : nameSign (bt s i)
    · refine Ev.step (fun k => ?_) (ih (i + 1) (by omega) (fun j hj => by
        by_cases e : j = i
        · subst e; exact hs
        · exact hp j (by omega)))
      simp only [spec_IsName.l0, small_spec, digit_spec, Option.bind_some]
      rw [if_pos (by omega), if_pos (by omega), w64 (by omega) (by omega)]
      push_cast
      rcases hs with h1 | h1 | h1
      · rw [if_pos (by simpa using h1)]
      · rw [if_neg (by simp; omega), if_pos (by simpa using h1)]
      · rw [if_neg (by simp; omega), if_neg (by simp; omega), if_pos h1]
    · have e : ¬ (∀ j : Nat, j < s.size → nameSign (bt s j)) := fun H => hs (H i (by omega))
      refine Ev.step (f := fun _ => some _) (fun k => ?_) (Ev.now _)
      simp only [spec_IsName.l0, small_spec, digit_spec, Option.bind_some]
      unfold nameSign at hs
      rw [if_pos (by omega), if_pos (by omega), if_neg (by simp; omega), if_neg (by simp; omega), if_neg (by omega), decide_eq_false e]
theorem implName_l0 (s : ByteArray) (hn : s.size ≤ 12) : ∀ (d i : Nat), i + d = s.size → (∀ j : Nat, j < i → nameSign (bt s j)) → Ev (fun k => impl_IsName.l0 k s (i : Int)) (decide (∀ j : Nat, j < s.size → nameSign (bt s j))) := by
  intro d
  induction d with
  | zero =>
    intro i h hp
    have e : (∀ j : Nat, j < s.size → nameSign (bt s j)) := fun j hj => hp j (by omega)
    refine Ev.step (f := fun _ => some _) (fun k => ?_) (Ev.now _)
    simp only [impl_IsName.l0]
    rw [if_neg (by omega), decide_eq_true e]
  | succ d ih =>
    intro i h hp
    by_cases hs : nameSign (bt s i)
    · refine Ev.step (fun k => ?_) (ih (i + 1) (by omega) (fun j hj => by
        by_cases e : j = i
        · subst e; exact hs
        · exact hp j (by omega)))
      simp only [impl_IsName.l0, small_impl, digit_impl, Option.bind_some]
      rw [if_pos (by omega), if_pos (by omega), w64 (by omega) (by omega)]
      push_cast
      rcases hs with h1 | h1 | h1
      · rw [if_pos (by simpa using h1)]
      · rw [if_neg (by simp; omega), if_pos (by simpa using h1)]
      · rw [if_neg (by simp; omega), if_neg (by simp; omega), if_pos h1]
    · have e : ¬ (∀ j : Nat, j < s.size → nameSign (bt s j)) := fun H => hs (H i (by omega))
      refine Ev.step (f := fun _ => some _) (fun k => ?_) (Ev.now _)
      simp only [impl_IsName.l0, small_impl, digit_impl, Option.bind_some]
      unfold nameSign at hs
      rw [if_pos (by omega), if_pos (by omega), if_neg (by simp; omega), if_neg (by simp; omega), if_neg (by omega), decide_eq_false e]
theorem toList_nil (s : ByteArray) : s.toList = ([] : List UInt8) ↔ s.size = 0 := by
  rw [ByteArray.toList_eq, ← List.length_eq_zero_iff, data_length]
theorem specName_ev (s : ByteArray) : Ev (fun k => spec_IsName.f k s) (decide (isNm s)) := by
  by_cases h0 : s.size = 0
  · rw [decide_eq_false (fun h => by have := h.1; omega)]
    refine evPos ((toList_nil s).2 h0) ?_
    exact Ev.step (f := fun _ => some false) (fun k => by simp [spec_IsName.j0]) (Ev.now _)
  refine evNeg (fun h => h0 ((toList_nil s).1 h)) ?_
  by_cases h1 : (s.size : Int) > 12
  · rw [decide_eq_false (fun h => by have := h.2.1; omega)]
    refine evPos h1 ?_
    exact Ev.step (f := fun _ => some false) (fun k => by simp [spec_IsName.j0]) (Ev.now _)
  refine evNeg h1 (evPos (by omega) ?_)
  refine Ev.bind (g := fun _ => _) (by rw [small_spec]; exact Ev.now _) ?_
  by_cases h2 : 97 ≤ bt s 0 ∧ bt s 0 ≤ 122
  · refine Ev.step (f := fun k => spec_IsName.l0 k s 0) (fun k => by simp [spec_IsName.j0, h2]) ?_
    have e : isNm s ↔ ∀ j : Nat, j < s.size → nameSign (bt s j) := ⟨fun h => h.2.2.2, fun h => ⟨by omega, by omega, h2, h⟩⟩
    rw [decide_eq_decide.2 e]
    exact specName_l0 s (by omega) s.size 0 (by omega) (by simp)
  · rw [decide_eq_false (fun h : isNm s => h2 h.2.2.1)]
    refine Ev.step (f := fun _ => some false) (fun k => ?_) (Ev.now _)
    simp only [spec_IsName.j0]
    rw [if_pos (by simp; omega)]
theorem implName_ev (s : ByteArray) : Ev (fun k => impl_IsName.f k s) (decide (isNm s)) := by
  by_cases h0 : s.size = 0
  · rw [decide_eq_false (fun h => by have := h.1; omega)]
    refine evPos (by omega) ?_
    exact Ev.step (f := fun _ => some false) (fun k => by simp [impl_IsName.j0]) (Ev.now _)
  refine evNeg (by omega) ?_
  by_cases h1 : (s.size : Int) > 12
  · rw [decide_eq_false (fun h => by have := h.2.1; omega)]
    refine evPos h1 ?_
    exact Ev.step (f := fun _ => some false) (fun k => by simp [impl_IsName.j0]) (Ev.now _)
  refine evNeg h1 (evPos (by omega) ?_)
  refine Ev.bind (g := fun _ => _) (by rw [small_impl]; exact Ev.now _) ?_
  by_cases h2 : 97 ≤ bt s 0 ∧ bt s 0 ≤ 122
  · refine Ev.step (f := fun k => impl_IsName.l0 k s 1) (fun k => by simp [impl_IsName.j0, h2]) ?_
    have e : isNm s ↔ ∀ j : Nat, j < s.size → nameSign (bt s j) := ⟨fun h => h.2.2.2, fun h => ⟨by omega, by omega, h2, h⟩⟩
    rw [decide_eq_decide.2 e]
    exact implName_l0 s (by omega) (s.size - 1) 1 (by omega) (fun j hj => by
      have e0 : j = 0 := by omega
      subst e0
      exact .inl h2)
  · rw [decide_eq_false (fun h : isNm s => h2 h.2.2.1)]
    refine Ev.step (f := fun _ => some false) (fun k => ?_) (Ev.now _)
    simp only [impl_IsName.j0]
    rw [if_pos (by simp; omega)]
-- part: items
theorem extract_toList (s : ByteArray) (a b : Nat) : (s.extract a b).toList = (s.data.toList.drop a).take (b - a) := by
  rw [ByteArray.toList_eq, ByteArray.data_extract, Array.toList_extract, List.extract_eq_take_drop]
theorem bt_zero (s : ByteArray) (h : 0 < s.size) : ∃ c : UInt8, s.data.toList.take 1 = [c] ∧ bt s 0 = c.toNat := by
  have hl : 0 < s.data.toList.length := by rw [data_length]; exact h
  obtain ⟨c, l, e⟩ : ∃ c l, s.data.toList = c :: l := by
    match s.data.toList, hl with
    | c :: l, _ => exact ⟨c, l, rfl⟩
  refine ⟨c, by rw [e]; rfl, ?_⟩
  rw [← rd_bytesOf, bytesOf, e]
  rfl
theorem cutAt_f (s : ByteArray) : strings_CutPrefix.f s (⟨#[64]⟩ : ByteArray) = some (if 0 < s.size ∧ bt s 0 = 64 then (s.extract 1 s.size, true) else (s, false)) := by
  have e1 : (ByteArray.mk #[64]).size = 1 := rfl
  have e2 : (ByteArray.mk #[64]).toList = [64] := by rw [ByteArray.toList_eq]
  unfold strings_CutPrefix.f stringslite_CutPrefix.f stringslite_HasPrefix.f
  simp only [e1, e2]
  by_cases h : 0 < s.size
  · obtain ⟨c, hc, hb⟩ := bt_zero s h
    have e3 : (s.extract 0 (((1 : Nat) : Int)).toNat).toList = [c] := by rw [extract_toList]; exact hc
    rw [if_pos (by omega), if_pos (by omega), if_pos (by omega), e3]
    simp only [Option.bind_some]
    by_cases h2 : bt s 0 = 64
    · have e4 : c = 64 := UInt8.toNat_inj.1 (show c.toNat = 64 by omega)
      subst e4
      rw [if_pos (by rfl), if_pos (by omega), if_pos (by omega), if_pos ⟨h, h2⟩]
      rfl
    · have e4 : c ≠ 64 := fun e => h2 (by rw [hb, e]; rfl)
      rw [if_neg (by simpa using e4), if_neg (fun h => h2 h.2)]
      rfl
  · rw [if_neg (by omega)]
    simp only [Option.bind_some]
    rw [if_neg (by simp), if_neg (fun h' => h h'.1)]
    rfl
/-- An item. -/
def isIt (s : ByteArray) : Prop := if 0 < s.size ∧ bt s 0 = 64 then isNm (s.extract 1 s.size) else isNm s ∧ s.toList ≠ [98, 121]
instance (s : ByteArray) : Decidable (isIt s) := by unfold isIt; infer_instance
theorem byTest (s : ByteArray) (b : Bool) : Ev (fun _ => if b = true then (some (s.toList != ([98, 121] : List UInt8))) else (some false)) (b && (s.toList != ([98, 121] : List UInt8))) := by
  cases b <;> exact Ev.now _
theorem specItem_ev (s : ByteArray) : Ev (fun k => spec_IsItem.f k s) (decide (isIt s)) := by
  by_cases h0 : s.size = 0
  · refine evPos ((toList_nil s).2 h0) ?_
    refine Ev.step (fun k => by rw [spec_IsItem.j0]) (evNeg (by simp) ?_)
    refine Ev.bind (specName_ev s) ?_
    have e : decide (isIt s) = (decide (isNm s) && (s.toList != ([98, 121] : List UInt8))) := by
      have h' : isIt s ↔ (isNm s ∧ s.toList ≠ [98, 121]) := by unfold isIt; rw [if_neg (fun h => by omega)]
      rw [Bool.eq_iff_iff]; simp [h']
    rw [e]
    exact byTest s _
  · refine evNeg (fun h => h0 ((toList_nil s).1 h)) (evPos (by omega) ?_)
    by_cases h1 : bt s 0 = 64
    · refine Ev.step (fun k => by rw [spec_IsItem.j0]) (evPos (by simpa using h1) (evPos (by omega) ?_))
      have e : decide (isIt s) = decide (isNm (s.extract 1 s.size)) := by
        have h' : isIt s ↔ isNm (s.extract 1 s.size) := by unfold isIt; rw [if_pos ⟨by omega, h1⟩]
        rw [Bool.eq_iff_iff]; simp [h']
      rw [e]
      exact Ev.bind (specName_ev _) (Ev.now _)
    · refine Ev.step (fun k => by rw [spec_IsItem.j0]) (evNeg (by simpa using h1) ?_)
      refine Ev.bind (specName_ev s) ?_
      have e : decide (isIt s) = (decide (isNm s) && (s.toList != ([98, 121] : List UInt8))) := by
        have h' : isIt s ↔ (isNm s ∧ s.toList ≠ [98, 121]) := by unfold isIt; rw [if_neg (fun h => h1 h.2)]
        rw [Bool.eq_iff_iff]; simp [h']
      rw [e]
      exact byTest s _
theorem implItem_ev (s : ByteArray) : Ev (fun k => impl_IsItem.f k s) (decide (isIt s)) := by
  refine Ev.bind (g := fun _ => _) (by rw [cutAt_f]; exact Ev.now _) ?_
  by_cases h1 : 0 < s.size ∧ bt s 0 = 64
  · have e : decide (isIt s) = decide (isNm (s.extract 1 s.size)) := by
      have h' : isIt s ↔ isNm (s.extract 1 s.size) := by unfold isIt; rw [if_pos h1]
      rw [Bool.eq_iff_iff]; simp [h']
    rw [e, if_pos h1]
    exact evPos rfl (Ev.bind (implName_ev _) (Ev.now _))
  · have e : decide (isIt s) = (decide (isNm s) && (s.toList != ([98, 121] : List UInt8))) := by
      have h' : isIt s ↔ (isNm s ∧ s.toList ≠ [98, 121]) := by unfold isIt; rw [if_neg h1]
      rw [Bool.eq_iff_iff]; simp [h']
    rw [e, if_neg h1]
    exact evNeg (by simp) (Ev.bind (implName_ev s) (byTest s _))
-- part: loops
theorem getD_nat {α : Type} {xs : List α} {i : Nat} {d : α} (h : i < xs.length) : xs.getD (i : Int).toNat d = xs[i] := by
  simp [List.getD_eq_getElem?_getD, h]
/-- A loop that fills a row with what a function makes of each element. -/
theorem ev_copy {α β : Type} (L : Nat → List β → Int → Option (List β)) (xs : List α) (F : Nat → α → Option β) (f : α → β)
    (stop : ∀ k out, out.length = xs.length → L (k + 1) out (xs.length : Int) = some out)
    (step : ∀ k out (i : Nat) (h : i < xs.length), out.length = xs.length → L (k + 1) out (i : Int) = (F k xs[i]).bind fun y => L k (out.set i y) ((i + 1 : Nat) : Int))
    (hF : ∀ x ∈ xs, Ev (fun k => F k x) (f x)) (out : List β) (ho : out.length = xs.length) : Ev (fun k => L k out 0) (xs.map f) := by
  have key : ∀ (d i : Nat) (out : List β), i + d = xs.length → out.length = xs.length → out.take i = (xs.take i).map f → Ev (fun k => L k out (i : Int)) (xs.map f) := by
    intro d
    induction d with
    | zero =>
      intro i out h ho ht
      obtain rfl : i = xs.length := by omega
      refine Ev.step (f := fun _ => some _) (fun k => ?_) (Ev.now _)
      rw [stop k out ho]
      rw [List.take_of_length_le (by omega), List.take_of_length_le (by omega)] at ht
      rw [ht]
    | succ d ih =>
      intro i out h ho ht
      have hi : i < xs.length := by omega
      refine Ev.step (fun k => step k out i hi ho) (Ev.bind (hF _ (List.getElem_mem hi)) ?_)
      refine ih (i + 1) (out.set i (f xs[i])) (by omega) (by simpa using ho) ?_
      apply List.ext_getElem
      · simp; omega
      · intro j h1 h2
        simp at h1 h2
        simp only [List.getElem_take, List.getElem_set, List.getElem_map]
        by_cases hj : i = j
        · subst hj; rw [if_pos rfl]
        · rw [if_neg hj]
          have hj2 : j < i := by omega
          have e1 : (out.take i)[j]'(by simp; omega) = out[j] := by simp
          have e2 : ((xs.take i).map f)[j]'(by simp; omega) = f xs[j] := by simp
          rw [← e1, ← e2]
          simp only [ht]
  exact key xs.length 0 out (by omega) ho (by simp)
/-- A loop that stops with 'false' at the first element that fails. -/
theorem ev_all {α : Type} (L : Nat → Int → Option Bool) (xs : List α) (F : Nat → α → Option Bool) (P : α → Bool) (e : Bool)
    (stop : ∀ k, L (k + 1) (xs.length : Int) = some e)
    (step : ∀ k (i : Nat) (h : i < xs.length), L (k + 1) (i : Int) = (F k xs[i]).bind fun b => if b = true then L k ((i + 1 : Nat) : Int) else some false)
    (hF : ∀ x ∈ xs, Ev (fun k => F k x) (P x)) : Ev (fun k => L k 0) (xs.all P && e) := by
  have key : ∀ (d i : Nat), i + d = xs.length → Ev (fun k => L k (i : Int)) ((xs.drop i).all P && e) := by
    intro d
    induction d with
    | zero =>
      intro i h
      obtain rfl : i = xs.length := by omega
      refine Ev.step (f := fun _ => some _) (fun k => ?_) (Ev.now _)
      rw [stop k]
      simp
    | succ d ih =>
      intro i h
      have hi : i < xs.length := by omega
      refine Ev.step (fun k => step k i hi) (Ev.bind (hF _ (List.getElem_mem hi)) ?_)
      rw [List.drop_eq_getElem_cons hi, List.all_cons]
      cases hp : P xs[i] with
      | false => exact evNeg (by simp) (by simpa using Ev.now false)
      | true => exact evPos rfl (by simpa using ih (i + 1) (by omega))
  simpa using key xs.length 0 (by omega)
/-- A loop that tells the first place at which a test answers 'true'. -/
theorem ev_first {α : Type} (L : Nat → Int → Option Int) (xs : List α) (F : Nat → α → Option Bool) (P : α → Bool)
    (stop : ∀ k, L (k + 1) (xs.length : Int) = some (-1))
    (step : ∀ k (i : Nat) (h : i < xs.length), L (k + 1) (i : Int) = (F k xs[i]).bind fun b => if b = true then some (i : Int) else L k ((i + 1 : Nat) : Int))
    (hF : ∀ x ∈ xs, Ev (fun k => F k x) (P x)) : ∃ r, Ev (fun k => L k 0) r ∧ decide (r ≥ 0) = xs.any P := by
  have key : ∀ (d i : Nat), i + d = xs.length → ∃ r, Ev (fun k => L k (i : Int)) r ∧ decide (r ≥ 0) = (xs.drop i).any P := by
    intro d
    induction d with
    | zero =>
      intro i h
      obtain rfl : i = xs.length := by omega
      refine ⟨-1, Ev.step (f := fun _ => some _) (fun k => stop k) (Ev.now _), by simp⟩
    | succ d ih =>
      intro i h
      have hi : i < xs.length := by omega
      rw [List.drop_eq_getElem_cons hi, List.any_cons]
      cases hp : P xs[i] with
      | true =>
        refine ⟨(i : Int), Ev.step (fun k => step k i hi) (Ev.bind (hF _ (List.getElem_mem hi)) ?_), by simp⟩
        rw [hp]
        exact evPos rfl (Ev.now _)
      | false =>
        obtain ⟨r, hr, hr2⟩ := ih (i + 1) (by omega)
        refine ⟨r, Ev.step (fun k => step k i hi) (Ev.bind (hF _ (List.getElem_mem hi)) ?_), by simpa using hr2⟩
        rw [hp]
        exact evNeg (by simp) hr
  simpa using key xs.length 0 (by omega)
/-- What is left of a number of which each element takes its share; -1 if it doesn't suffice. -/
def less (s : Int) (w : Nat) : Int := if s < w then -1 else s - w
theorem less_neg (s : Int) (w : Nat) (h : 0 ≤ s) : less s w < 0 ↔ s < w := by unfold less; split <;> omega
theorem ev_sz {α : Type} (L : Nat → Int → Int → Option Int) (xs : List α) (F : Nat → α → Int → Option Int) (w : α → Nat)
    (stop : ∀ k s, L (k + 1) s (xs.length : Int) = some s)
    (step : ∀ k s (i : Nat) (h : i < xs.length), 0 ≤ s → s ≤ 1048576 → L (k + 1) s (i : Int) = (F k xs[i] s).bind fun t => if t < 0 then some (-1) else L k t ((i + 1 : Nat) : Int))
    (hF : ∀ x ∈ xs, ∀ s, 0 ≤ s → s ≤ 1048576 → Ev (fun k => F k x s) (less s (w x))) (s : Int) (h0 : 0 ≤ s) (h1 : s ≤ 1048576) : Ev (fun k => L k s 0) (less s (xs.map w).sum) := by
  have key : ∀ (d i : Nat) (s : Int), i + d = xs.length → 0 ≤ s → s ≤ 1048576 → Ev (fun k => L k s (i : Int)) (less s ((xs.drop i).map w).sum) := by
    intro d
    induction d with
    | zero =>
      intro i s h h0 h1
      obtain rfl : i = xs.length := by omega
      refine Ev.step (f := fun _ => some _) (fun k => ?_) (Ev.now _)
      rw [stop k s]
      simp [less]; omega
    | succ d ih =>
      intro i s h h0 h1
      have hi : i < xs.length := by omega
      refine Ev.step (fun k => step k s i hi h0 h1) (Ev.bind (hF _ (List.getElem_mem hi) s h0 h1) ?_)
      rw [List.drop_eq_getElem_cons hi, List.map_cons, List.sum_cons]
      by_cases hs : s < w xs[i]
      · have e1 : less s (w xs[i]) = -1 := by unfold less; rw [if_pos hs]
        have e2 : less s (w xs[i] + ((xs.drop (i + 1)).map w).sum) = -1 := by unfold less; rw [if_pos (by push_cast; omega)]
        rw [e1, e2]
        exact evPos (by omega) (Ev.now _)
      · have e1 : less s (w xs[i]) = s - w xs[i] := by unfold less; rw [if_neg hs]
        rw [e1]
        refine evNeg (by omega) ?_
        have := ih (i + 1) (s - w xs[i]) (by omega) (by omega) (by omega)
        have e2 : less (s - w xs[i]) ((xs.drop (i + 1)).map w).sum = less s (w xs[i] + ((xs.drop (i + 1)).map w).sum) := by
          unfold less
          push_cast
          by_cases h3 : s - w xs[i] < (((xs.drop (i + 1)).map w).sum : Nat)
          · rw [if_pos h3, if_pos (by omega)]
          · rw [if_neg h3, if_neg (by omega)]; omega
        rw [← e2]
        exact this
  simpa using key xs.length 0 s (by omega) h0 h1
theorem less_then {s : Int} {a b : Nat} (h0 : 0 ≤ s) (h : ¬ less s a < 0) : less s a = s - a ∧ 0 ≤ s - a ∧ less (s - a) b = less s (a + b) := by
  rw [less_neg s a h0] at h
  have e : less s a = s - a := by unfold less; rw [if_neg h]
  refine ⟨e, by omega, ?_⟩
  unfold less
  push_cast
  by_cases h3 : s - a < b
  · rw [if_pos h3, if_pos (by omega)]
  · rw [if_neg h3, if_neg (by omega)]; omega
theorem less_more {s : Int} {a b : Nat} (h0 : 0 ≤ s) (h : less s a < 0) : less s (a + b) = -1 := by
  rw [less_neg s a h0] at h
  unfold less
  rw [if_pos (by push_cast; omega)]
theorem less_none {s : Int} {a : Nat} (h0 : 0 ≤ s) (h : less s a < 0) : less s a = -1 := by
  rw [less_neg s a h0] at h
  unfold less
  rw [if_pos h]
-- part: strRd
theorem rdS_get {xs : List ByteArray} {i : Nat} (h : i < xs.length) : rdOf ByteArray.empty xs (i : Int) = xs[i] := by
  simp [rdOf, List.getD_eq_getElem?_getD, h]
-- part: strs
def wtS (xs : List ByteArray) : Nat := xs.length + (xs.map ByteArray.size).sum
theorem szStringS_ev (xs : List ByteArray) (hl : xs.length ≤ 9223372036854775807) (hx : ∀ x ∈ xs, x.size ≤ 9223372036854775807) (s : Int) (h0 : 0 ≤ s) (h1 : s ≤ 1048576) : Ev (fun k => laws_szStringS.f k xs s) (less s (wtS xs)) := by
  unfold laws_szStringS.f
  rw [w64 (by omega) (by omega)]
  by_cases h : s < xs.length
  · have e : less s (wtS xs) = -1 := by unfold less wtS; rw [if_pos (by push_cast; omega)]
    rw [e]
    exact evPos (by omega) (Ev.now _)
  · refine evNeg (by omega) ?_
    have e : less s (wtS xs) = less (s - xs.length) (xs.map ByteArray.size).sum :=
      ((less_then (s := s) (a := xs.length) (b := (xs.map ByteArray.size).sum) h0 (by rw [less_neg _ _ h0]; exact h)).2.2).symm
    rw [e]
    refine ev_sz (fun k s i => laws_szStringS.l0 k xs s i) xs (fun _ x s => some (less s x.size)) ByteArray.size ?_ ?_ ?_ _ (by omega) (by omega)
    · intro k s
      simp only [laws_szStringS.l0]
      rw [if_neg (by omega)]
    · intro k s i hi h2 h3
      have hb := hx _ (List.getElem_mem hi)
      simp only [laws_szStringS.l0, Option.bind_some]
      rw [if_pos (by omega), if_pos (by omega), rdS_get hi, w64 (x := s - (xs[i].size : Int)) (by omega) (by omega), w64 (x := (i : Int) + 1) (by omega) (by omega)]
      push_cast
      unfold less
      by_cases h4 : s < (xs[i].size : Int)
      · rw [if_pos (by omega), if_pos h4, if_pos (by omega)]
      · rw [if_neg (by omega), if_neg h4, if_neg (by omega)]
    · intro x _ s _ _
      exact Ev.now _
theorem toStringS_ev (xs : List ByteArray) (h : xs.length ≤ 1048576) : Ev (fun k => laws_toStringS.f k xs) xs := by
  have := ev_copy (fun k out i => laws_toStringS.l0 k xs out i) xs (fun _ x => some x) id (fun k out ho => by
      simp only [laws_toStringS.l0]
      rw [if_neg (by omega)]) (fun k out i hi ho => by
      simp only [laws_toStringS.l0, Option.bind_some]
      rw [if_pos (by omega), if_pos (by omega), if_pos (by omega), rdS_get hi, w64 (by omega) (by omega)]
      simp only [Int.toNat_natCast]
      push_cast
      rfl) (fun x hx => Ev.now _) (List.replicate xs.length (⟨#[]⟩ : ByteArray)) (by simp)
  rw [List.map_id] at this
  refine Ev.congr (fun k => ?_) this
  unfold laws_toStringS.f
  rw [if_pos (by omega), if_pos (by omega)]
  simp
theorem eqStringS_ev (xs : List ByteArray) (h : xs.length ≤ 1099511627776) : Ev (fun k => laws_eqStringS.f k xs xs) true := by
  have := ev_all (fun k i => laws_eqStringS.l0 k xs xs i) xs (fun _ _ => some true) (fun _ => true) true (fun k => by
      simp only [laws_eqStringS.l0]
      rw [if_neg (by omega)]) (fun k i hi => by
      simp only [laws_eqStringS.l0, Option.bind_some]
      rw [if_pos (by omega), if_pos (by omega), if_pos (by omega), if_pos trivial, w64 (by omega) (by omega)]
      push_cast
      rfl) (fun x hx => Ev.now _)
  rw [Bool.and_true, show (xs.all fun _ => true) = true by simp] at this
  refine Ev.congr (fun k => ?_) this
  unfold laws_eqStringS.f
  rw [if_pos rfl]
-- part: evif
theorem evIf {x y : Bool} {g : Nat → Option Bool} (h : Ev g y) : Ev (fun n => if x = true then g n else some false) (x && y) := by
  cases x
  · exact evNeg (by simp) (Ev.now _)
  · exact evPos rfl h
theorem evDec {c : Prop} [Decidable c] {y : Bool} {g : Nat → Option Bool} (h : Ev g y) : Ev (fun n => if c then g n else some false) (decide c && y) := by
  by_cases hc : c
  · rw [decide_eq_true hc, Bool.true_and]; exact evPos hc h
  · rw [decide_eq_false hc, Bool.false_and]; exact evNeg hc (Ev.now _)
theorem evNot {x y : Bool} {g : Nat → Option Bool} (h : x = false → Ev g y) : Ev (fun n => if x = true then some false else g n) (!x && y) := by
  cases x
  · exact evNeg (by simp) (h rfl)
  · exact evPos rfl (Ev.now _)
theorem evIte {c : Prop} [Decidable c] {x y : Bool} {f g : Nat → Option Bool} (h1 : c → Ev f x) (h2 : ¬ c → Ev g y) : Ev (fun n => if c then f n else g n) (if c then x else y) := by
  by_cases hc : c
  · rw [if_pos hc]; exact evPos hc (h1 hc)
  · rw [if_neg hc]; exact evNeg hc (h2 hc)
-- part: inF
theorem in_f (a b c : Int) : spec_l00In.f a b c = some (decide (b ≤ a ∧ a ≤ c)) := by
  unfold spec_l00In.f
  by_cases h : a ≥ b <;> simp [h]
-- part: lineOk
/-- A list of items, within bounds. -/
def itemsIn (xs : List ByteArray) (lo hi : Int) : Bool := xs.all (fun s => decide (isIt s)) && decide (lo ≤ (xs.length : Int) ∧ (xs.length : Int) ≤ hi)
theorem specItems_ev (xs : List ByteArray) (hn : xs.length ≤ 1048576) (lo hi : Int) : Ev (fun k => spec_l24Items.f k xs lo hi) (itemsIn xs lo hi) := by
  have := ev_all (fun k i => spec_l24Items.l0 k xs lo hi i) xs (fun k s => spec_IsItem.f k s) (fun s => decide (isIt s)) (decide (lo ≤ (xs.length : Int) ∧ (xs.length : Int) ≤ hi)) (fun k => by
      simp only [spec_l24Items.l0]
      rw [if_neg (by omega), in_f]
      rfl) (fun k i hi => by
      simp only [spec_l24Items.l0]
      rw [if_pos (by omega), if_pos (by omega), rdS_get hi, w64 (by omega) (by omega)]
      push_cast
      rfl) (fun x hx => specItem_ev x)
  exact this
theorem implItems_ev (xs : List ByteArray) (hn : xs.length ≤ 1048576) (lo hi : Int) : Ev (fun k => impl_areItems.f k xs lo hi) (itemsIn xs lo hi) := by
  unfold impl_areItems.f itemsIn
  by_cases h1 : (xs.length : Int) ≥ lo
  · by_cases h2 : (xs.length : Int) ≤ hi
    · rw [decide_eq_true (show lo ≤ (xs.length : Int) ∧ (xs.length : Int) ≤ hi from ⟨h1, h2⟩), Bool.and_true]
      refine evPos h1 (evPos h2 ?_)
      obtain ⟨r, hr, hr2⟩ := ev_first (fun k i => slices_IndexFunc_string_string_by_impl_areItems_1.l0 k xs (xs.length : Int) i) xs (fun k x => impl_areItems_1.f k x) (fun x => !decide (isIt x)) (fun k => by
          simp only [slices_IndexFunc_string_string_by_impl_areItems_1.l0]
          rw [if_neg (by omega)]) (fun k i hi => by
          simp only [slices_IndexFunc_string_string_by_impl_areItems_1.l0]
          rw [if_pos (by omega), if_pos (by omega), if_pos (by omega), rdS_get hi, w64 (by omega) (by omega)]
          push_cast
          rfl) (fun x hx => Ev.bind (implItem_ev x) (Ev.now _))
      refine Ev.bind (Ev.bind hr (Ev.now _)) ?_
      have e : (!decide (r ≥ 0)) = xs.all (fun s => decide (isIt s)) := by
        rw [hr2, List.not_any_eq_all_not]
        simp
      rw [e]
      exact Ev.now _
    · rw [decide_eq_false (fun h : lo ≤ (xs.length : Int) ∧ (xs.length : Int) ≤ hi => h2 h.2), Bool.and_false]
      exact evPos h1 (evNeg h2 (Ev.now _))
  · rw [decide_eq_false (fun h : lo ≤ (xs.length : Int) ∧ (xs.length : Int) ≤ hi => h1 h.1), Bool.and_false]
    exact evNeg h1 (Ev.now _)
def formOk (s : ByteArray) : Bool := decide (s.toList = [45] ∨ isNm s)
def formsIn (xs : List ByteArray) : Bool := xs.all formOk && decide (xs.length = 0 ∨ xs.length = 3)
theorem specForms_ev (xs : List ByteArray) (hn : xs.length ≤ 1048576) : Ev (fun k => spec_l24Forms.f k xs) (formsIn xs) := by
  have := ev_all (fun k i => spec_l24Forms.l0 k xs i) xs (fun k s => if s.toList = ([45] : List UInt8) then some true else spec_IsName.f k s) formOk (decide (xs.length = 0 ∨ xs.length = 3)) (fun k => by
      simp only [spec_l24Forms.l0]
      rw [if_neg (by omega)]
      by_cases h : xs.length = 0
      · rw [if_pos (by omega), decide_eq_true (Or.inl h)]
      · rw [if_neg (by omega)]
        congr 1
        rw [Bool.eq_iff_iff, beq_iff_eq, decide_eq_true_iff]
        omega) (fun k i hi => by
      simp only [spec_l24Forms.l0]
      rw [if_pos (by omega), if_pos (by omega), rdS_get hi, w64 (by omega) (by omega)]
      by_cases h : xs[i].toList = ([45] : List UInt8)
      · rw [if_pos h, if_pos h]
        push_cast
        rfl
      · rw [if_neg h, if_neg h]
        push_cast
        rfl) (fun x hx => by
      unfold formOk
      by_cases h : x.toList = ([45] : List UInt8)
      · rw [decide_eq_true (Or.inl h)]
        exact evPos h (Ev.now _)
      · rw [show decide (x.toList = [45] ∨ isNm x) = decide (isNm x) by simp [h]]
        exact evNeg h (specName_ev x))
  exact this
theorem implForms_ev (xs : List ByteArray) (hn : xs.length ≤ 1048576) : Ev (fun k => slices_ContainsFunc_string_string_by_impl_validJoinLine_1.f k xs) (!xs.all formOk) := by
  obtain ⟨r, hr, hr2⟩ := ev_first (fun k i => slices_IndexFunc_string_string_by_impl_validJoinLine_1.l0 k xs (xs.length : Int) i) xs (fun k x => impl_validJoinLine_1.f k x) (fun x => !formOk x) (fun k => by
      simp only [slices_IndexFunc_string_string_by_impl_validJoinLine_1.l0]
      rw [if_neg (by omega)]) (fun k i hi => by
      simp only [slices_IndexFunc_string_string_by_impl_validJoinLine_1.l0]
      rw [if_pos (by omega), if_pos (by omega), if_pos (by omega), rdS_get hi, w64 (by omega) (by omega)]
      push_cast
      rfl) (fun x hx => by
      unfold formOk
      by_cases h : x.toList = ([45] : List UInt8)
      · rw [decide_eq_true (Or.inl h)]
        exact evPos h (Ev.now _)
      · rw [show decide (x.toList = [45] ∨ isNm x) = decide (isNm x) by simp [h]]
        exact evNeg h (Ev.bind (implName_ev x) (Ev.now _)))
  refine Ev.bind hr ?_
  have e : decide (r ≥ 0) = !xs.all formOk := by
    rw [hr2, List.not_all_eq_any_not]
  rw [e]
  exact Ev.now _
/-! The reference's word on a line. -/
def nameOk (n : ByteArray) : Bool := decide (isNm n)
def specBody (v : Int) (n : ByteArray) (b d : List ByteArray) (u : Int) : Bool :=
  if v = 1 then nameOk n && (itemsIn b 1 20 && (decide ((d.length : Int) = 0) && (u == 0)))
  else if v = 2 then nameOk n && (decide ((b.length : Int) = 0) && (decide ((d.length : Int) = 0) && (u == 0)))
  else if v = 3 then decide (n.toList = ([] : List UInt8)) && (itemsIn b 1 4 && (itemsIn d 0 4 && (u == 0)))
  else if v = 4 then decide (n.toList = ([] : List UInt8)) && (decide ((b.length : Int) = 0) && (decide ((d.length : Int) = 0) && (u == 0)))
  else if v = 5 then decide (n.toList = ([] : List UInt8)) && (itemsIn b 2 2 && (decide ((d.length : Int) = 0) && decide (-262144 ≤ u ∧ u ≤ 262144)))
  else if v = 6 then nameOk n && (itemsIn b 2 2 && (decide ((d.length : Int) = 0) && (u == 0)))
  else if v = 7 then nameOk n && (decide ((b.length : Int) = 0) && (formsIn d && decide (1 ≤ u ∧ u ≤ 3)))
  else false
theorem specOk_ev (rs : List S39) (i : Int) (v : Int) (n : ByteArray) (a b c d : List ByteArray) (u : Int) (hr : rd_T39 rs i = ⟨v, n, a, b, c, d, u⟩) (ha : a.length ≤ 1048576) (hb : b.length ≤ 1048576) (hc : c.length ≤ 1048576) (hd : d.length ≤ 1048576) :
    Ev (fun k => spec_l24Ok_at.f k rs i) (itemsIn a 0 (if v = 3 then 4 else 0) && (itemsIn c 0 (if v = 3 then 4 else 0) && specBody v n b d u)) := by
  have ctx : ∀ m : Int, m = (if v = 3 then 4 else 0) → Ev (fun k => spec_l24Ok_at.j0 k m false rs i) (specBody v n b d u) := by
    intro m hm
    refine Ev.step (fun k => by simp only [spec_l24Ok_at.j0, hr]; rw [if_neg (by simp)]) ?_
    refine Ev.bind (specName_ev n) ?_
    refine evIte (fun _ => evIf (Ev.bind (specItems_ev b hb 1 20) (evIf (evDec (Ev.now _))))) (fun _ => ?_)
    refine evIte (fun _ => evIf (evDec (evDec (Ev.now _)))) (fun _ => ?_)
    refine evIte (fun h3 => ?_) (fun _ => ?_)
    · rw [if_pos h3] at hm
      subst hm
      exact evDec (Ev.bind (specItems_ev b hb 1 4) (evIf (Ev.bind (specItems_ev d hd 0 4) (evIf (Ev.now _)))))
    refine evIte (fun _ => evDec (evDec (evDec (Ev.now _)))) (fun _ => ?_)
    refine evIte (fun _ => evDec (Ev.bind (specItems_ev b hb 2 2) (evIf (evDec ?_)))) (fun _ => ?_)
    · rw [in_f]; exact Ev.now _
    refine evIte (fun _ => evIf (Ev.bind (specItems_ev b hb 2 2) (evIf (evDec (Ev.now _))))) (fun _ => ?_)
    refine evIte (fun _ => evIf (evDec (Ev.bind (specForms_ev d hd) (evIf ?_)))) (fun _ => Ev.now _)
    rw [in_f]; exact Ev.now _
  have bad : ∀ m : Int, Ev (fun k => spec_l24Ok_at.j0 k m true rs i) false := fun m => Ev.step (f := fun _ => some false) (fun k => by simp [spec_l24Ok_at.j0]) (Ev.now _)
  unfold spec_l24Ok_at.f spec_l24Context.f
  rw [hr]
  refine Ev.bind (g := fun _ => _) (a := (if v = 3 then 4 else 0 : Int)) ?_ ?_
  · by_cases h : v = 3
    · rw [if_pos h, if_pos h]; exact Ev.now _
    · rw [if_neg h, if_neg h]; exact Ev.now _
  refine Ev.bind (specItems_ev a ha 0 _) ?_
  cases itemsIn a 0 (if v = 3 then 4 else 0) with
  | false => exact evNeg (by simp) (bad _)
  | true =>
    refine evPos rfl (Ev.bind (specItems_ev c hc 0 _) ?_)
    cases itemsIn c 0 (if v = 3 then 4 else 0) with
    | false => exact bad _
    | true => exact ctx _ rfl
-- part: featureLine
/-- How much a line weighs. -/
def wtLine (n : ByteArray) (a b c d : List ByteArray) : Nat := n.size + wtS a + wtS b + wtS c + wtS d
def fitsS (xs : List ByteArray) : Prop := xs.length ≤ 9223372036854775807 ∧ ∀ x ∈ xs, x.size ≤ 9223372036854775807
theorem szLine_ev (v : Int) (n : ByteArray) (a b c d : List ByteArray) (u : Int) (hn : n.size ≤ 9223372036854775807) (ha : fitsS a) (hb : fitsS b) (hc : fitsS c) (hd : fitsS d) (s : Int) (h0 : 0 ≤ s) (h1 : s ≤ 1048576) :
    Ev (fun k => laws_szFeatureLine.f k v n a b c d u s) (less s (wtLine n a b c d)) := by
  unfold laws_szFeatureLine.f wtLine
  rw [w64 (by omega) (by omega)]
  by_cases n0 : less s n.size < 0
  · rw [show n.size + wtS a + wtS b + wtS c + wtS d = n.size + (wtS a + wtS b + wtS c + wtS d) by omega, less_more h0 n0]
    rw [less_neg _ _ h0] at n0
    exact evPos (by omega) (Ev.now _)
  obtain ⟨e0, p0, _⟩ := less_then (b := 0) h0 n0
  have q0 := (less_then (b := wtS a) h0 n0).2.2
  refine evNeg (by omega) (Ev.bind (szStringS_ev a ha.1 ha.2 _ p0 (by omega)) ?_)
  rw [q0]
  by_cases n1 : less s (n.size + wtS a) < 0
  · rw [show n.size + wtS a + wtS b + wtS c + wtS d = n.size + wtS a + (wtS b + wtS c + wtS d) by omega, less_more h0 n1]
    exact evPos n1 (Ev.now _)
  refine evNeg n1 ?_
  obtain ⟨e1, p1, _⟩ := less_then (b := 0) h0 n1
  rw [e1]
  refine Ev.bind (szStringS_ev b hb.1 hb.2 _ p1 (by omega)) ?_
  have q1 := (less_then (b := wtS b) h0 n1).2.2
  rw [q1]
  by_cases n2 : less s (n.size + wtS a + wtS b) < 0
  · rw [show n.size + wtS a + wtS b + wtS c + wtS d = n.size + wtS a + wtS b + (wtS c + wtS d) by omega, less_more h0 n2]
    exact evPos n2 (Ev.now _)
  refine evNeg n2 ?_
  obtain ⟨e2, p2, _⟩ := less_then (b := 0) h0 n2
  rw [e2]
  refine Ev.bind (szStringS_ev c hc.1 hc.2 _ p2 (by omega)) ?_
  have q2 := (less_then (b := wtS c) h0 n2).2.2
  rw [q2]
  by_cases n3 : less s (n.size + wtS a + wtS b + wtS c) < 0
  · rw [less_more h0 n3]
    exact evPos n3 (Ev.now _)
  refine evNeg n3 ?_
  obtain ⟨e3, p3, _⟩ := less_then (b := 0) h0 n3
  rw [e3]
  refine Ev.bind (szStringS_ev d hd.1 hd.2 _ p3 (by omega)) ?_
  have q3 := (less_then (b := wtS d) h0 n3).2.2
  rw [q3]
  by_cases n4 : less s (n.size + wtS a + wtS b + wtS c + wtS d) < 0
  · rw [less_none h0 n4]
    exact evPos (by omega) (Ev.now _)
  · exact evNeg n4 (Ev.now _)
theorem wtLine_len {n : ByteArray} {a b c d : List ByteArray} (h : wtLine n a b c d ≤ 1048576) : a.length ≤ 1048576 ∧ b.length ≤ 1048576 ∧ c.length ≤ 1048576 ∧ d.length ≤ 1048576 := by
  unfold wtLine wtS at h
  omega
theorem toLine_ev (v : Int) (n : ByteArray) (a b c d : List ByteArray) (u : Int) (h : a.length ≤ 1048576 ∧ b.length ≤ 1048576 ∧ c.length ≤ 1048576 ∧ d.length ≤ 1048576) : Ev (fun k => laws_toFeatureLine.f k v n a b c d u) (v, n, a, b, c, d, u) :=
  Ev.bind (toStringS_ev a h.1) (Ev.bind (toStringS_ev b h.2.1) (Ev.bind (toStringS_ev c h.2.2.1) (Ev.bind (toStringS_ev d h.2.2.2) (Ev.now _))))
theorem eqLine_ev (v : Int) (n : ByteArray) (a b c d : List ByteArray) (u : Int) (h : a.length ≤ 1048576 ∧ b.length ≤ 1048576 ∧ c.length ≤ 1048576 ∧ d.length ≤ 1048576) : Ev (fun k => laws_eqFeatureLine.f k v n a b c d u v n a b c d u) true :=
  evPos rfl (evPos rfl (Ev.bind (eqStringS_ev a (by omega)) (evPos rfl (Ev.bind (eqStringS_ev b (by omega)) (evPos rfl (Ev.bind (eqStringS_ev c (by omega)) (evPos rfl (Ev.bind (eqStringS_ev d (by omega)) (evPos rfl (evPos rfl (Ev.now _)))))))))))
-- part: validLine
/-! The program's word on a line. -/
def joinOk (d : List ByteArray) (u : Int) : Bool := if u < 1 then false else if u > 3 then false else if (d.length : Int) = 0 then d.all formOk else if (d.length : Int) = 3 then d.all formOk else false
def J3 (x : Bool) (v : Int) (a b c d : List ByteArray) (u : Int) : Bool := !x && (if v = 1 then itemsIn b 1 20 else if v = 3 then itemsIn a 0 4 && (itemsIn b 1 4 && (itemsIn c 0 4 && itemsIn d 0 4)) else if v = 5 then itemsIn b 2 2 && (if u ≥ -262144 then decide (u ≤ 262144) else false) else if v = 6 then itemsIn b 2 2 else if v = 7 then decide ((b.length : Int) = 0) && joinOk d u else ((b.length : Int) == 0))
def J2 (x : Bool) (v : Int) (a b c d : List ByteArray) (u : Int) : Bool := !x && (if v = 3 then J3 false v a b c d u else if v = 7 then J3 false v a b c d u else J3 (decide ((d.length : Int) > 0)) v a b c d u)
def J1 (x : Bool) (v : Int) (a b c d : List ByteArray) (u : Int) : Bool := !x && (if v = 3 then (if v = 5 then J2 false v a b c d u else if v = 7 then J2 false v a b c d u else J2 (u != 0) v a b c d u) else if (a.length : Int) + (c.length : Int) > 0 then J2 true v a b c d u else if v = 5 then J2 false v a b c d u else if v = 7 then J2 false v a b c d u else J2 (u != 0) v a b c d u)
def J0 (x : Bool) (v : Int) (n : ByteArray) (a b c d : List ByteArray) (u : Int) : Bool := if v < 1 then J1 true v a b c d u else if v > 7 then J1 true v a b c d u else if n.toList = ([] : List UInt8) then (if x = true then J1 true v a b c d u else J1 false v a b c d u) else if x = true then J1 (!nameOk n) v a b c d u else J1 true v a b c d u
def lineI (v : Int) (n : ByteArray) (a b c d : List ByteArray) (u : Int) : Bool := if v = 3 then J0 false v n a b c d u else if v = 4 then J0 false v n a b c d u else J0 (v != 5) v n a b c d u
section
variable (v : Int) (n : ByteArray) (a b c d : List ByteArray) (u : Int) (ha : a.length ≤ 1048576) (hb : b.length ≤ 1048576) (hc : c.length ≤ 1048576) (hd : d.length ≤ 1048576)
include hd in
theorem join_ev : Ev (fun k => impl_validJoinLine.f k v n a b c d u) (joinOk d u) := by
  have e : ∀ b : Bool, (!!b) = b := fun b => by cases b <;> rfl
  refine evIte (fun _ => Ev.now _) (fun _ => evIte (fun _ => Ev.now _) (fun _ => evIte (fun _ => ?_) (fun _ => evIte (fun _ => ?_) (fun _ => Ev.now _))))
  · exact Ev.bind (implForms_ev d hd) (by rw [e]; exact Ev.now _)
  · exact Ev.bind (implForms_ev d hd) (by rw [e]; exact Ev.now _)
include ha hb hc hd in
theorem j3_ev (x : Bool) : Ev (fun k => impl_ValidLine.j3 k x v n a b c d u) (J3 x v a b c d u) := by
  refine Ev.step (fun k => by rw [impl_ValidLine.j3]) (evNot (fun _ => ?_))
  refine evIte (fun _ => Ev.bind (implItems_ev b hb 1 20) (Ev.now _)) (fun _ => ?_)
  refine evIte (fun _ => Ev.bind (implItems_ev a ha 0 4) (evIf (Ev.bind (implItems_ev b hb 1 4) (evIf (Ev.bind (implItems_ev c hc 0 4) (evIf (Ev.bind (implItems_ev d hd 0 4) (Ev.now _)))))))) (fun _ => ?_)
  refine evIte (fun _ => Ev.bind (implItems_ev b hb 2 2) (evIf (evIte (fun _ => Ev.now _) (fun _ => Ev.now _)))) (fun _ => ?_)
  refine evIte (fun _ => Ev.bind (implItems_ev b hb 2 2) (Ev.now _)) (fun _ => ?_)
  refine evIte (fun _ => evDec (Ev.bind (join_ev v n a b c d u hd) (Ev.now _))) (fun _ => Ev.now _)
include ha hb hc hd in
theorem j2_ev (x : Bool) : Ev (fun k => impl_ValidLine.j2 k x v n a b c d u) (J2 x v a b c d u) :=
  Ev.step (fun k => by rw [impl_ValidLine.j2]) (evNot (fun _ => evIte (fun _ => j3_ev v n a b c d u ha hb hc hd _) (fun _ => evIte (fun _ => j3_ev v n a b c d u ha hb hc hd _) (fun _ => j3_ev v n a b c d u ha hb hc hd _))))
include ha hb hc hd in
theorem j1_ev (x : Bool) : Ev (fun k => impl_ValidLine.j1 k x v n a b c d u) (J1 x v a b c d u) := by
  have j2 := j2_ev v n a b c d u ha hb hc hd
  refine Ev.step (fun k => by rw [impl_ValidLine.j1, w64 (by omega) (by omega)]) (evNot (fun _ => ?_))
  exact evIte (fun _ => evIte (fun _ => j2 _) (fun _ => evIte (fun _ => j2 _) (fun _ => j2 _))) (fun _ => evIte (fun _ => j2 _) (fun _ => evIte (fun _ => j2 _) (fun _ => evIte (fun _ => j2 _) (fun _ => j2 _))))
include ha hb hc hd in
theorem j0_ev (x : Bool) : Ev (fun k => impl_ValidLine.j0 k x v n a b c d u) (J0 x v n a b c d u) := by
  have j1 := j1_ev v n a b c d u ha hb hc hd
  refine Ev.step (fun k => by rw [impl_ValidLine.j0]) ?_
  exact evIte (fun _ => j1 _) (fun _ => evIte (fun _ => j1 _) (fun _ => evIte (fun _ => evIte (fun _ => j1 _) (fun _ => j1 _)) (fun _ => evIte (fun _ => Ev.bind (implName_ev n) (j1 _)) (fun _ => j1 _))))
include ha hb hc hd in
theorem implLine_ev : Ev (fun k => impl_ValidLine.f k v n a b c d u) (lineI v n a b c d u) := by
  have j0 := j0_ev v n a b c d u ha hb hc hd
  exact evIte (fun _ => j0 _) (fun _ => evIte (fun _ => j0 _) (fun _ => j0 _))
end
theorem toB (c : Prop) [Decidable c] (x y : Bool) : (if c then x else y) = (if decide c = true then x else y) := by
  by_cases h : c
  · rw [if_pos h, if_pos (decide_eq_true h)]
  · rw [if_neg h, if_neg (by simpa using h)]
theorem itemsIn_none (xs : List ByteArray) : itemsIn xs 0 0 = decide ((xs.length : Int) = 0) := by
  unfold itemsIn
  cases xs with
  | nil => rfl
  | cons x xs => rw [decide_eq_false (by simp <;> omega), decide_eq_false (by simp <;> omega), Bool.and_false]
theorem nameOk_full {n : ByteArray} (h : nameOk n = true) : (n.toList != ([] : List UInt8)) = true := by
  unfold nameOk at h
  rw [decide_eq_true_iff] at h
  have h1 := h.1
  simp only [bne_iff_ne, ne_eq]
  rw [toList_nil]; omega
theorem forms_join (d : List ByteArray) (u : Int) : joinOk d u = (formsIn d && decide (1 ≤ u ∧ u ≤ 3)) := by
  unfold joinOk formsIn
  by_cases h1 : u < 1
  · rw [if_pos h1, decide_eq_false (by omega : ¬ (1 ≤ u ∧ u ≤ 3)), Bool.and_false]
  rw [if_neg h1]
  by_cases h2 : u > 3
  · rw [if_pos h2, decide_eq_false (by omega : ¬ (1 ≤ u ∧ u ≤ 3)), Bool.and_false]
  rw [if_neg h2, decide_eq_true (by omega : 1 ≤ u ∧ u ≤ 3), Bool.and_true]
  by_cases h3 : (d.length : Int) = 0
  · rw [if_pos h3, decide_eq_true (by omega : d.length = 0 ∨ d.length = 3), Bool.and_true]
  rw [if_neg h3]
  by_cases h4 : (d.length : Int) = 3
  · rw [if_pos h4, decide_eq_true (by omega : d.length = 0 ∨ d.length = 3), Bool.and_true]
  · rw [if_neg h4, decide_eq_false (by omega : ¬ (d.length = 0 ∨ d.length = 3)), Bool.and_false]
theorem lines_same (v : Int) (n : ByteArray) (a b c d : List ByteArray) (u : Int) : (itemsIn a 0 (if v = 3 then 4 else 0) && (itemsIn c 0 (if v = 3 then 4 else 0) && specBody v n b d u)) = lineI v n a b c d u := by
  have hne : (n.toList != ([] : List UInt8)) = !decide (n.toList = ([] : List UInt8)) := by
    rw [Bool.eq_iff_iff]; simp
  have hnm := nameOk_full (n := n)
  rw [hne] at hnm
  by_cases h3 : v = 3
  · subst h3
    unfold lineI J0 J1 J2 J3 specBody
    simp only [toB (n.toList = ([] : List UInt8))]
    have hu : (u != 0) = !(u == 0) := rfl
    rw [hu]
    simp only [↓reduceIte]
    generalize itemsIn a 0 4 = A
    generalize itemsIn b 1 4 = B
    generalize itemsIn c 0 4 = C
    generalize itemsIn d 0 4 = D
    generalize decide (n.toList = ([] : List UInt8)) = E
    generalize (u == 0) = U
    cases A <;> cases B <;> cases C <;> cases D <;> cases E <;> cases U <;> simp
  rw [if_neg h3, itemsIn_none, itemsIn_none]
  have hac : decide ((a.length : Int) + (c.length : Int) > 0) = !(decide ((a.length : Int) = 0) && decide ((c.length : Int) = 0)) := by
    rcases Decidable.em ((a.length : Int) = 0) with h1 | h1
    · rcases Decidable.em ((c.length : Int) = 0) with h2 | h2
      · rw [decide_eq_true h1, decide_eq_true h2, decide_eq_false (show ¬ ((a.length : Int) + (c.length : Int) > 0) by omega)]; rfl
      · rw [decide_eq_true h1, decide_eq_false h2, decide_eq_true (show (a.length : Int) + (c.length : Int) > 0 by omega)]; rfl
    · rw [decide_eq_false h1, decide_eq_true (show (a.length : Int) + (c.length : Int) > 0 by omega)]; rfl
  have hdl : decide ((d.length : Int) > 0) = !decide ((d.length : Int) = 0) := by
    rcases Decidable.em ((d.length : Int) = 0) with h1 | h1
    · rw [decide_eq_true h1, decide_eq_false (show ¬ (d.length : Int) > 0 by omega)]; rfl
    · rw [decide_eq_false h1, decide_eq_true (show (d.length : Int) > 0 by omega)]; rfl
  have hbl : ((b.length : Int) == 0) = decide ((b.length : Int) = 0) := rfl
  have hu : (u != 0) = !(u == 0) := rfl
  have hur : (if u ≥ -262144 then decide (u ≤ 262144) else false) = decide (-262144 ≤ u ∧ u ≤ 262144) := by
    by_cases h : u ≥ -262144
    · rw [if_pos h]; exact decide_eq_decide.2 (by omega)
    · rw [if_neg h, decide_eq_false (by omega)]
  unfold lineI J0 J1 J2 J3 specBody
  simp only [toB (n.toList = ([] : List UInt8)), toB ((a.length : Int) + (c.length : Int) > 0), forms_join, hur, hu, hdl, hbl, hac]
  rw [if_neg h3]
  generalize decide ((a.length : Int) = 0) = A at *
  generalize decide ((c.length : Int) = 0) = C at *
  generalize decide ((b.length : Int) = 0) = B0 at *
  generalize decide ((d.length : Int) = 0) = D0 at *
  generalize itemsIn b 1 20 = B20 at *
  generalize itemsIn b 1 4 = B4 at *
  generalize itemsIn b 2 2 = B2 at *
  generalize itemsIn d 0 4 = D4 at *
  generalize itemsIn a 0 4 = A4 at *
  generalize itemsIn c 0 4 = C4 at *
  generalize formsIn d = FD at *
  generalize decide (1 ≤ u ∧ u ≤ 3) = U3 at *
  generalize decide (-262144 ≤ u ∧ u ≤ 262144) = UR at *
  generalize (u == 0) = U at *
  generalize decide (n.toList = ([] : List UInt8)) = E at *
  generalize nameOk n = NM at *
  clear hac hdl hbl hu hur hne
  by_cases h1 : v = 1
  · subst h1
    cases A <;> cases C <;> cases D0 <;> cases B20 <;> cases U <;> cases E <;> cases NM <;> simp_all
  by_cases h2 : v = 2
  · subst h2
    cases A <;> cases C <;> cases D0 <;> cases B0 <;> cases U <;> cases E <;> cases NM <;> simp_all
  by_cases h4 : v = 4
  · subst h4
    cases A <;> cases C <;> cases D0 <;> cases B0 <;> cases U <;> cases E <;> simp
  by_cases h5 : v = 5
  · subst h5
    cases A <;> cases C <;> cases D0 <;> cases B2 <;> cases UR <;> cases E <;> simp
  by_cases h6 : v = 6
  · subst h6
    cases A <;> cases C <;> cases D0 <;> cases B2 <;> cases U <;> cases E <;> cases NM <;> simp_all
  by_cases h7 : v = 7
  · subst h7
    cases A <;> cases C <;> cases FD <;> cases U3 <;> cases B0 <;> cases E <;> cases NM <;> simp_all
  by_cases l1 : v < 1
  · simp [l1, h1, h2, h3, h4, h5, h6, h7]
  · have l2 : v > 7 := by omega
    simp [l1, l2, h1, h2, h3, h4, h5, h6, h7]
-- part: bytes
theorem bx_ext {a b : ByteArray} (h : a.data.toList = b.data.toList) : a = b := by
  cases a; cases b; simp only at h; congr 1; exact Array.toList_inj.1 h
theorem bx_app (a b : ByteArray) : (a ++ b).data.toList = a.data.toList ++ b.data.toList := by
  rw [ByteArray.data_append]; simp
theorem bx_assoc (a b c : ByteArray) : (a ++ b) ++ c = a ++ (b ++ c) := by
  apply bx_ext; simp only [bx_app, List.append_assoc]
theorem bx_size (a b : ByteArray) : (a ++ b).size = a.size + b.size := ByteArray.size_append
theorem bx_nil (a : ByteArray) : (⟨#[]⟩ : ByteArray) ++ a = a := by apply bx_ext; rw [bx_app]; rfl
theorem bx_nil' (a : ByteArray) : a ++ (⟨#[]⟩ : ByteArray) = a := by apply bx_ext; rw [bx_app]; simp
theorem son_app (xs ys : List Int) : strOfNums (xs ++ ys) = strOfNums xs ++ strOfNums ys := by
  apply bx_ext; rw [bx_app]; simp only [strOfNums_data, List.map_append]
theorem son_cons (x : Int) (xs : List Int) : strOfNums (x :: xs) = strOfNums [x] ++ strOfNums xs := son_app [x] xs
-- part: dec
open Go.Proofs.Ytfabhfdjabehpaa.Gv
/-- A number's decimal form. -/
def decB (n : Int) : ByteArray := strOfNums (decL n)
theorem decL_len (n : Int) (h0 : -9223372036854775808 ≤ n) (h1 : n ≤ 9223372036854775807) : (decL n).length ≤ 20 := by
  have := digP_len 19 n.natAbs (by omega) (by omega)
  unfold decL
  split
  · rw [List.length_cons]; omega
  · omega
theorem decB_size (n : Int) (h0 : -9223372036854775808 ≤ n) (h1 : n ≤ 9223372036854775807) : (decB n).size ≤ 20 := by
  unfold decB
  rw [strOfNums_size]
  exact decL_len n h0 h1
theorem implDec (n : Int) (h0 : -9223372036854775808 ≤ n) (h1 : n ≤ 9223372036854775807) : impl_Decimal.f n = some (decB n) := by
  unfold impl_Decimal.f decF
  rw [if_pos ⟨h0, h1⟩]
  rfl
def digZ (u : Nat) : List Int := if u = 0 then [] else digP u
theorem digZ_step (u : Nat) (h : u ≠ 0) (acc : List Int) : digZ u ++ acc = digZ (u / 10) ++ ((48 + ((u % 10 : Nat) : Int)) :: acc) := by
  unfold digZ
  rw [if_neg h]
  by_cases h9 : u < 10
  · rw [digP_one h9, if_pos (by omega), show u % 10 = u by omega]; rfl
  · rw [digP_more h9, if_neg (by omega), List.append_assoc]; rfl
def finD (x0 : Int) (l : List Int) : ByteArray := if l.length = 0 then ⟨#[48]⟩ else if x0 < 0 then (⟨#[45]⟩ : ByteArray) ++ strOfNums l else strOfNums l
theorem specDec_l0 (x0 : Int) : ∀ (n u : Nat) (kk : Int) (acc : List Int), u < 10 ^ n → kk.natAbs = u → acc.length + n ≤ 20 → -9223372036854775808 ≤ kk → kk ≤ 9223372036854775807 →
    Ev (fun k => spec_l01Dec.l0 k x0 acc kk) (finD x0 (digZ u ++ acc)) := by
  intro n
  have base : ∀ (acc : List Int), acc.length ≤ 20 → Ev (fun k => spec_l01Dec.l0 k x0 acc 0) (finD x0 (digZ 0 ++ acc)) := by
    intro acc ha
    refine Ev.step (f := fun _ => some _) (fun k => ?_) (Ev.now _)
    simp only [spec_l01Dec.l0]
    rw [if_pos trivial]
    show _ = some (finD x0 acc)
    unfold finD
    by_cases h0 : acc.length = 0
    · rw [if_pos (by omega), if_pos h0]
    · rw [if_neg (by omega), if_neg h0]
      by_cases hs : x0 < 0
      · rw [if_pos hs, if_pos hs, if_pos (by rw [strOfNums_size]; omega)]
      · rw [if_neg hs, if_neg hs]
  induction n with
  | zero =>
    intro u kk acc hu hk ha _ _
    have hu0 : u = 0 := by simpa using hu
    obtain rfl : kk = 0 := by omega
    subst hu0
    exact base acc (by omega)
  | succ n ih =>
    intro u kk acc hu hk ha hb0 hb1
    by_cases h0 : u = 0
    · obtain rfl : kk = 0 := by omega
      subst h0
      exact base acc (by omega)
    · have hk0 : ¬ kk = 0 := by omega
      have hu10 : u / 10 < 10 ^ n := by rw [Nat.pow_succ] at hu; omega
      have ht : Int.tmod kk 10 = if kk < 0 then -((u % 10 : Nat) : Int) else ((u % 10 : Nat) : Int) := by
        split
        · rename_i hs
          have e : kk = -(u : Int) := by omega
          rw [e, Int.neg_tmod, Int.tmod_eq_emod_of_nonneg (by omega)]; push_cast; rfl
        · rename_i hs
          have e : kk = (u : Int) := by omega
          rw [e, Int.tmod_eq_emod_of_nonneg (by omega)]; push_cast; rfl
      have hd : Int.tdiv kk 10 = if kk < 0 then -((u / 10 : Nat) : Int) else ((u / 10 : Nat) : Int) := by
        split
        · rename_i hs
          have e : kk = -(u : Int) := by omega
          rw [e, Int.neg_tdiv, Int.tdiv_eq_ediv_of_nonneg (by omega)]; push_cast; rfl
        · rename_i hs
          have e : kk = (u : Int) := by omega
          rw [e, Int.tdiv_eq_ediv_of_nonneg (by omega)]; push_cast; rfl
      generalize hT : Int.tmod kk 10 = T at ht
      generalize hD : Int.tdiv kk 10 = D at hd
      have hD' : D.natAbs = u / 10 ∧ -9223372036854775808 ≤ D ∧ D ≤ 9223372036854775807 := by
        rw [hd]; split <;> omega
      rw [digZ_step u h0]
      refine Ev.step (fun k => ?_) (ih (u / 10) D ((48 + ((u % 10 : Nat) : Int)) :: acc) hu10 hD'.1 (by simp only [List.length_cons]; omega) hD'.2.1 hD'.2.2)
      simp only [spec_l01Dec.l0]
      rw [if_neg hk0, hT, hD, w64 (x := D) (by omega) (by omega)]
      by_cases hm : T < 0
      · have hTu : -T = ((u % 10 : Nat) : Int) := by
          by_cases hq : kk < 0
          · rw [if_pos hq] at ht; omega
          · rw [if_neg hq] at ht; omega
        rw [if_pos hm]
        simp only [Option.bind_some]
        rw [if_pos (by simp only [List.length_singleton]; omega), hTu, w64 (x := ((u % 10 : Nat) : Int)) (by omega) (by omega), w64 (by omega) (by omega), show (48 + ((u % 10 : Nat) : Int)) % 256 = 48 + ((u % 10 : Nat) : Int) by omega]
        rfl
      · have hTu : T = ((u % 10 : Nat) : Int) := by
          by_cases hq : kk < 0
          · rw [if_pos hq] at ht; omega
          · rw [if_neg hq] at ht; omega
        rw [if_neg hm]
        simp only [Option.bind_some]
        rw [if_pos (by simp only [List.length_singleton]; omega), hTu, w64 (by omega) (by omega), show (48 + ((u % 10 : Nat) : Int)) % 256 = 48 + ((u % 10 : Nat) : Int) by omega]
        rfl
theorem specDec_ev (n : Int) (h0 : -9223372036854775808 ≤ n) (h1 : n ≤ 9223372036854775807) : Ev (fun k => spec_l01Dec.f k n) (decB n) := by
  have e : decB n = finD n (digZ n.natAbs ++ []) := by
    rw [List.append_nil]
    unfold decB decL finD digZ
    by_cases hz : n.natAbs = 0
    · obtain rfl : n = 0 := by omega
      rw [if_pos hz, if_neg (show ¬ (0 : Int) < 0 by omega), hz, digP_one (by omega)]
      rfl
    · have hp := digP_pos n.natAbs
      rw [if_neg hz, if_neg (show ¬ (digP n.natAbs).length = 0 by omega)]
      by_cases hs : n < 0
      · rw [if_pos hs, if_pos hs, son_cons]; rfl
      · rw [if_neg hs, if_neg hs]
  rw [e]
  exact specDec_l0 n 20 n.natAbs n [] (by omega) rfl (by simp) h0 h1
-- part: concatS
theorem rdLS_get {cs : List (List ByteArray)} {j : Nat} (h : j < cs.length) : rd_L2 cs (j : Int) = cs[j] := by
  simp [rd_L2, h]
theorem flatS_take (xs : List (List ByteArray)) (i : Nat) (h : i < xs.length) : (xs.take (i + 1)).flatten = (xs.take i).flatten ++ xs[i] := by
  rw [List.take_succ_eq_append_getElem h, List.flatten_append]; simp
theorem flatS_le (xs : List (List ByteArray)) (i : Nat) : (xs.take i).flatten.length ≤ xs.flatten.length := by
  conv => rhs; rw [← List.take_append_drop i xs, List.flatten_append, List.length_append]
  omega
theorem concatS_l1 (xs : List (List ByteArray)) (hn : xs.length ≤ 16777216) (hf : xs.flatten.length ≤ 16777216) : ∀ (d i : Nat) (acc : List ByteArray), i + d = xs.length → acc = (xs.take i).flatten →
    Ev (fun k => slices_Concat_string_string.l1 k acc xs (xs.length : Int) (i : Int)) xs.flatten := by
  intro d
  induction d with
  | zero =>
    intro i acc h ha
    obtain rfl : i = xs.length := by omega
    refine Ev.step (f := fun _ => some _) (fun k => ?_) (Ev.now _)
    simp only [slices_Concat_string_string.l1]
    rw [if_neg (by omega), ha, List.take_length]
  | succ d ih =>
    intro i acc h ha
    have hi : i < xs.length := by omega
    have e := flatS_take xs i hi
    have hl := flatS_le xs (i + 1)
    rw [e, List.length_append] at hl
    refine Ev.step (fun k => ?_) (ih (i + 1) (acc ++ xs[i]) (by omega) (by rw [e, ha]))
    simp only [slices_Concat_string_string.l1]
    rw [if_pos (by omega), if_pos (by omega), if_pos (by omega), rdLS_get hi, if_pos (by rw [ha]; omega), w64 (x := (i : Int) + 1) (by omega) (by omega)]
    push_cast; rfl
theorem concatS_l0 (xs : List (List ByteArray)) (hn : xs.length ≤ 16777216) (hf : xs.flatten.length ≤ 16777216) : ∀ (d i : Nat) (s : Int), i + d = xs.length → s = ((xs.take i).flatten.length : Int) →
    Ev (fun k => slices_Concat_string_string.l0 k xs s xs (xs.length : Int) (i : Int)) xs.flatten := by
  intro d
  induction d with
  | zero =>
    intro i s h hs
    obtain rfl : i = xs.length := by omega
    rw [List.take_length] at hs
    refine Ev.step (f := fun k => slices_Concat_string_string.l1 k [] xs (xs.length : Int) 0) (fun k => ?_) (concatS_l1 xs hn hf xs.length 0 [] (by omega) (by simp))
    simp only [slices_Concat_string_string.l0, slices_Grow_string_string.f]
    rw [if_neg (by omega), if_pos ⟨by omega, by omega⟩]
    rfl
  | succ d ih =>
    intro i s h hs
    have hi : i < xs.length := by omega
    have e := flatS_take xs i hi
    have hl := flatS_le xs (i + 1)
    rw [e, List.length_append] at hl
    refine Ev.step (fun k => ?_) (ih (i + 1) (s + (xs[i].length : Int)) (by omega) (by rw [e, List.length_append, hs]; push_cast; rfl))
    simp only [slices_Concat_string_string.l0]
    rw [if_pos (by omega), if_pos (by omega), if_pos (by omega), rdLS_get hi, w64 (x := s + (xs[i].length : Int)) (by omega) (by omega), if_neg (by omega), w64 (x := (i : Int) + 1) (by omega) (by omega)]
    push_cast; rfl
theorem concatS_ev (xs : List (List ByteArray)) (hn : xs.length ≤ 16777216) (hf : xs.flatten.length ≤ 16777216) : Ev (fun k => slices_Concat_string_string.f k xs) xs.flatten :=
  concatS_l0 xs hn hf xs.length 0 0 (by omega) (by simp)
-- part: lineText
theorem szl (l : List UInt8) : (⟨l.toArray⟩ : ByteArray).size = l.length := by simp [ByteArray.size]
def sp1 : ByteArray := ⟨#[32]⟩
/-- Words, each with a blank before it. -/
def wB : List ByteArray → ByteArray
  | [] => ⟨#[]⟩
  | x :: r => ((⟨#[32]⟩ : ByteArray) ++ x) ++ wB r
theorem wB_app (xs ys : List ByteArray) : wB (xs ++ ys) = wB xs ++ wB ys := by
  induction xs with
  | nil => rw [List.nil_append, wB, bx_nil]
  | cons x xs ih => rw [List.cons_append, wB, wB, ih]; simp only [bx_assoc]
theorem wtS_cons (x : ByteArray) (xs : List ByteArray) : wtS (x :: xs) = 1 + x.size + wtS xs := by
  unfold wtS
  rw [List.length_cons, List.map_cons, List.sum_cons]
  omega
theorem wtS_nil : wtS [] = 0 := rfl
theorem wtS_app (xs ys : List ByteArray) : wtS (xs ++ ys) = wtS xs + wtS ys := by
  induction xs with
  | nil => rw [List.nil_append, wtS_nil]; omega
  | cons x xs ih => rw [List.cons_append, wtS_cons, wtS_cons, ih]; omega
theorem wtS_len (xs : List ByteArray) : xs.length ≤ wtS xs := by
  unfold wtS; omega
theorem wB_size (xs : List ByteArray) : (wB xs).size = wtS xs := by
  induction xs with
  | nil => rfl
  | cons x xs ih => rw [wB, wtS_cons, bx_size, bx_size, ih]; rfl
theorem joinB_words (x : ByteArray) (r : List ByteArray) : joinB (⟨#[32]⟩ : ByteArray) (x :: r) = x ++ wB r := by
  have key : ∀ (r : List ByteArray) (x : ByteArray), r.foldl (fun a y => (a ++ (⟨#[32]⟩ : ByteArray)) ++ y) x = x ++ wB r := by
    intro r
    induction r with
    | nil => intro x; rw [List.foldl_nil, wB, bx_nil']
    | cons y r ih => intro x; rw [List.foldl_cons, ih, wB]; simp only [bx_assoc]
  exact key r x
theorem joinWords (x : ByteArray) (r : List ByteArray) (h : x.size + wtS r ≤ 4194304) : Ev (fun _ => strings_Join.f (x :: r) (⟨#[32]⟩ : ByteArray)) (x ++ wB r) := by
  refine Ev.congr (f := fun _ => some _) (fun k => ?_) (Ev.now _)
  have h1 := wtS_len r
  unfold strings_Join.f joinF
  rw [joinB_words, if_pos ⟨by rw [List.length_cons]; omega, by rw [bx_size, wB_size]; omega⟩]
theorem specWds_l0 (xs : List ByteArray) (hx : wtS xs ≤ 1048576) : ∀ (d i : Nat), i + d = xs.length → Ev (fun k => spec_l24Words.l0 k xs (wB (xs.take i)) (i : Int)) (wB xs) := by
  have hn := wtS_len xs
  intro d
  induction d with
  | zero =>
    intro i h
    rw [show xs.take i = xs from List.take_of_length_le (by omega)]
    exact Ev.step (fun k => by rw [spec_l24Words.l0]) (evNeg (by omega) (Ev.now _))
  | succ d ih =>
    intro i h
    have hi : i < xs.length := by omega
    have e : wB (xs.take (i + 1)) = wB (xs.take i) ++ ((⟨#[32]⟩ : ByteArray) ++ xs[i]) := by
      rw [List.take_succ_eq_append_getElem hi, wB_app, wB, wB, bx_nil']
    have hw : wtS (xs.take (i + 1)) ≤ wtS xs := by
      have := wtS_app (xs.take (i + 1)) (xs.drop (i + 1))
      rw [List.take_append_drop] at this
      omega
    have hs := wB_size (xs.take (i + 1))
    have s32 : (⟨#[32]⟩ : ByteArray).size = 1 := rfl
    rw [e, bx_size, bx_size, s32] at hs
    refine Ev.step (fun k => by rw [spec_l24Words.l0]) (evPos (by omega) (evPos (by omega) ?_))
    rw [rdS_get hi]
    refine evPos (by omega) (evPos (by rw [bx_size, s32]; omega) ?_)
    rw [w64 (by omega) (by omega), ← e]
    have := ih (i + 1) (by omega)
    push_cast at this
    exact this
theorem specWds_ev (xs : List ByteArray) (hx : wtS xs ≤ 1048576) : Ev (fun k => spec_l24Words.f k xs) (wB xs) := specWds_l0 xs hx xs.length 0 (by omega)
def jKinds : List ByteArray := [(⟨#[]⟩ : ByteArray), (⟨#[100, 117, 97, 108]⟩ : ByteArray), (⟨#[114, 105, 103, 104, 116]⟩ : ByteArray), (⟨#[116, 114, 97, 110, 115, 112, 97, 114, 101, 110, 116]⟩ : ByteArray)]
def jKind (u : Int) : ByteArray := rdOf ByteArray.empty jKinds u
theorem jKind_size (u : Int) (h : 1 ≤ u ∧ u ≤ 3) : (jKind u).size ≤ 11 := by
  rcases (by omega : u = 1 ∨ u = 2 ∨ u = 3) with rfl | rfl | rfl <;> decide
/-- The words of a line. -/
def wordsL (v : Int) (n : ByteArray) (a b c d : List ByteArray) (u : Int) : ByteArray × List ByteArray :=
  if v = 1 then (⟨#[99, 108, 97, 115, 115]⟩, n :: (⟨#[61]⟩ : ByteArray) :: b)
  else if v = 2 then (⟨#[108, 111, 111, 107, 117, 112]⟩, [n])
  else if v = 3 then (if (a.length : Int) + (c.length : Int) = 0 then (⟨#[115, 117, 98]⟩, b ++ ((⟨#[98, 121]⟩ : ByteArray) :: d)) else (⟨#[115, 117, 98]⟩, a ++ ((⟨#[124]⟩ : ByteArray) :: (b ++ ((⟨#[124]⟩ : ByteArray) :: (c ++ ((⟨#[98, 121]⟩ : ByteArray) :: d)))))))
  else if v = 5 then (⟨#[107, 101, 114, 110]⟩, b ++ [decB u])
  else if v = 6 then (⟨#[109, 97, 114, 107]⟩, [rdOf ByteArray.empty b 0, ⟨#[111, 110]⟩, rdOf ByteArray.empty b 1, ⟨#[97, 116]⟩, n])
  else if v = 7 then (⟨#[106, 111, 105, 110]⟩, n :: jKind u :: d)
  else (⟨#[101, 110, 100]⟩, [])
def textL (v : Int) (n : ByteArray) (a b c d : List ByteArray) (u : Int) : ByteArray := (wordsL v n a b c d u).1 ++ wB (wordsL v n a b c d u).2
theorem two_of (b : List ByteArray) (h : itemsIn b 2 2 = true) : ∃ p q, b = [p, q] := by
  unfold itemsIn at h
  rw [Bool.and_eq_true, decide_eq_true_iff] at h
  have := h.2
  match b, this with
  | [p, q], _ => exact ⟨p, q, rfl⟩
  | [], h => simp at h
  | [p], h => simp at h
  | p :: q :: r :: s, h => simp at h; omega
/-- What the kinds bear of a valid line. -/
theorem line_facts {v : Int} {n : ByteArray} {a b c d : List ByteArray} {u : Int} (h : lineI v n a b c d u = true) :
    ((v = 5 ∨ v = 6) → ∃ p q, b = [p, q]) ∧ (v = 5 → -262144 ≤ u ∧ u ≤ 262144) ∧ (v = 7 → 1 ≤ u ∧ u ≤ 3) := by
  rw [← lines_same, Bool.and_eq_true, Bool.and_eq_true] at h
  have h := h.2.2
  refine ⟨?_, ?_, ?_⟩
  · rintro (rfl | rfl)
    · simp only [specBody] at h
      simp at h
      exact two_of b h.2.1
    · simp only [specBody] at h
      simp at h
      exact two_of b h.2.1
  · rintro rfl
    simp only [specBody] at h
    simp at h
    exact h.2.2.2
  · rintro rfl
    simp only [specBody] at h
    simp at h
    exact h.2.2.2
theorem implWords_line (v : Int) (n : ByteArray) (a b c d : List ByteArray) (u : Int) (hw : n.size + wtS a + wtS b + wtS c + wtS d ≤ 1048576) (h : lineI v n a b c d u = true) :
    Ev (fun k => impl_lineWords.f k v n a b c d u) ((wordsL v n a b c d u).1 :: (wordsL v n a b c d u).2) := by
  obtain ⟨f1, f2, f3⟩ := line_facts h
  have la := wtS_len a
  have lb := wtS_len b
  have lc := wtS_len c
  have ld := wtS_len d
  by_cases h1 : v = 1
  · subst h1
    rw [show wordsL 1 n a b c d u = ((⟨#[99, 108, 97, 115, 115]⟩ : ByteArray), n :: (⟨#[61]⟩ : ByteArray) :: b) from rfl]
    exact evPos rfl (Ev.bind (Ev.now _) (evPos (by simp only [List.length_cons, List.length_nil]; omega) (Ev.now _)))
  by_cases h2 : v = 2
  · subst h2
    rw [show wordsL 2 n a b c d u = ((⟨#[108, 111, 111, 107, 117, 112]⟩ : ByteArray), [n]) from rfl]
    refine evNeg (by decide) ?_
    exact evPos rfl (Ev.now _)
  by_cases h3 : v = 3
  · subst h3
    refine evNeg (by decide) ?_
    refine evNeg (by decide) ?_
    refine evPos rfl ?_
    rw [w64 (x := (a.length : Int) + (c.length : Int)) (by omega) (by omega)]
    by_cases h0 : (a.length : Int) + (c.length : Int) = 0
    · rw [show wordsL 3 n a b c d u = ((⟨#[115, 117, 98]⟩ : ByteArray), b ++ ((⟨#[98, 121]⟩ : ByteArray) :: d)) by unfold wordsL; rw [if_neg (by decide), if_neg (by decide), if_pos rfl, if_pos h0]]
      refine evPos h0 (Ev.bind (concatS_ev _ (by simp) (by simp; omega)) ?_)
      simp only [List.flatten_cons, List.flatten_nil, List.append_nil, List.cons_append, List.nil_append]
      exact Ev.now _
    · rw [show wordsL 3 n a b c d u = ((⟨#[115, 117, 98]⟩ : ByteArray), a ++ ((⟨#[124]⟩ : ByteArray) :: (b ++ ((⟨#[124]⟩ : ByteArray) :: (c ++ ((⟨#[98, 121]⟩ : ByteArray) :: d)))))) by unfold wordsL; rw [if_neg (by decide), if_neg (by decide), if_pos rfl, if_neg h0]]
      refine evNeg h0 (Ev.bind (concatS_ev _ (by simp) (by simp; omega)) ?_)
      simp only [List.flatten_cons, List.flatten_nil, List.append_nil, List.cons_append, List.nil_append]
      exact Ev.now _
  by_cases h5 : v = 5
  · obtain ⟨p, q, rfl⟩ := f1 (.inl h5)
    have hu := f2 h5
    subst h5
    rw [show wordsL 5 n a [p, q] c d u = ((⟨#[107, 101, 114, 110]⟩ : ByteArray), [p, q] ++ [decB u]) from rfl]
    refine evNeg (by decide) ?_
    refine evNeg (by decide) ?_
    refine evNeg (by decide) ?_
    refine evPos rfl (evPos (by simp) (evPos (by simp) (Ev.bind (a := decB u) ?_ (Ev.now _))))
    rw [implDec u (by omega) (by omega)]
    exact Ev.now _
  by_cases h6 : v = 6
  · obtain ⟨p, q, rfl⟩ := f1 (.inr h6)
    subst h6
    rw [show wordsL 6 n a [p, q] c d u = ((⟨#[109, 97, 114, 107]⟩ : ByteArray), [p, (⟨#[111, 110]⟩ : ByteArray), q, (⟨#[97, 116]⟩ : ByteArray), n]) from rfl]
    refine evNeg (by decide) ?_
    refine evNeg (by decide) ?_
    refine evNeg (by decide) ?_
    refine evNeg (by decide) ?_
    exact evPos rfl (evPos (by simp) (evPos (by simp) (Ev.now _)))
  by_cases h7 : v = 7
  · have hu := f3 h7
    subst h7
    rw [show wordsL 7 n a b c d u = ((⟨#[106, 111, 105, 110]⟩ : ByteArray), n :: jKind u :: d) from rfl]
    refine evNeg (by decide) ?_
    refine evNeg (by decide) ?_
    refine evNeg (by decide) ?_
    refine evNeg (by decide) ?_
    refine evNeg (by decide) ?_
    exact evPos rfl (Ev.bind (a := jKinds) (Ev.now _) (evPos (by omega) (evPos (by show u < ((4 : Nat) : Int); omega) (Ev.bind (Ev.now _) (evPos (by simp only [List.length_cons, List.length_nil]; omega) (Ev.now _))))))
  rw [show wordsL v n a b c d u = ((⟨#[101, 110, 100]⟩ : ByteArray), []) by unfold wordsL; rw [if_neg h1, if_neg h2, if_neg h3, if_neg h5, if_neg h6, if_neg h7]]
  exact evNeg h1 (evNeg h2 (evNeg h3 (evNeg h5 (evNeg h6 (evNeg h7 (Ev.now _))))))
theorem wordsL_size (v : Int) (n : ByteArray) (a b c d : List ByteArray) (u : Int) (hw : n.size + wtS a + wtS b + wtS c + wtS d ≤ 1048576) (h : lineI v n a b c d u = true) :
    (wordsL v n a b c d u).1.size + wtS (wordsL v n a b c d u).2 ≤ 2097152 := by
  obtain ⟨f1, f2, f3⟩ := line_facts h
  by_cases h1 : v = 1
  · subst h1
    rw [show wordsL 1 n a b c d u = ((⟨#[99, 108, 97, 115, 115]⟩ : ByteArray), n :: (⟨#[61]⟩ : ByteArray) :: b) from rfl]
    simp only [wtS_cons, wtS_app, wtS_nil, szl, List.length_cons, List.length_nil]
    omega
  by_cases h2 : v = 2
  · subst h2
    rw [show wordsL 2 n a b c d u = ((⟨#[108, 111, 111, 107, 117, 112]⟩ : ByteArray), [n]) from rfl]
    simp only [wtS_cons, wtS_app, wtS_nil, szl, List.length_cons, List.length_nil]
    omega
  by_cases h3 : v = 3
  · subst h3
    by_cases h0 : (a.length : Int) + (c.length : Int) = 0
    · rw [show wordsL 3 n a b c d u = ((⟨#[115, 117, 98]⟩ : ByteArray), b ++ ((⟨#[98, 121]⟩ : ByteArray) :: d)) by unfold wordsL; rw [if_neg (by decide), if_neg (by decide), if_pos rfl, if_pos h0]]
      simp only [wtS_cons, wtS_app, wtS_nil, szl, List.length_cons, List.length_nil]
      omega
    · rw [show wordsL 3 n a b c d u = ((⟨#[115, 117, 98]⟩ : ByteArray), a ++ ((⟨#[124]⟩ : ByteArray) :: (b ++ ((⟨#[124]⟩ : ByteArray) :: (c ++ ((⟨#[98, 121]⟩ : ByteArray) :: d)))))) by unfold wordsL; rw [if_neg (by decide), if_neg (by decide), if_pos rfl, if_neg h0]]
      simp only [wtS_cons, wtS_app, wtS_nil, szl, List.length_cons, List.length_nil]
      omega
  by_cases h5 : v = 5
  · obtain ⟨p, q, rfl⟩ := f1 (.inl h5)
    have hu := f2 h5
    have := decB_size u (by omega) (by omega)
    subst h5
    rw [show wordsL 5 n a [p, q] c d u = ((⟨#[107, 101, 114, 110]⟩ : ByteArray), [p, q] ++ [decB u]) from rfl]
    simp only [wtS_cons, wtS_nil] at hw
    simp only [wtS_cons, wtS_app, wtS_nil, szl, List.length_cons, List.length_nil]
    omega
  by_cases h6 : v = 6
  · obtain ⟨p, q, rfl⟩ := f1 (.inr h6)
    subst h6
    rw [show wordsL 6 n a [p, q] c d u = ((⟨#[109, 97, 114, 107]⟩ : ByteArray), [p, (⟨#[111, 110]⟩ : ByteArray), q, (⟨#[97, 116]⟩ : ByteArray), n]) from rfl]
    simp only [wtS_cons, wtS_nil] at hw
    simp only [wtS_cons, wtS_app, wtS_nil, szl, List.length_cons, List.length_nil]
    omega
  by_cases h7 : v = 7
  · have := jKind_size u (f3 h7)
    subst h7
    rw [show wordsL 7 n a b c d u = ((⟨#[106, 111, 105, 110]⟩ : ByteArray), n :: jKind u :: d) from rfl]
    simp only [wtS_cons, wtS_app, wtS_nil, szl, List.length_cons, List.length_nil]
    omega
  rw [show wordsL v n a b c d u = ((⟨#[101, 110, 100]⟩ : ByteArray), []) by unfold wordsL; rw [if_neg h1, if_neg h2, if_neg h3, if_neg h5, if_neg h6, if_neg h7]]
  simp only [wtS_cons, wtS_app, wtS_nil, szl, List.length_cons, List.length_nil]
  omega
theorem implText_line (v : Int) (n : ByteArray) (a b c d : List ByteArray) (u : Int) (hw : n.size + wtS a + wtS b + wtS c + wtS d ≤ 1048576) (h : lineI v n a b c d u = true) :
    Ev (fun k => (impl_lineWords.f k v n a b c d u).bind fun t => ((strings_Join.f t (⟨#[32]⟩ : ByteArray)).bind fun t => (some t))) (textL v n a b c d u) :=
  Ev.bind (implWords_line v n a b c d u hw h) (Ev.bind (joinWords _ _ (by have := wordsL_size v n a b c d u hw h; omega)) (Ev.now _))
theorem specText_line (rs : List S39) (i : Int) (v : Int) (n : ByteArray) (a b c d : List ByteArray) (u : Int) (hr : rd_T39 rs i = ⟨v, n, a, b, c, d, u⟩) (hw : n.size + wtS a + wtS b + wtS c + wtS d ≤ 1048576) (h : lineI v n a b c d u = true) :
    Ev (fun k => spec_l24Text_at.f k rs i) (textL v n a b c d u) := by
  obtain ⟨f1, f2, f3⟩ := line_facts h
  have la := wtS_len a
  have lb := wtS_len b
  have lc := wtS_len c
  have ld := wtS_len d
  have sa := wB_size a
  have sb := wB_size b
  have sc := wB_size c
  have sd := wB_size d
  have ea := specWds_ev a (by omega)
  have eb := specWds_ev b (by omega)
  have ec := specWds_ev c (by omega)
  have ed := specWds_ev d (by omega)
  unfold spec_l24Text_at.f
  simp only [hr]
  unfold textL
  by_cases h1 : v = 1
  · subst h1
    rw [show wordsL 1 n a b c d u = ((⟨#[99, 108, 97, 115, 115]⟩ : ByteArray), n :: (⟨#[61]⟩ : ByteArray) :: b) from rfl]
    refine evPos rfl (evPos (by omega) (evPos (by simp only [bx_size, szl, List.length_cons, List.length_nil]; omega) (Ev.bind eb (evPos (by simp only [bx_size, szl, List.length_cons, List.length_nil]; omega) ?_))))
    refine Ev.congr (f := fun _ => some _) (fun k => congrArg some ?_) (Ev.now _)
    apply bx_ext
    simp [wB, wB_app, bx_app]
  by_cases h2 : v = 2
  · subst h2
    rw [show wordsL 2 n a b c d u = ((⟨#[108, 111, 111, 107, 117, 112]⟩ : ByteArray), [n]) from rfl]
    refine evNeg (by decide) ?_
    refine evPos rfl (evPos (by omega) ?_)
    refine Ev.congr (f := fun _ => some _) (fun k => congrArg some ?_) (Ev.now _)
    apply bx_ext
    simp [wB, wB_app, bx_app]
  by_cases h3 : v = 3
  · subst h3
    refine evNeg (by decide) ?_
    refine evNeg (by decide) ?_
    refine evPos rfl ?_
    rw [w64 (x := (a.length : Int) + (c.length : Int)) (by omega) (by omega)]
    by_cases h0 : (a.length : Int) + (c.length : Int) = 0
    · rw [show wordsL 3 n a b c d u = ((⟨#[115, 117, 98]⟩ : ByteArray), b ++ ((⟨#[98, 121]⟩ : ByteArray) :: d)) by unfold wordsL; rw [if_neg (by decide), if_neg (by decide), if_pos rfl, if_pos h0]]
      refine evPos h0 (Ev.bind eb (evPos (by omega) (evPos (by simp only [bx_size, szl, List.length_cons, List.length_nil]; omega) (Ev.bind ed (evPos (by simp only [bx_size, szl, List.length_cons, List.length_nil]; omega) ?_)))))
      refine Ev.congr (f := fun _ => some _) (fun k => congrArg some ?_) (Ev.now _)
      apply bx_ext
      simp [wB, wB_app, bx_app]
    · rw [show wordsL 3 n a b c d u = ((⟨#[115, 117, 98]⟩ : ByteArray), a ++ ((⟨#[124]⟩ : ByteArray) :: (b ++ ((⟨#[124]⟩ : ByteArray) :: (c ++ ((⟨#[98, 121]⟩ : ByteArray) :: d)))))) by unfold wordsL; rw [if_neg (by decide), if_neg (by decide), if_pos rfl, if_neg h0]]
      refine evNeg h0 (Ev.bind ea (evPos (by omega) (evPos (by simp only [bx_size, szl, List.length_cons, List.length_nil]; omega) (Ev.bind eb (evPos (by simp only [bx_size, szl, List.length_cons, List.length_nil]; omega) (evPos (by simp only [bx_size, szl, List.length_cons, List.length_nil]; omega) (Ev.bind ec (evPos (by simp only [bx_size, szl, List.length_cons, List.length_nil]; omega) (evPos (by simp only [bx_size, szl, List.length_cons, List.length_nil]; omega) (Ev.bind ed (evPos (by simp only [bx_size, szl, List.length_cons, List.length_nil]; omega) ?_)))))))))))
      refine Ev.congr (f := fun _ => some _) (fun k => congrArg some ?_) (Ev.now _)
      apply bx_ext
      simp [wB, wB_app, bx_app]
  by_cases h5 : v = 5
  · obtain ⟨p, q, rfl⟩ := f1 (.inl h5)
    have hu := f2 h5
    have sz := decB_size u (by omega) (by omega)
    subst h5
    rw [show wordsL 5 n a [p, q] c d u = ((⟨#[107, 101, 114, 110]⟩ : ByteArray), [p, q] ++ [decB u]) from rfl]
    refine evNeg (by decide) ?_
    refine evNeg (by decide) ?_
    refine evNeg (by decide) ?_
    refine evPos rfl (Ev.bind eb (evPos (by omega) (evPos (by simp only [bx_size, szl, List.length_cons, List.length_nil]; omega) (Ev.bind (specDec_ev u (by omega) (by omega)) (evPos (by simp only [bx_size, szl, List.length_cons, List.length_nil]; omega) ?_)))))
    refine Ev.congr (f := fun _ => some _) (fun k => congrArg some ?_) (Ev.now _)
    apply bx_ext
    simp [wB, wB_app, bx_app]
  by_cases h6 : v = 6
  · obtain ⟨p, q, rfl⟩ := f1 (.inr h6)
    have e0 : rdOf ByteArray.empty [p, q] 0 = p := rfl
    have e1 : rdOf ByteArray.empty [p, q] 1 = q := rfl
    simp only [wtS_cons, wtS_nil] at hw
    subst h6
    rw [show wordsL 6 n a [p, q] c d u = ((⟨#[109, 97, 114, 107]⟩ : ByteArray), [p, (⟨#[111, 110]⟩ : ByteArray), q, (⟨#[97, 116]⟩ : ByteArray), n]) from rfl]
    refine evNeg (by decide) ?_
    refine evNeg (by decide) ?_
    refine evNeg (by decide) ?_
    refine evNeg (by decide) ?_
    refine evPos rfl ?_
    simp only [e0, e1]
    refine evPos (by simp) (evPos (by omega) (evPos (by simp only [bx_size, szl, List.length_cons, List.length_nil]; omega) (evPos (by simp) (evPos (by simp only [bx_size, szl, List.length_cons, List.length_nil]; omega) (evPos (by simp only [bx_size, szl, List.length_cons, List.length_nil]; omega) (evPos (by simp only [bx_size, szl, List.length_cons, List.length_nil]; omega) ?_))))))
    refine Ev.congr (f := fun _ => some _) (fun k => congrArg some ?_) (Ev.now _)
    apply bx_ext
    simp [wB, wB_app, bx_app]
  by_cases h7 : v = 7
  · have hu := f3 h7
    have sz := jKind_size u hu
    subst h7
    rw [show wordsL 7 n a b c d u = ((⟨#[106, 111, 105, 110]⟩ : ByteArray), n :: jKind u :: d) from rfl]
    refine evNeg (by decide) ?_
    refine evNeg (by decide) ?_
    refine evNeg (by decide) ?_
    refine evNeg (by decide) ?_
    refine evNeg (by decide) ?_
    refine evPos rfl (evPos (by omega) (evPos (by simp only [bx_size, szl, List.length_cons, List.length_nil]; omega) (Ev.bind (a := jKind u) ?_ (evPos (by simp only [bx_size, szl, List.length_cons, List.length_nil]; omega) (Ev.bind ed (evPos (by simp only [bx_size, szl, List.length_cons, List.length_nil]; omega) ?_))))))
    · exact Ev.bind (a := jKinds) (Ev.now _) (evPos (by omega) (evPos (by show u < ((4 : Nat) : Int); omega) (Ev.now _)))
    refine Ev.congr (f := fun _ => some _) (fun k => congrArg some ?_) (Ev.now _)
    apply bx_ext
    simp [wB, wB_app, bx_app]
  rw [show wordsL v n a b c d u = ((⟨#[101, 110, 100]⟩ : ByteArray), []) by unfold wordsL; rw [if_neg h1, if_neg h2, if_neg h3, if_neg h5, if_neg h6, if_neg h7]]
  refine evNeg h1 (evNeg h2 (evNeg h3 (evNeg h5 (evNeg h6 (evNeg h7 ?_)))))
  refine Ev.congr (f := fun _ => some _) (fun k => congrArg some ?_) (Ev.now _)
  rw [wB, bx_nil']
theorem implText_ev (v : Int) (n : ByteArray) (a b c d : List ByteArray) (u : Int) (hw : n.size + wtS a + wtS b + wtS c + wtS d ≤ 1048576) :
    Ev (fun k => impl_LineText.f k v n a b c d u) (if lineI v n a b c d u = true then textL v n a b c d u else ⟨#[]⟩) := by
  have la := wtS_len a
  have lb := wtS_len b
  have lc := wtS_len c
  have ld := wtS_len d
  have s2 := implLine_ev v n a b c d u (by omega) (by omega) (by omega) (by omega)
  by_cases h : lineI v n a b c d u = true
  · rw [if_pos h]
    exact Ev.bind s2 (evPos h (implText_line v n a b c d u hw h))
  · rw [if_neg h]
    exact Ev.bind s2 (evNeg h (Ev.now _))
-- part: lineLists
/-! Lists of lines. -/
theorem rdF_get {xs : List S39} {i : Nat} (h : i < xs.length) : rd_T39 xs (i : Int) = xs[i] := by
  simp [rd_T39, h]
theorem rdG_get {xs : List S36} {i : Nat} (h : i < xs.length) : rd_T36 xs (i : Int) = xs[i] := by
  simp [rd_T36, h]
def toF (x : S36) : S39 := ⟨x.f0, x.f1, x.f2, x.f3, x.f4, x.f5, x.f6⟩
def wtG (x : S36) : Nat := wtLine x.f1 x.f2 x.f3 x.f4 x.f5
def wtF (x : S39) : Nat := wtLine x.f1 x.f2 x.f3 x.f4 x.f5
def fitsG (x : S36) : Prop := x.f1.size ≤ 9223372036854775807 ∧ fitsS x.f2 ∧ fitsS x.f3 ∧ fitsS x.f4 ∧ fitsS x.f5
theorem sum_geN {α : Type} (w : α → Nat) {xs : List α} {x : α} (h : x ∈ xs) : w x ≤ (xs.map w).sum := by
  induction xs with
  | nil => simp at h
  | cons y ys ih =>
    rcases List.mem_cons.1 h with rfl | h
    · simp
    · have := ih h
      simp only [List.map_cons, List.sum_cons]; omega
theorem szLines_ev (xs : List S36) (hl : xs.length ≤ 9223372036854775807) (hx : ∀ x ∈ xs, fitsG x) (s : Int) (h0 : 0 ≤ s) (h1 : s ≤ 1048576) :
    Ev (fun k => laws_szFeatureLineS.f k xs s) (less s (xs.length + (xs.map wtG).sum)) := by
  unfold laws_szFeatureLineS.f
  rw [w64 (by omega) (by omega)]
  by_cases h : s < xs.length
  · have e : less s (xs.length + (xs.map wtG).sum) = -1 := by unfold less; rw [if_pos (by push_cast; omega)]
    rw [e]
    exact evPos (by omega) (Ev.now _)
  · refine evNeg (by omega) ?_
    have e : less s (xs.length + (xs.map wtG).sum) = less (s - xs.length) (xs.map wtG).sum := by
      have := (less_then (s := s) (a := xs.length) (b := (xs.map wtG).sum) h0 (by rw [less_neg _ _ h0]; exact h)).2.2
      exact this.symm
    rw [e]
    refine ev_sz (fun k s i => laws_szFeatureLineS.l0 k xs s i) xs (fun k x s => laws_szFeatureLine.f k x.f0 x.f1 x.f2 x.f3 x.f4 x.f5 x.f6 s) wtG ?_ ?_ ?_ _ (by omega) (by omega)
    · intro k s
      simp only [laws_szFeatureLineS.l0]
      rw [if_neg (by omega)]
    · intro k s i hi _ _
      simp only [laws_szFeatureLineS.l0]
      rw [if_pos (by omega), if_pos (by omega), rdG_get hi, w64 (by omega) (by omega)]
      push_cast
      rfl
    · intro x hx2 s h2 h3
      have := hx x hx2
      exact szLine_ev x.f0 x.f1 x.f2 x.f3 x.f4 x.f5 x.f6 this.1 this.2.1 this.2.2.1 this.2.2.2.1 this.2.2.2.2 s h2 h3
theorem toLines_ev (xs : List S36) (hn : xs.length ≤ 1048576) (hx : ∀ x ∈ xs, wtG x ≤ 1048576) : Ev (fun k => laws_toFeatureLineS.f k xs) (xs.map toF) := by
  have := ev_copy (fun k out i => laws_toFeatureLineS.l0 k xs out i) xs (fun k x => (laws_toFeatureLine.f k x.f0 x.f1 x.f2 x.f3 x.f4 x.f5 x.f6).bind fun bt => some (⟨bt.1, bt.2.1, bt.2.2.1, bt.2.2.2.1, bt.2.2.2.2.1, bt.2.2.2.2.2.1, bt.2.2.2.2.2.2⟩ : S39)) toF (fun k out ho => by
      simp only [laws_toFeatureLineS.l0]
      rw [if_neg (by omega)]) (fun k out i hi ho => by
      simp only [laws_toFeatureLineS.l0]
      rw [if_pos (by omega), if_pos (by omega), rdG_get hi, w64 (by omega) (by omega), Option.bind_assoc]
      simp only [show ((i : Int) < (out.length : Int)) from by omega, if_true, Int.toNat_natCast, Option.bind_some]
      push_cast
      rfl) (fun x hx2 => Ev.bind (toLine_ev x.f0 x.f1 x.f2 x.f3 x.f4 x.f5 x.f6 (wtLine_len (hx x hx2))) (Ev.now _)) (List.replicate xs.length z39) (by simp)
  refine Ev.congr (fun k => ?_) this
  unfold laws_toFeatureLineS.f
  rw [if_pos (by omega), if_pos (by omega)]
  simp
theorem eqLines_ev (ys : List S39) (hn : ys.length ≤ 1048576) (hx : ∀ y ∈ ys, wtF y ≤ 1048576) : Ev (fun k => laws_eqFeatureLineS.f k ys ys) true := by
  have := ev_all (fun k i => laws_eqFeatureLineS.l0 k ys ys i) ys (fun k x => laws_eqFeatureLine.f k x.f0 x.f1 x.f2 x.f3 x.f4 x.f5 x.f6 x.f0 x.f1 x.f2 x.f3 x.f4 x.f5 x.f6) (fun _ => true) true (fun k => by
      simp only [laws_eqFeatureLineS.l0]
      rw [if_neg (by omega)]) (fun k i hi => by
      simp only [laws_eqFeatureLineS.l0]
      rw [if_pos (by omega), if_pos (by omega), if_pos (by omega), rdF_get hi, w64 (by omega) (by omega)]
      push_cast
      rfl) (fun x hx2 => eqLine_ev x.f0 x.f1 x.f2 x.f3 x.f4 x.f5 x.f6 (wtLine_len (hx x hx2)))
  rw [Bool.and_true, show (ys.all fun _ => true) = true by simp] at this
  refine Ev.congr (fun k => ?_) this
  unfold laws_eqFeatureLineS.f
  rw [if_pos rfl]
def okF (y : S39) : Bool := lineI y.f0 y.f1 y.f2 y.f3 y.f4 y.f5 y.f6
def txF (y : S39) : ByteArray := textL y.f0 y.f1 y.f2 y.f3 y.f4 y.f5 y.f6
theorem okAt_ev (ys : List S39) (i : Nat) (hi : i < ys.length) (hw : wtF ys[i] ≤ 1048576) : Ev (fun k => spec_l24Ok_at.f k ys (i : Int)) (okF ys[i]) := by
  have b := wtLine_len (show wtLine ys[i].f1 ys[i].f2 ys[i].f3 ys[i].f4 ys[i].f5 ≤ 1048576 from hw)
  have := specOk_ev ys (i : Int) ys[i].f0 ys[i].f1 ys[i].f2 ys[i].f3 ys[i].f4 ys[i].f5 ys[i].f6 (rdF_get hi) b.1 b.2.1 b.2.2.1 b.2.2.2
  rw [lines_same] at this
  exact this
theorem specAll_l0 (ys : List S39) (hn : ys.length ≤ 1048576) (hw : ∀ y ∈ ys, wtF y ≤ 1048576) : ∀ (d i : Nat), i + d = ys.length → Ev (fun k => spec_l24All.l0 k ys (i : Int)) ((ys.drop i).all okF && decide ((ys.length : Int) ≤ 120)) := by
  intro d
  induction d with
  | zero =>
    intro i h
    rw [List.drop_of_length_le (by omega), List.all_nil, Bool.true_and]
    exact Ev.step (fun k => by rw [spec_l24All.l0]) (evNeg (by omega) (Ev.now _))
  | succ d ih =>
    intro i h
    have hi : i < ys.length := by omega
    have ho := okAt_ev ys i hi (hw _ (List.getElem_mem hi))
    have := ih (i + 1) (by omega)
    rw [List.drop_eq_getElem_cons hi, List.all_cons, Bool.and_assoc]
    refine Ev.step (fun k => by rw [spec_l24All.l0]) (evPos (by omega) (evPos (by omega) (Ev.bind ho ?_)))
    rw [w64 (by omega) (by omega)]
    cases hb : okF ys[i] with
    | true =>
      refine evPos rfl ?_
      rw [Bool.true_and]
      push_cast at this
      exact this
    | false =>
      rw [Bool.false_and]
      exact evNeg (by simp) (Ev.now _)
theorem specAll_ev (ys : List S39) (hn : ys.length ≤ 1048576) (hw : ∀ y ∈ ys, wtF y ≤ 1048576) : Ev (fun k => spec_l24All.f k ys) (ys.all okF && decide ((ys.length : Int) ≤ 120)) :=
  specAll_l0 ys hn hw ys.length 0 (by omega)
theorem implFind_l0 (ys : List S39) (hn : ys.length ≤ 1048576) (hw : ∀ y ∈ ys, wtF y ≤ 1048576) : ∀ (d i : Nat), i + d = ys.length → ∃ z : Int, Ev (fun k => impl_FeatureLine_by_impl_validSource_1_70.l0 k ys (ys.length : Int) (i : Int)) z ∧ decide (z ≥ 0) = !((ys.drop i).all okF) := by
  intro d
  induction d with
  | zero =>
    intro i h
    rw [List.drop_of_length_le (by omega)]
    exact ⟨-1, Ev.step (fun k => by rw [impl_FeatureLine_by_impl_validSource_1_70.l0]) (evNeg (by omega) (Ev.now _)), rfl⟩
  | succ d ih =>
    intro i h
    have hi : i < ys.length := by omega
    have hwi := hw _ (List.getElem_mem hi)
    have b := wtLine_len (show wtLine ys[i].f1 ys[i].f2 ys[i].f3 ys[i].f4 ys[i].f5 ≤ 1048576 from hwi)
    have ho := implLine_ev ys[i].f0 ys[i].f1 ys[i].f2 ys[i].f3 ys[i].f4 ys[i].f5 ys[i].f6 b.1 b.2.1 b.2.2.1 b.2.2.2
    have ho2 : Ev (fun k => impl_validSource_1.f k ys[i].f0 ys[i].f1 ys[i].f2 ys[i].f3 ys[i].f4 ys[i].f5 ys[i].f6) (!okF ys[i]) := Ev.bind ho (Ev.now _)
    obtain ⟨z, z1, z2⟩ := ih (i + 1) (by omega)
    rw [List.drop_eq_getElem_cons hi, List.all_cons]
    cases hb : okF ys[i] with
    | true =>
      rw [hb] at ho2
      refine ⟨z, ?_, by rw [z2, Bool.true_and]⟩
      refine Ev.step (fun k => by rw [impl_FeatureLine_by_impl_validSource_1_70.l0, rdF_get hi]) (evPos (by omega) (evPos (by omega) (evPos (by omega) (Ev.bind ho2 ?_))))
      refine evNeg (by decide) ?_
      rw [w64 (by omega) (by omega)]
      push_cast at z1
      exact z1
    | false =>
      rw [hb] at ho2
      refine ⟨(i : Int), ?_, by rw [Bool.false_and, decide_eq_true (by omega)]; rfl⟩
      refine Ev.step (fun k => by rw [impl_FeatureLine_by_impl_validSource_1_70.l0, rdF_get hi]) (evPos (by omega) (evPos (by omega) (evPos (by omega) (Ev.bind ho2 ?_))))
      exact evPos (by decide) (Ev.now _)
theorem implSource_ev (ys : List S39) (hn : ys.length ≤ 1048576) (hw : ∀ y ∈ ys, wtF y ≤ 1048576) : Ev (fun k => impl_validSource.f k ys) (ys.all okF && decide ((ys.length : Int) ≤ 120)) := by
  obtain ⟨z, z1, z2⟩ := implFind_l0 ys hn hw ys.length 0 (by omega)
  rw [List.drop_zero] at z2
  by_cases h : (ys.length : Int) ≤ 120
  · rw [decide_eq_true h, Bool.and_true]
    refine evPos h (Ev.bind (Ev.bind z1 (Ev.now _)) ?_)
    rw [z2, Bool.not_not]
    exact Ev.now _
  · rw [decide_eq_false h, Bool.and_false]
    exact evNeg h (Ev.now _)
/-- The text of lines. -/
def srcM (ys : List S39) : ByteArray := ys.foldl (fun out y => out ++ (txF y ++ (⟨#[10]⟩ : ByteArray))) ⟨#[]⟩
theorem srcM_take (ys : List S39) (i : Nat) (hi : i < ys.length) : srcM (ys.take (i + 1)) = srcM (ys.take i) ++ (txF ys[i] ++ (⟨#[10]⟩ : ByteArray)) := by
  unfold srcM
  rw [List.take_succ_eq_append_getElem hi, List.foldl_append]
  rfl
theorem txF_size (y : S39) (hw : wtF y ≤ 1048576) (ho : okF y = true) : (txF y).size ≤ 2097152 := by
  have := wordsL_size y.f0 y.f1 y.f2 y.f3 y.f4 y.f5 y.f6 hw ho
  unfold txF textL
  rw [bx_size, wB_size]
  exact this
theorem srcM_size (ys : List S39) (hw : ∀ y ∈ ys, wtF y ≤ 1048576) (ho : ∀ y ∈ ys, okF y = true) : ∀ i : Nat, i ≤ ys.length → (srcM (ys.take i)).size ≤ i * 2097153 := by
  intro i
  induction i with
  | zero => intro _; rw [List.take_zero]; exact Nat.le_refl 0
  | succ i ih =>
    intro h
    have hi : i < ys.length := by omega
    have h1 := ih (by omega)
    have h2 := txF_size ys[i] (hw _ (List.getElem_mem hi)) (ho _ (List.getElem_mem hi))
    have e10 : (⟨#[10]⟩ : ByteArray).size = 1 := rfl
    rw [srcM_take ys i hi, bx_size, bx_size, e10]
    omega
section
variable (ys : List S39) (hn : ys.length ≤ 120) (hw : ∀ y ∈ ys, wtF y ≤ 1048576) (ho : ∀ y ∈ ys, okF y = true)
include hn hw ho in
theorem specSrc_l0 : ∀ (d i : Nat), i + d = ys.length → Ev (fun k => spec_l24Source.l0 k ys (srcM (ys.take i)) (i : Int)) (srcM ys) := by
  intro d
  induction d with
  | zero =>
    intro i h
    rw [show ys.take i = ys from List.take_of_length_le (by omega)]
    exact Ev.step (fun k => by rw [spec_l24Source.l0]) (evNeg (by omega) (Ev.now _))
  | succ d ih =>
    intro i h
    have hi : i < ys.length := by omega
    have hwi := hw _ (List.getElem_mem hi)
    have hoi := ho _ (List.getElem_mem hi)
    have hz := txF_size ys[i] hwi hoi
    have hs := srcM_size ys hw ho i (by omega)
    have e10 : (⟨#[10]⟩ : ByteArray).size = 1 := rfl
    have ht := specText_line ys (i : Int) ys[i].f0 ys[i].f1 ys[i].f2 ys[i].f3 ys[i].f4 ys[i].f5 ys[i].f6 (rdF_get hi) hwi hoi
    have := ih (i + 1) (by omega)
    rw [srcM_take ys i hi] at this
    refine Ev.step (fun k => by rw [spec_l24Source.l0]) (evPos (by omega) (evPos (by omega) (Ev.bind (a := txF ys[i]) ht ?_)))
    refine evPos (by omega) (evPos (by rw [bx_size, e10]; omega) ?_)
    rw [w64 (by omega) (by omega)]
    push_cast at this
    exact this
include hn hw ho in
theorem implSrc_l0 : ∀ (d i : Nat), i + d = ys.length → Ev (fun k => impl_SourceText.l0 k ys (srcM (ys.take i)) (i : Int)) (srcM ys) := by
  intro d
  induction d with
  | zero =>
    intro i h
    rw [show ys.take i = ys from List.take_of_length_le (by omega)]
    exact Ev.step (fun k => by rw [impl_SourceText.l0]) (evNeg (by omega) (Ev.now _))
  | succ d ih =>
    intro i h
    have hi : i < ys.length := by omega
    have hwi := hw _ (List.getElem_mem hi)
    have hoi := ho _ (List.getElem_mem hi)
    have hz := txF_size ys[i] hwi hoi
    have hs := srcM_size ys hw ho i (by omega)
    have e10 : (⟨#[10]⟩ : ByteArray).size = 1 := rfl
    have ht := implText_ev ys[i].f0 ys[i].f1 ys[i].f2 ys[i].f3 ys[i].f4 ys[i].f5 ys[i].f6 hwi
    rw [if_pos (show lineI ys[i].f0 ys[i].f1 ys[i].f2 ys[i].f3 ys[i].f4 ys[i].f5 ys[i].f6 = true from hoi)] at ht
    have := ih (i + 1) (by omega)
    rw [srcM_take ys i hi] at this
    refine Ev.step (fun k => by rw [impl_SourceText.l0, rdF_get hi]) (evPos (by omega) (evPos (by omega) (Ev.bind (a := txF ys[i]) ht ?_)))
    refine evPos (by omega) (evPos (by rw [bx_size, e10]; omega) ?_)
    rw [w64 (by omega) (by omega)]
    push_cast at this
    exact this
end
theorem Source_both (ys : List S39) (hn : ys.length ≤ 1048576) (hw : ∀ y ∈ ys, wtF y ≤ 1048576) : ∃ r : ByteArray, Ev (fun k => spec_SourceText.f k ys) r ∧ Ev (fun k => impl_SourceText.f k ys) r := by
  have s1 := specAll_ev ys hn hw
  have i1 := implSource_ev ys hn hw
  cases hb : (ys.all okF && decide ((ys.length : Int) ≤ 120)) with
  | true =>
    rw [hb] at s1 i1
    rw [Bool.and_eq_true, decide_eq_true_iff, List.all_eq_true] at hb
    refine ⟨srcM ys, Ev.bind s1 (evPos rfl (Ev.bind ?_ (Ev.now _))), Ev.bind i1 (evPos rfl ?_)⟩
    · have := specSrc_l0 ys (by omega) hw hb.1 ys.length 0 (by omega)
      exact this
    · have := implSrc_l0 ys (by omega) hw hb.1 ys.length 0 (by omega)
      exact this
  | false =>
    rw [hb] at s1 i1
    exact ⟨⟨#[]⟩, Ev.bind s1 (evNeg (by simp) (Ev.now _)), Ev.bind i1 (evNeg (by simp) (Ev.now _))⟩
-- part: the law
theorem FnExactSourceText : Owed := by
  intro xs wx
  apply Ev.rounds
  have fx : ∀ x ∈ xs, fitsG x := fun x hx => by
    have h := wx.2 x hx
    exact ⟨h.2.1, h.2.2.1, h.2.2.2.1, h.2.2.2.2.1, h.2.2.2.2.2.1⟩
  refine Ev.bind (szLines_ev xs wx.1 fx 1048576 (by omega) (by omega)) ?_
  by_cases h : less 1048576 (xs.length + (xs.map wtG).sum) < 0
  · exact evPos h (Ev.now true)
  refine evNeg h ?_
  have hw : xs.length + (xs.map wtG).sum ≤ 1048576 := by rw [less_neg _ _ (by omega)] at h; omega
  have hx : ∀ x ∈ xs, wtG x ≤ 1048576 := fun x hx => by have := sum_geN wtG hx; omega
  have t := toLines_ev xs (by omega) hx
  have hy : ∀ y ∈ xs.map toF, wtF y ≤ 1048576 := fun y hy => by
    obtain ⟨x, hx2, rfl⟩ := List.mem_map.1 hy
    exact hx x hx2
  have hl : (xs.map toF).length ≤ 1048576 := by rw [List.length_map]; omega
  obtain ⟨r, s1, s2⟩ := Source_both (xs.map toF) hl hy
  refine Ev.step (fun k => by rw [laws_FnExactSourceText.j0]) ?_
  refine Ev.bind t (Ev.bind s1 (Ev.bind t (Ev.bind s2 (evPos rfl ?_))))
  refine Ev.step (fun k => by rw [laws_FnExactSourceText.j1]) ?_
  exact Ev.bind t (Ev.bind (eqLines_ev _ hl hy) (evPos rfl (Ev.now true)))
end Go.Proofs.Ytfabhfdjabehpaa.Pure
