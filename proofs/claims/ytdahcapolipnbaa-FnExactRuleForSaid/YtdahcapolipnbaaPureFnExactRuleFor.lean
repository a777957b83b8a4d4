/- The plain statement of FnExactRuleFor: the program and the reference agree on every input that the guards let in. -/
import Derived.Test.YtdahcapolipnbaaArgFnExactRuleFor
namespace Go.Proofs.Ytdahcapolipnbaa.Pure
open Go.RowKit Go.Proofs.Ytdahcapolipnbaa.QFnExactRuleFor Go.Proofs.Ytdahcapolipnbaa.ArgFnExactRuleFor Go.Proofs.YtdahcapolipnbaaW.PrintWords Go.Proofs.YtdahcapolipnbaaW.PrintLast Go.Proofs.YtdahcapolipnbaaW.PrintMore
set_option linter.unusedVariables false
set_option linter.unusedSimpArgs false
-- part: base
theorem w64 {x : Int} (h : -9223372036854775808 ≤ x) (h' : x < 9223372036854775808) : wrap64 x = x := by
  unfold wrap64; omega
theorem evPos {α : Type} {c : Prop} [Decidable c] {g f : Nat → Option α} {r : α} (h : c) (k : Ev g r) : Ev (fun n => if c then g n else f n) r := by
  simpa only [if_pos h] using k
theorem evNeg {α : Type} {c : Prop} [Decidable c] {g f : Nat → Option α} {r : α} (h : ¬ c) (k : Ev f r) : Ev (fun n => if c then g n else f n) r := by
  simpa only [if_neg h] using k
theorem rd_get {xs : List Int} {i : Nat} (h : i < xs.length) : rd xs (i : Int) = xs[i] := by
  simp [rd, h]
/-- The numbers from s on, n of them. -/
def marks (s : Int) : Nat → List Int
  | 0 => []
  | n + 1 => s :: marks (s + 1) n
theorem marks_length (s : Int) (n : Nat) : (marks s n).length = n := by
  induction n generalizing s with
  | zero => rfl
  | succ n ih => simp [marks, ih]
theorem marks_get (s : Int) (n : Nat) : ∀ (i : Nat) (h : i < (marks s n).length), (marks s n)[i] = s + i := by
  induction n generalizing s with
  | zero => intro i h; simp [marks] at h
  | succ n ih =>
    intro i h
    cases i with
    | zero => simp [marks]
    | succ i => simp only [marks, List.getElem_cons_succ]; rw [ih]; push_cast; omega
theorem marks_snoc (s : Int) (n : Nat) : marks s (n + 1) = marks s n ++ [s + n] := by
  induction n generalizing s with
  | zero => simp [marks]
  | succ n ih => rw [marks, ih, marks]; simp; omega
-- part: eqInts
theorem eqInt64S_l0 (xs : List Int) (hn : xs.length ≤ 1099511627776) : ∀ (d i : Nat), i + d = xs.length → Ev (fun k => laws_eqInt64S.l0 k xs xs (i : Int)) true := by
  intro d
  induction d with
  | zero =>
    intro i h
    refine Ev.step (f := fun _ => some true) (fun k => ?_) (Ev.now _)
    simp only [laws_eqInt64S.l0]
    rw [if_neg (by omega)]
  | succ d ih =>
    intro i h
    refine Ev.step (fun k => ?_) (ih (i + 1) (by omega))
    simp only [laws_eqInt64S.l0]
    rw [if_pos (by omega), if_pos (by omega), if_pos (by omega), if_pos trivial, w64 (by omega) (by omega)]
    push_cast
    rfl
theorem eqInt64S_ev (xs : List Int) (hn : xs.length ≤ 1099511627776) : Ev (fun k => laws_eqInt64S.f k xs xs) true := by
  refine Ev.congr (fun k => ?_) (eqInt64S_l0 xs hn xs.length 0 (by omega))
  unfold laws_eqInt64S.f
  rw [if_pos rfl]; rfl
-- part: copyInts
theorem toInt64S_l0 (xs : List Int) (hn : xs.length ≤ 1099511627776) : ∀ (d i : Nat), i + d = xs.length → Ev (fun k => laws_toInt64S.l0 k xs (xs.take i ++ List.replicate d 0) (i : Int)) xs := by
  intro d
  induction d with
  | zero =>
    intro i h
    refine Ev.step (f := fun _ => some xs) (fun k => ?_) (Ev.now _)
    simp only [laws_toInt64S.l0]
    rw [if_neg (by omega)]
    simp [List.take_of_length_le (by omega : xs.length ≤ i)]
  | succ d ih =>
    intro i h
    refine Ev.step (fun k => ?_) (ih (i + 1) (by omega))
    simp only [laws_toInt64S.l0]
    rw [if_pos (by omega), if_pos (by omega), if_pos (by simp; omega), w64 (by omega) (by omega)]
    have e : (xs.take i ++ List.replicate (d + 1) 0).set ((i : Int)).toNat (rd xs i) = xs.take (i + 1) ++ List.replicate d 0 := by
      rw [rd_get (by omega)]
      apply List.ext_getElem
      · simp; omega
      · intro j h1 h2
        simp only [List.getElem_set, List.getElem_append, List.getElem_take, List.getElem_replicate, List.length_take, Int.toNat_natCast]
        by_cases hj : i = j
        · subst hj; simp; omega
        · rw [if_neg hj]
          by_cases hj2 : j < i
          · rw [dif_pos (by omega), dif_pos (by omega)]
          · rw [dif_neg (by omega), dif_neg (by omega)]
    rw [e]
    push_cast
    rfl
theorem toInt64S_ev (xs : List Int) (hn : xs.length ≤ 1099511627776) : Ev (fun k => laws_toInt64S.f k xs) xs := by
  refine Ev.congr (fun k => ?_) (toInt64S_l0 xs hn xs.length 0 (by omega))
  unfold laws_toInt64S.f
  rw [if_pos (by omega), if_pos (by omega)]
  simp
-- part: names
theorem small_spec (c : Int) : spec_l01Small.f c = some (decide (97 ≤ c ∧ c ≤ 122)) := by
  unfold spec_l01Small.f
  by_cases h : c ≥ 97 <;> simp [h]
theorem digit_spec (c : Int) : spec_l01Digit.f c = some (decide (48 ≤ c ∧ c ≤ 57)) := by
  unfold spec_l01Digit.f
  by_cases h : c ≥ 48 <;> simp [h]
theorem small_impl (c : Int) : impl_isSmall.f c = some (decide (97 ≤ c ∧ c ≤ 122)) := by
  unfold impl_isSmall.f
  by_cases h : c ≥ 97 <;> simp [h]
theorem digit_impl (c : Int) : impl_isDigit.f c = some (decide (48 ≤ c ∧ c ≤ 57)) := by
  unfold impl_isDigit.f
  by_cases h : c ≥ 48 <;> simp [h]
/-- A sign of a name. -/
def nameSign (c : Int) : Prop := (97 ≤ c ∧ c ≤ 122) ∨ (48 ≤ c ∧ c ≤ 57) ∨ c = 46
instance (c : Int) : Decidable (nameSign c) := by unfold nameSign; infer_instance
def isNm (s : ByteArray) : Prop := 0 < s.size ∧ s.size ≤ 12 ∧ (97 ≤ bt s 0 ∧ bt s 0 ≤ 122) ∧ ∀ j : Nat, j < s.size → nameSign (bt s j)
instance (s : ByteArray) : Decidable (isNm s) := by unfold isNm; infer_instance
theorem specName_l0 (s : ByteArray) (hn : s.size ≤ 12) : ∀ (d i : Nat), i + d = s.size → (∀ j : Nat, j < i → nameSign (bt s j)) → Ev (fun k => spec_IsName.l0 k s (i : Int)) (decide (∀ j : Nat, j < s.size → nameSign (bt s j))) := by
  intro d
  induction d with
  | zero =>
    intro i h hp
    have e : (∀ j : Nat, j < s.size → nameSign (bt s j)) := fun j hj => hp j (by omega)
    refine Ev.step (f := fun _ => some _) (fun k => ?_) (Ev.now _)
    simp only [spec_IsName.l0]
    rw [if_neg (by omega), decide_eq_true e]
  | succ d ih =>
    intro i h hp
    by_cases hs : nameSign (bt s i)
    · refine Ev.step (fun k => ?_) (ih (i + 1) (by omega) (fun j hj => by
        by_cases e : j = i
        · subst e; exact hs
        · exact hp j (by omega)))
      simp only [spec_IsName.l0, small_spec, digit_spec, Option.bind_some]
      rw [if_pos (by omega), if_pos (by omega), w64 (by omega) (by omega)]
      push_cast
      rcases hs with h1 | h1 | h1
      · rw [if_pos (by simpa using h1)]
      · rw [if_neg (by simp; omega), if_pos (by simpa using h1)]
      · rw [if_neg (by simp; omega), if_neg (by simp; omega), if_pos h1]
    · have e : ¬ (∀ j : Nat, j < s.size → nameSign (bt s j)) := fun H => hs (H i (by omega))
      refine Ev.step (f := fun _ => some _) (fun k => ?_) (Ev.now _)
      simp only [spec_IsName.l0, small_spec, digit_spec, Option.bind_some]
      unfold nameSign at hs
      rw [if_pos (by omega), if_pos (by omega), if_neg (by simp; omega), if_neg (by simp; omega), if_neg (by omega), decide_eq_false e]
theorem implName_l0 (s : ByteArray) (hn : s.size ≤ 12) : ∀ (d i : Nat), i + d = s.size → (∀ j : Nat, j < i → nameSign (bt s j)) → Ev (fun k => impl_IsName.l0 k s (i : Int)) (decide (∀ j : Nat, j < s.size → nameSign (bt s j))) := by
  intro d
  induction d with
  | zero =>
    intro i h hp
    have e : (∀ j : Nat, j < s.size → nameSign (bt s j)) := fun j hj => hp j (by omega)
    refine Ev.step (f := fun _ => some _) (fun k => ?_) (Ev.now _)
    simp only [impl_IsName.l0]
    rw [if_neg (by omega), decide_eq_true e]
  | succ d ih =>
    intro i h hp
    by_cases hs : nameSign (bt s i)
    · refine Ev.step (fun k => ?_) (ih (i + 1) (by omega) (fun j hj => by
        by_cases e : j = i
        · subst e; exact hs
        · exact hp j (by omega)))
      simp only [impl_IsName.l0, small_impl, digit_impl, Option.bind_some]
      rw [if_pos (by omega), if_pos (by omega), w64 (by omega) (by omega)]
      push_cast
      rcases hs with h1 | h1 | h1
      · rw [if_pos (by simpa using h1)]
      · rw [if_neg (by simp; omega), if_pos (by simpa using h1)]
      · rw [if_neg (by simp; omega), if_neg (by simp; omega), if_pos h1]
    · have e : ¬ (∀ j : Nat, j < s.size → nameSign (bt s j)) := fun H => hs (H i (by omega))
      refine Ev.step (f := fun _ => some _) (fun k => ?_) (Ev.now _)
      simp only [impl_IsName.l0, small_impl, digit_impl, Option.bind_some]
      unfold nameSign at hs
      rw [if_pos (by omega), if_pos (by omega), if_neg (by simp; omega), if_neg (by simp; omega), if_neg (by omega), decide_eq_false e]
theorem toList_nil (s : ByteArray) : s.toList = ([] : List UInt8) ↔ s.size = 0 := by
  rw [ByteArray.toList_eq, ← List.length_eq_zero_iff, data_length]
theorem specName_ev (s : ByteArray) : Ev (fun k => spec_IsName.f k s) (decide (isNm s)) := by
  by_cases h0 : s.size = 0
  · rw [decide_eq_false (fun h => by have := h.1; omega)]
    refine evPos ((toList_nil s).2 h0) ?_
    exact Ev.step (f := fun _ => some false) (fun k => by simp [spec_IsName.j0]) (Ev.now _)
  refine evNeg (fun h => h0 ((toList_nil s).1 h)) ?_
  by_cases h1 : (s.size : Int) > 12
  · rw [decide_eq_false (fun h => by have := h.2.1; omega)]
    refine evPos h1 ?_
    exact Ev.step (f := fun _ => some false) (fun k => by simp [spec_IsName.j0]) (Ev.now _)
  refine evNeg h1 (evPos (by omega) ?_)
  refine Ev.bind (g := fun _ => _) (by rw [small_spec]; exact Ev.now _) ?_
  by_cases h2 : 97 ≤ bt s 0 ∧ bt s 0 ≤ 122
  · refine Ev.step (f := fun k => spec_IsName.l0 k s 0) (fun k => by simp [spec_IsName.j0, h2]) ?_
    have e : isNm s ↔ ∀ j : Nat, j < s.size → nameSign (bt s j) := ⟨fun h => h.2.2.2, fun h => ⟨by omega, by omega, h2, h⟩⟩
    rw [decide_eq_decide.2 e]
    exact specName_l0 s (by omega) s.size 0 (by omega) (by simp)
  · rw [decide_eq_false (fun h : isNm s => h2 h.2.2.1)]
    refine Ev.step (f := fun _ => some false) (fun k => ?_) (Ev.now _)
    simp only [spec_IsName.j0]
    rw [if_pos (by simp; omega)]
theorem implName_ev (s : ByteArray) : Ev (fun k => impl_IsName.f k s) (decide (isNm s)) := by
  by_cases h0 : s.size = 0
  · rw [decide_eq_false (fun h => by have := h.1; omega)]
    refine evPos (by omega) ?_
    exact Ev.step (f := fun _ => some false) (fun k => by simp [impl_IsName.j0]) (Ev.now _)
  refine evNeg (by omega) ?_
  by_cases h1 : (s.size : Int) > 12
  · rw [decide_eq_false (fun h => by have := h.2.1; omega)]
    refine evPos h1 ?_
    exact Ev.step (f := fun _ => some false) (fun k => by simp [impl_IsName.j0]) (Ev.now _)
  refine evNeg h1 (evPos (by omega) ?_)
  refine Ev.bind (g := fun _ => _) (by rw [small_impl]; exact Ev.now _) ?_
  by_cases h2 : 97 ≤ bt s 0 ∧ bt s 0 ≤ 122
  · refine Ev.step (f := fun k => impl_IsName.l0 k s 1) (fun k => by simp [impl_IsName.j0, h2]) ?_
    have e : isNm s ↔ ∀ j : Nat, j < s.size → nameSign (bt s j) := ⟨fun h => h.2.2.2, fun h => ⟨by omega, by omega, h2, h⟩⟩
    rw [decide_eq_decide.2 e]
    exact implName_l0 s (by omega) (s.size - 1) 1 (by omega) (fun j hj => by
      have e0 : j = 0 := by omega
      subst e0
      exact .inl h2)
  · rw [decide_eq_false (fun h : isNm s => h2 h.2.2.1)]
    refine Ev.step (f := fun _ => some false) (fun k => ?_) (Ev.now _)
    simp only [impl_IsName.j0]
    rw [if_pos (by simp; omega)]
-- part: loops
theorem getD_nat {α : Type} {xs : List α} {i : Nat} {d : α} (h : i < xs.length) : xs.getD (i : Int).toNat d = xs[i] := by
  simp [List.getD_eq_getElem?_getD, h]
/-- A loop that fills a row with what a function makes of each element. -/
theorem ev_copy {α β : Type} (L : Nat → List β → Int → Option (List β)) (xs : List α) (F : Nat → α → Option β) (f : α → β)
    (stop : ∀ k out, out.length = xs.length → L (k + 1) out (xs.length : Int) = some out)
    (step : ∀ k out (i : Nat) (h : i < xs.length), out.length = xs.length → L (k + 1) out (i : Int) = (F k xs[i]).bind fun y => L k (out.set i y) ((i + 1 : Nat) : Int))
    (hF : ∀ x ∈ xs, Ev (fun k => F k x) (f x)) (out : List β) (ho : out.length = xs.length) : Ev (fun k => L k out 0) (xs.map f) := by
  have key : ∀ (d i : Nat) (out : List β), i + d = xs.length → out.length = xs.length → out.take i = (xs.take i).map f → Ev (fun k => L k out (i : Int)) (xs.map f) := by
    intro d
    induction d with
    | zero =>
      intro i out h ho ht
      obtain rfl : i = xs.length := by omega
      refine Ev.step (f := fun _ => some _) (fun k => ?_) (Ev.now _)
      rw [stop k out ho]
      rw [List.take_of_length_le (by omega), List.take_of_length_le (by omega)] at ht
      rw [ht]
    | succ d ih =>
      intro i out h ho ht
      have hi : i < xs.length := by omega
      refine Ev.step (fun k => step k out i hi ho) (Ev.bind (hF _ (List.getElem_mem hi)) ?_)
      refine ih (i + 1) (out.set i (f xs[i])) (by omega) (by simpa using ho) ?_
      apply List.ext_getElem
      · simp; omega
      · intro j h1 h2
        simp at h1 h2
        simp only [List.getElem_take, List.getElem_set, List.getElem_map]
        by_cases hj : i = j
        · subst hj; rw [if_pos rfl]
        · rw [if_neg hj]
          have hj2 : j < i := by omega
          have e1 : (out.take i)[j]'(by simp; omega) = out[j] := by simp
          have e2 : ((xs.take i).map f)[j]'(by simp; omega) = f xs[j] := by simp
          rw [← e1, ← e2]
          simp only [ht]
  exact key xs.length 0 out (by omega) ho (by simp)
/-- A loop that stops with 'false' at the first element that fails. -/
theorem ev_all {α : Type} (L : Nat → Int → Option Bool) (xs : List α) (F : Nat → α → Option Bool) (P : α → Bool) (e : Bool)
    (stop : ∀ k, L (k + 1) (xs.length : Int) = some e)
    (step : ∀ k (i : Nat) (h : i < xs.length), L (k + 1) (i : Int) = (F k xs[i]).bind fun b => if b = true then L k ((i + 1 : Nat) : Int) else some false)
    (hF : ∀ x ∈ xs, Ev (fun k => F k x) (P x)) : Ev (fun k => L k 0) (xs.all P && e) := by
  have key : ∀ (d i : Nat), i + d = xs.length → Ev (fun k => L k (i : Int)) ((xs.drop i).all P && e) := by
    intro d
    induction d with
    | zero =>
      intro i h
      obtain rfl : i = xs.length := by omega
      refine Ev.step (f := fun _ => some _) (fun k => ?_) (Ev.now _)
      rw [stop k]
      simp
    | succ d ih =>
      intro i h
      have hi : i < xs.length := by omega
      refine Ev.step (fun k => step k i hi) (Ev.bind (hF _ (List.getElem_mem hi)) ?_)
      rw [List.drop_eq_getElem_cons hi, List.all_cons]
      cases hp : P xs[i] with
      | false => exact evNeg (by simp) (by simpa using Ev.now false)
      | true => exact evPos rfl (by simpa using ih (i + 1) (by omega))
  simpa using key xs.length 0 (by omega)
/-- A loop that tells the first place at which a test answers 'true'. -/
theorem ev_first {α : Type} (L : Nat → Int → Option Int) (xs : List α) (F : Nat → α → Option Bool) (P : α → Bool)
    (stop : ∀ k, L (k + 1) (xs.length : Int) = some (-1))
    (step : ∀ k (i : Nat) (h : i < xs.length), L (k + 1) (i : Int) = (F k xs[i]).bind fun b => if b = true then some (i : Int) else L k ((i + 1 : Nat) : Int))
    (hF : ∀ x ∈ xs, Ev (fun k => F k x) (P x)) : ∃ r, Ev (fun k => L k 0) r ∧ decide (r ≥ 0) = xs.any P := by
  have key : ∀ (d i : Nat), i + d = xs.length → ∃ r, Ev (fun k => L k (i : Int)) r ∧ decide (r ≥ 0) = (xs.drop i).any P := by
    intro d
    induction d with
    | zero =>
      intro i h
      obtain rfl : i = xs.length := by omega
      refine ⟨-1, Ev.step (f := fun _ => some _) (fun k => stop k) (Ev.now _), by simp⟩
    | succ d ih =>
      intro i h
      have hi : i < xs.length := by omega
      rw [List.drop_eq_getElem_cons hi, List.any_cons]
      cases hp : P xs[i] with
      | true =>
        refine ⟨(i : Int), Ev.step (fun k => step k i hi) (Ev.bind (hF _ (List.getElem_mem hi)) ?_), by simp⟩
        rw [hp]
        exact evPos rfl (Ev.now _)
      | false =>
        obtain ⟨r, hr, hr2⟩ := ih (i + 1) (by omega)
        refine ⟨r, Ev.step (fun k => step k i hi) (Ev.bind (hF _ (List.getElem_mem hi)) ?_), by simpa using hr2⟩
        rw [hp]
        exact evNeg (by simp) hr
  simpa using key xs.length 0 (by omega)
/-- What is left of a number of which each element takes its share; -1 if it doesn't suffice. -/
def less (s : Int) (w : Nat) : Int := if s < w then -1 else s - w
theorem less_neg (s : Int) (w : Nat) (h : 0 ≤ s) : less s w < 0 ↔ s < w := by unfold less; split <;> omega
theorem ev_sz {α : Type} (L : Nat → Int → Int → Option Int) (xs : List α) (F : Nat → α → Int → Option Int) (w : α → Nat)
    (stop : ∀ k s, L (k + 1) s (xs.length : Int) = some s)
    (step : ∀ k s (i : Nat) (h : i < xs.length), 0 ≤ s → s ≤ 1048576 → L (k + 1) s (i : Int) = (F k xs[i] s).bind fun t => if t < 0 then some (-1) else L k t ((i + 1 : Nat) : Int))
    (hF : ∀ x ∈ xs, ∀ s, 0 ≤ s → s ≤ 1048576 → Ev (fun k => F k x s) (less s (w x))) (s : Int) (h0 : 0 ≤ s) (h1 : s ≤ 1048576) : Ev (fun k => L k s 0) (less s (xs.map w).sum) := by
  have key : ∀ (d i : Nat) (s : Int), i + d = xs.length → 0 ≤ s → s ≤ 1048576 → Ev (fun k => L k s (i : Int)) (less s ((xs.drop i).map w).sum) := by
    intro d
    induction d with
    | zero =>
      intro i s h h0 h1
      obtain rfl : i = xs.length := by omega
      refine Ev.step (f := fun _ => some _) (fun k => ?_) (Ev.now _)
      rw [stop k s]
      simp [less]; omega
    | succ d ih =>
      intro i s h h0 h1
      have hi : i < xs.length := by omega
      refine Ev.step (fun k => step k s i hi h0 h1) (Ev.bind (hF _ (List.getElem_mem hi) s h0 h1) ?_)
      rw [List.drop_eq_getElem_cons hi, List.map_cons, List.sum_cons]
      by_cases hs : s < w xs[i]
      · have e1 : less s (w xs[i]) = -1 := by unfold less; rw [if_pos hs]
        have e2 : less s (w xs[i] + ((xs.drop (i + 1)).map w).sum) = -1 := by unfold less; rw [if_pos (by push_cast; omega)]
        rw [e1, e2]
        exact evPos (by omega) (Ev.now _)
      · have e1 : less s (w xs[i]) = s - w xs[i] := by unfold less; rw [if_neg hs]
        rw [e1]
        refine evNeg (by omega) ?_
        have := ih (i + 1) (s - w xs[i]) (by omega) (by omega) (by omega)
        have e2 : less (s - w xs[i]) ((xs.drop (i + 1)).map w).sum = less s (w xs[i] + ((xs.drop (i + 1)).map w).sum) := by
          unfold less
          push_cast
          by_cases h3 : s - w xs[i] < (((xs.drop (i + 1)).map w).sum : Nat)
          · rw [if_pos h3, if_pos (by omega)]
          · rw [if_neg h3, if_neg (by omega)]; omega
        rw [← e2]
        exact this
  simpa using key xs.length 0 s (by omega) h0 h1
theorem less_then {s : Int} {a b : Nat} (h0 : 0 ≤ s) (h : ¬ less s a < 0) : less s a = s - a ∧ 0 ≤ s - a ∧ less (s - a) b = less s (a + b) := by
  rw [less_neg s a h0] at h
  have e : less s a = s - a := by unfold less; rw [if_neg h]
  refine ⟨e, by omega, ?_⟩
  unfold less
  push_cast
  by_cases h3 : s - a < b
  · rw [if_pos h3, if_pos (by omega)]
  · rw [if_neg h3, if_neg (by omega)]; omega
theorem less_more {s : Int} {a b : Nat} (h0 : 0 ≤ s) (h : less s a < 0) : less s (a + b) = -1 := by
  rw [less_neg s a h0] at h
  unfold less
  rw [if_pos (by push_cast; omega)]
theorem less_none {s : Int} {a : Nat} (h0 : 0 ≤ s) (h : less s a < 0) : less s a = -1 := by
  rw [less_neg s a h0] at h
  unfold less
  rw [if_pos h]
-- part: intss
theorem szInt64S_ev (xs : List Int) (hl : xs.length ≤ 9223372036854775807) (s : Int) (h0 : 0 ≤ s) (h1 : s ≤ 1048576) : laws_szInt64S.f xs s = some (less s xs.length) := by
  unfold laws_szInt64S.f less
  rw [w64 (by omega) (by omega)]
  by_cases h : s < xs.length
  · rw [if_pos (by omega), if_pos h]
  · rw [if_neg (by omega), if_neg h]
/-- How much a list of lists weighs. -/
def wtL (xs : List (List Int)) : Nat := xs.length + (xs.map List.length).sum
theorem szInt64SS_ev (xs : List (List Int)) (hl : xs.length ≤ 9223372036854775807) (hx : ∀ x ∈ xs, x.length ≤ 9223372036854775807) (s : Int) (h0 : 0 ≤ s) (h1 : s ≤ 1048576) : Ev (fun k => laws_szInt64SS.f k xs s) (less s (wtL xs)) := by
  unfold laws_szInt64SS.f
  rw [w64 (by omega) (by omega)]
  by_cases h : s < xs.length
  · have e : less s (wtL xs) = -1 := by unfold less wtL; rw [if_pos (by push_cast; omega)]
    rw [e]
    exact evPos (by omega) (Ev.now _)
  · refine evNeg (by omega) ?_
    have e : less s (wtL xs) = less (s - xs.length) (xs.map List.length).sum := by
      have := (less_then (s := s) (a := xs.length) (b := (xs.map List.length).sum) h0 (by rw [less_neg _ _ h0]; exact h)).2.2
      exact this.symm
    rw [e]
    refine ev_sz (fun k s i => laws_szInt64SS.l0 k xs s i) xs (fun _ x s => laws_szInt64S.f x s) List.length ?_ ?_ ?_ _ (by omega) (by omega)
    · intro k s
      simp only [laws_szInt64SS.l0]
      rw [if_neg (by omega)]
    · intro k s i hi _ _
      simp only [laws_szInt64SS.l0, rd_L3]
      rw [if_pos (by omega), if_pos (by omega), getD_nat hi, w64 (by omega) (by omega)]
      push_cast
      rfl
    · intro x hx2 s h2 h3
      exact ⟨0, fun k _ => szInt64S_ev x (hx x hx2) s h2 h3⟩
/-- All lists are short. -/
def shortL (xs : List (List Int)) : Prop := xs.length ≤ 1048576 ∧ ∀ x ∈ xs, x.length ≤ 1048576
theorem sum_ge {α : Type} (w : α → Nat) {xs : List α} {x : α} (h : x ∈ xs) : w x ≤ (xs.map w).sum := by
  induction xs with
  | nil => simp at h
  | cons y ys ih =>
    rcases List.mem_cons.1 h with rfl | h
    · simp
    · have := ih h
      simp only [List.map_cons, List.sum_cons]; omega
theorem shortL_of {xs : List (List Int)} (h : wtL xs ≤ 1048576) : shortL xs := by
  unfold wtL at h
  refine ⟨by omega, fun x hx => ?_⟩
  have := sum_ge List.length hx
  omega
theorem toInt64SS_ev (xs : List (List Int)) (h : shortL xs) : Ev (fun k => laws_toInt64SS.f k xs) xs := by
  have := ev_copy (fun k out i => laws_toInt64SS.l0 k xs out i) xs (fun k x => laws_toInt64S.f k x) id (fun k out ho => by
      simp only [laws_toInt64SS.l0]
      rw [if_neg (by omega)]) (fun k out i hi ho => by
      simp only [laws_toInt64SS.l0, rd_L3]
      have := h.1
      rw [if_pos (by omega), if_pos (by omega), getD_nat hi, w64 (by omega) (by omega)]
      simp only [show ((i : Int) < (out.length : Int)) from by omega, if_true, Int.toNat_natCast]
      push_cast
      rfl) (fun x hx => toInt64S_ev x (by have := h.2 x hx; omega)) (List.replicate xs.length []) (by simp)
  rw [List.map_id] at this
  refine Ev.congr (fun k => ?_) this
  have := h.1
  unfold laws_toInt64SS.f
  rw [if_pos (by omega), if_pos (by omega)]
  simp
theorem eqInt64SS_ev (xs : List (List Int)) (h : shortL xs) : Ev (fun k => laws_eqInt64SS.f k xs xs) true := by
  have := ev_all (fun k i => laws_eqInt64SS.l0 k xs xs i) xs (fun k x => laws_eqInt64S.f k x x) (fun _ => true) true (fun k => by
      simp only [laws_eqInt64SS.l0]
      rw [if_neg (by omega)]) (fun k i hi => by
      simp only [laws_eqInt64SS.l0, rd_L3]
      have := h.1
      rw [if_pos (by omega), if_pos (by omega), if_pos (by omega), getD_nat hi, w64 (by omega) (by omega)]
      push_cast
      rfl) (fun x hx => eqInt64S_ev x (by have := h.2 x hx; omega))
  rw [Bool.and_true, show (xs.all fun _ => true) = true by simp] at this
  refine Ev.congr (fun k => ?_) this
  unfold laws_eqInt64SS.f
  rw [if_pos rfl]
-- part: rule
/-- How much a rule weighs. -/
def wtRule (a b c : List (List Int)) (d : List Int) : Nat := wtL a + wtL b + wtL c + d.length
theorem szRule_ev (a b c : List (List Int)) (d : List Int) (ha : a.length ≤ 9223372036854775807 ∧ ∀ x ∈ a, x.length ≤ 9223372036854775807) (hb : b.length ≤ 9223372036854775807 ∧ ∀ x ∈ b, x.length ≤ 9223372036854775807)
    (hc : c.length ≤ 9223372036854775807 ∧ ∀ x ∈ c, x.length ≤ 9223372036854775807) (hd : d.length ≤ 9223372036854775807) (s : Int) (h0 : 0 ≤ s) (h1 : s ≤ 1048576) : Ev (fun k => laws_szRule.f k a b c d s) (less s (wtRule a b c d)) := by
  unfold laws_szRule.f wtRule
  refine Ev.bind (szInt64SS_ev a ha.1 ha.2 s h0 h1) ?_
  by_cases n1 : less s (wtL a) < 0
  · rw [Nat.add_assoc, Nat.add_assoc, less_more h0 n1]
    exact evPos n1 (Ev.now _)
  refine evNeg n1 ?_
  obtain ⟨e1, p1, _⟩ := less_then (b := 0) h0 n1
  rw [e1]
  refine Ev.bind (szInt64SS_ev b hb.1 hb.2 _ p1 (by omega)) ?_
  have q1 := (less_then (b := wtL b) h0 n1).2.2
  rw [q1]
  by_cases n2 : less s (wtL a + wtL b) < 0
  · rw [Nat.add_assoc, less_more h0 n2]
    exact evPos n2 (Ev.now _)
  refine evNeg n2 ?_
  obtain ⟨e2, p2, _⟩ := less_then (b := 0) h0 n2
  rw [e2]
  refine Ev.bind (szInt64SS_ev c hc.1 hc.2 _ p2 (by omega)) ?_
  have q2 := (less_then (b := wtL c) h0 n2).2.2
  rw [q2]
  by_cases n3 : less s (wtL a + wtL b + wtL c) < 0
  · rw [less_more h0 n3]
    exact evPos n3 (Ev.now _)
  refine evNeg n3 ?_
  obtain ⟨e3, p3, _⟩ := less_then (b := 0) h0 n3
  rw [e3, szInt64S_ev d hd _ p3 (by omega)]
  have q3 := (less_then (b := d.length) h0 n3).2.2
  rw [q3]
  simp only [Option.bind_some]
  by_cases n4 : less s (wtL a + wtL b + wtL c + d.length) < 0
  · rw [less_none h0 n4]
    exact evPos (by omega) (Ev.now _)
  · exact evNeg n4 (Ev.now _)
theorem toRule_ev (a b c : List (List Int)) (d : List Int) (h : wtRule a b c d ≤ 1048576) : Ev (fun k => laws_toRule.f k a b c d) (a, b, c, d) := by
  unfold wtRule at h
  exact Ev.bind (toInt64SS_ev a (shortL_of (by omega))) (Ev.bind (toInt64SS_ev b (shortL_of (by omega))) (Ev.bind (toInt64SS_ev c (shortL_of (by omega))) (Ev.bind (toInt64S_ev d (by omega)) (Ev.now _))))
theorem eqRule_ev (a b c : List (List Int)) (d : List Int) (h : wtRule a b c d ≤ 1048576) : Ev (fun k => laws_eqRule.f k a b c d a b c d) true := by
  unfold wtRule at h
  exact Ev.bind (eqInt64SS_ev a (shortL_of (by omega))) (evPos rfl (Ev.bind (eqInt64SS_ev b (shortL_of (by omega))) (evPos rfl (Ev.bind (eqInt64SS_ev c (shortL_of (by omega))) (evPos rfl (Ev.bind (eqInt64S_ev d (by omega)) (evPos rfl (Ev.now _))))))))
-- part: validClass
/-- What one place of a class obeys. -/
def okAt (xs : List Int) (j : Nat) : Prop := 0 ≤ rd xs j ∧ rd xs j ≤ 39 ∧ (0 < j → rd xs ((j : Int) - 1) < rd xs j)
def VC (xs : List Int) : Prop := ∀ j : Nat, j < xs.length → okAt xs j
theorem l23Ok_l0 (xs : List Int) (hn : xs.length ≤ 1048576) : ∀ (d i : Nat), i + d = xs.length → ∃ b, Ev (fun k => spec_l23Ok.l0 k xs (i : Int)) b ∧ (b = true ↔ ∀ j : Nat, i ≤ j → j < xs.length → okAt xs j) := by
  intro d
  induction d with
  | zero =>
    intro i h
    refine ⟨true, Ev.step (f := fun _ => some true) (fun k => ?_) (Ev.now _), by simp; omega⟩
    simp only [spec_l23Ok.l0]
    rw [if_neg (by omega)]
  | succ d ih =>
    intro i h
    by_cases hok : okAt xs i
    · obtain ⟨b, hb, hbi⟩ := ih (i + 1) (by omega)
      refine ⟨b, Ev.step (fun k => ?_) hb, ?_⟩
      · obtain ⟨o1, o2, o3⟩ := hok
        simp only [spec_l23Ok.l0, spec_l00In.f]
        rw [if_pos (by omega), if_pos (by omega), if_pos o1, decide_eq_true o2]
        simp only [Option.bind_some, if_true]
        rw [w64 (x := (i : Int) + 1) (by omega) (by omega), w64 (x := (i : Int) - 1) (by omega) (by omega)]
        push_cast
        by_cases hi : (i : Int) > 0
        · have := o3 (by omega)
          rw [if_pos hi, if_pos (by omega), if_pos (by omega), if_neg (by omega)]
        · rw [if_neg hi]
      · rw [hbi]
        constructor
        · intro H j h1 h2
          by_cases hj : j = i
          · subst hj; exact hok
          · exact H j (by omega) h2
        · intro H j h1 h2
          exact H j (by omega) h2
    · refine ⟨false, Ev.step (f := fun _ => some false) (fun k => ?_) (Ev.now _), ?_⟩
      · simp only [spec_l23Ok.l0, spec_l00In.f]
        rw [if_pos (by omega), if_pos (by omega)]
        by_cases o1 : rd xs i ≥ 0
        · rw [if_pos o1]
          by_cases o2 : rd xs i ≤ 39
          · rw [decide_eq_true o2]
            simp only [Option.bind_some, if_true]
            rw [w64 (x := (i : Int) - 1) (by omega) (by omega)]
            by_cases hi : (i : Int) > 0
            · rw [if_pos hi, if_pos (by omega), if_pos (by omega), if_pos]
              refine Int.not_lt.1 fun h3 => hok ⟨o1, o2, fun _ => h3⟩
            · exact absurd ⟨o1, o2, fun h => by omega⟩ hok
          · rw [decide_eq_false o2]; simp
        · rw [if_neg o1]; simp
      · simp only [Bool.false_eq_true, false_iff]
        exact fun H => hok (H i (by omega) (by omega))
theorem l23Ok_ev (xs : List Int) (hn : xs.length ≤ 1048576) : ∃ b, Ev (fun k => spec_l23Ok.f k xs) b ∧ (b = true ↔ VC xs) := by
  obtain ⟨b, hb, h⟩ := l23Ok_l0 xs hn xs.length 0 (by omega)
  refine ⟨b, hb, ?_⟩
  rw [h]
  unfold VC
  simp
theorem validClass_l0 (xs : List Int) (hn : xs.length ≤ 1048576) : ∀ (d i : Nat), i + d = xs.length → ∃ b, Ev (fun k => impl_ValidClass.l0 k xs xs (xs.length : Int) (i : Int)) b ∧ (b = true ↔ ∀ j : Nat, i ≤ j → j < xs.length → okAt xs j) := by
  intro d
  induction d with
  | zero =>
    intro i h
    refine ⟨true, Ev.step (f := fun _ => some true) (fun k => ?_) (Ev.now _), by simp; omega⟩
    simp only [impl_ValidClass.l0]
    rw [if_neg (by omega)]
  | succ d ih =>
    intro i h
    by_cases hok : okAt xs i
    · obtain ⟨b, hb, hbi⟩ := ih (i + 1) (by omega)
      refine ⟨b, Ev.step (fun k => ?_) hb, ?_⟩
      · obtain ⟨o1, o2, o3⟩ := hok
        simp only [impl_ValidClass.l0, impl_isGlyphNumber.f]
        rw [if_pos (by omega), if_pos (by omega), if_pos (by omega), if_pos o1, decide_eq_true (by omega)]
        simp only [Option.bind_some, if_true]
        rw [w64 (x := (i : Int) + 1) (by omega) (by omega), w64 (x := (i : Int) - 1) (by omega) (by omega)]
        push_cast
        by_cases hi : (i : Int) > 0
        · have := o3 (by omega)
          rw [if_pos hi, if_pos (by omega), if_pos (by omega), if_neg (by omega)]
        · rw [if_neg hi]
      · rw [hbi]
        constructor
        · intro H j h1 h2
          by_cases hj : j = i
          · subst hj; exact hok
          · exact H j (by omega) h2
        · intro H j h1 h2
          exact H j (by omega) h2
    · refine ⟨false, Ev.step (f := fun _ => some false) (fun k => ?_) (Ev.now _), ?_⟩
      · simp only [impl_ValidClass.l0, impl_isGlyphNumber.f]
        rw [if_pos (by omega), if_pos (by omega), if_pos (by omega)]
        by_cases o1 : rd xs i ≥ 0
        · rw [if_pos o1]
          by_cases o2 : rd xs i ≤ 39
          · rw [decide_eq_true (by omega)]
            simp only [Option.bind_some, if_true]
            rw [w64 (x := (i : Int) - 1) (by omega) (by omega)]
            by_cases hi : (i : Int) > 0
            · rw [if_pos hi, if_pos (by omega), if_pos (by omega), if_pos]
              refine Int.not_lt.1 fun h3 => hok ⟨o1, o2, fun _ => h3⟩
            · exact absurd ⟨o1, o2, fun h => by omega⟩ hok
          · rw [decide_eq_false (by omega)]; simp
        · rw [if_neg o1]; simp
      · simp only [Bool.false_eq_true, false_iff]
        exact fun H => hok (H i (by omega) (by omega))
theorem validClass_ev (xs : List Int) (hn : xs.length ≤ 1048576) : ∃ b, Ev (fun k => impl_ValidClass.f k xs) b ∧ (b = true ↔ VC xs) := by
  obtain ⟨b, hb, h⟩ := validClass_l0 xs hn xs.length 0 (by omega)
  refine ⟨b, hb, ?_⟩
  rw [h]
  unfold VC
  simp
theorem valid_both (xs : List Int) (hn : xs.length ≤ 1048576) : ∃ b, Ev (fun k => spec_l23Ok.f k xs) b ∧ Ev (fun k => impl_ValidClass.f k xs) b ∧ (b = true ↔ VC xs) := by
  obtain ⟨b, h1, h2⟩ := l23Ok_ev xs hn
  obtain ⟨c, h3, h4⟩ := validClass_ev xs hn
  obtain rfl : b = c := by rw [Bool.eq_iff_iff, h2, h4]
  exact ⟨b, h1, h3, h2⟩
-- part: inF
theorem in_f (a b c : Int) : spec_l00In.f a b c = some (decide (b ≤ a ∧ a ≤ c)) := by
  unfold spec_l00In.f
  by_cases h : a ≥ b <;> simp [h]
-- part: validRule
instance (xs : List Int) (j : Nat) : Decidable (okAt xs j) := by unfold okAt; infer_instance
instance (xs : List Int) : Decidable (VC xs) := by unfold VC; infer_instance
theorem l23Ok_dec (xs : List Int) (hn : xs.length ≤ 1048576) : Ev (fun k => spec_l23Ok.f k xs) (decide (VC xs)) := by
  obtain ⟨b, h, hb⟩ := l23Ok_ev xs hn
  have e : b = decide (VC xs) := by rw [Bool.eq_iff_iff, hb, decide_eq_true_iff]
  rwa [← e]
theorem validClass_dec (xs : List Int) (hn : xs.length ≤ 1048576) : Ev (fun k => impl_ValidClass.f k xs) (decide (VC xs)) := by
  obtain ⟨b, h, hb⟩ := validClass_ev xs hn
  have e : b = decide (VC xs) := by rw [Bool.eq_iff_iff, hb, decide_eq_true_iff]
  rwa [← e]
/-- A class that is not empty. -/
def fullC (xs : List Int) : Bool := decide (0 < xs.length) && decide (VC xs)
theorem specClass_ev (xs : List Int) (hn : xs.length ≤ 1048576) : Ev (fun k => spec_l25Class.f k xs) (fullC xs) := by
  unfold spec_l25Class.f fullC
  by_cases h : 0 < xs.length
  · rw [decide_eq_true h]
    exact evPos (by omega) (Ev.bind (l23Ok_dec xs hn) (Ev.now _))
  · rw [decide_eq_false h]
    exact evNeg (by omega) (Ev.now _)
theorem implFull_ev (xs : List Int) (hn : xs.length ≤ 1048576) : Ev (fun k => impl_fullClass.f k xs) (fullC xs) := by
  unfold impl_fullClass.f fullC
  by_cases h : 0 < xs.length
  · rw [decide_eq_true h]
    exact evPos (by omega) (Ev.bind (validClass_dec xs hn) (Ev.now _))
  · rw [decide_eq_false h]
    exact evNeg (by omega) (Ev.now _)
/-- Some numbers of classes that are not empty. -/
def fullCs (xs : List (List Int)) (least : Int) : Bool := xs.all fullC && decide (least ≤ (xs.length : Int) ∧ (xs.length : Int) ≤ 4)
theorem specClasses_ev (xs : List (List Int)) (h : xs.length ≤ 1048576 ∧ ∀ x ∈ xs, x.length ≤ 1048576) (least : Int) : Ev (fun k => spec_l25Classes.f k xs least) (fullCs xs least) := by
  refine ev_all (fun k i => spec_l25Classes.l0 k xs least i) xs (fun k x => spec_l25Class.f k x) fullC _ (fun k => ?_) (fun k i hi => ?_) (fun x hx => specClass_ev x (h.2 x hx))
  · simp only [spec_l25Classes.l0]
    rw [if_neg (by omega), in_f]
    rfl
  · simp only [spec_l25Classes.l0, rd_L3]
    have := h.1
    rw [if_pos (by omega), if_pos (by omega), getD_nat hi, w64 (by omega) (by omega)]
    push_cast
    rfl
theorem implClasses_ev (xs : List (List Int)) (h : xs.length ≤ 1048576 ∧ ∀ x ∈ xs, x.length ≤ 1048576) (least : Int) : Ev (fun k => impl_fullClasses.f k xs least 4) (fullCs xs least) := by
  unfold impl_fullClasses.f fullCs
  by_cases h1 : (xs.length : Int) ≥ least
  · refine evPos h1 ?_
    by_cases h2 : (xs.length : Int) ≤ 4
    · refine evPos h2 ?_
      obtain ⟨r, hr, hr2⟩ := ev_first (fun k i => slices_IndexFunc_int64_int64_by_impl_fullClasses_1.l0 k xs (xs.length : Int) i) xs (fun k x => impl_fullClasses_1.f k x) (fun x => !fullC x) (fun k => by
          simp only [slices_IndexFunc_int64_int64_by_impl_fullClasses_1.l0]
          rw [if_neg (by omega)]) (fun k i hi => by
          simp only [slices_IndexFunc_int64_int64_by_impl_fullClasses_1.l0, rd_L3]
          have := h.1
          rw [if_pos (by omega), if_pos (by omega), if_pos (by omega), getD_nat hi, w64 (by omega) (by omega)]
          push_cast
          rfl) (fun x hx => Ev.bind (implFull_ev x (h.2 x hx)) (Ev.now _))
      have e : (xs.all fullC && decide (least ≤ (xs.length : Int) ∧ (xs.length : Int) ≤ 4)) = !(decide (r ≥ 0)) := by
        rw [hr2, decide_eq_true ⟨h1, h2⟩, Bool.and_true, List.not_any_eq_all_not]
        simp
      rw [e]
      exact Ev.bind (Ev.bind hr (Ev.now _)) (Ev.now _)
    · rw [decide_eq_false (fun h => h2 h.2), Bool.and_false]
      exact evNeg h2 (Ev.now _)
  · rw [decide_eq_false (fun h => h1 h.1), Bool.and_false]
    exact evNeg h1 (Ev.now _)
/-- Glyph numbers. -/
def glyphs (d : List Int) : Bool := d.all fun g => decide (0 ≤ g ∧ g ≤ 39)
def ruleOk (a b c : List (List Int)) (d : List Int) : Bool := fullCs a 0 && fullCs b 1 && fullCs c 0 && decide (d.length ≤ 4) && glyphs d
theorem implOutput_ev (d : List Int) (hd : d.length ≤ 1048576) : Ev (fun k => slices_ContainsFunc_int64_int64_by_impl_ValidRule_1.f k d) (!glyphs d) := by
  obtain ⟨r, hr, hr2⟩ := ev_first (fun k i => slices_IndexFunc_int64_int64_by_impl_ValidRule_1.l0 k d (d.length : Int) i) d (fun _ x => impl_ValidRule_1.f x) (fun g => !decide (0 ≤ g ∧ g ≤ 39)) (fun k => by
      simp only [slices_IndexFunc_int64_int64_by_impl_ValidRule_1.l0]
      rw [if_neg (by omega)]) (fun k i hi => by
      simp only [slices_IndexFunc_int64_int64_by_impl_ValidRule_1.l0]
      rw [if_pos (by omega), if_pos (by omega), if_pos (by omega), rd_get hi, w64 (by omega) (by omega)]
      push_cast
      rfl) (fun x hx => ⟨0, fun k _ => by
      unfold impl_ValidRule_1.f impl_isGlyphNumber.f
      by_cases h : x ≥ 0
      · rw [if_pos h]
        simp only [Option.bind_some, Option.some.injEq]
        rw [show decide (x < 40) = decide (0 ≤ x ∧ x ≤ 39) from decide_eq_decide.2 (by omega)]
      · rw [if_neg h]
        simp only [Option.bind_some, Option.some.injEq]
        rw [decide_eq_false (fun h2 : 0 ≤ x ∧ x ≤ 39 => h h2.1)]⟩)
  have e : (!glyphs d) = decide (r ≥ 0) := by rw [hr2, glyphs, List.not_all_eq_any_not]
  rw [e]
  exact Ev.bind hr (Ev.now _)
theorem implRule_ev (a b c : List (List Int)) (d : List Int) (ha : a.length ≤ 1048576 ∧ ∀ x ∈ a, x.length ≤ 1048576) (hb : b.length ≤ 1048576 ∧ ∀ x ∈ b, x.length ≤ 1048576) (hc : c.length ≤ 1048576 ∧ ∀ x ∈ c, x.length ≤ 1048576) (hd : d.length ≤ 1048576) :
    Ev (fun k => impl_ValidRule.f k a b c d) (ruleOk a b c d) := by
  unfold ruleOk
  refine Ev.bind (implClasses_ev a ha 0) ?_
  cases fullCs a 0 with
  | false => exact evNeg (by simp) (by simpa using Ev.now false)
  | true =>
    refine evPos rfl (Ev.bind (implClasses_ev b hb 1) ?_)
    cases fullCs b 1 with
    | false => exact evNeg (by simp) (by simpa using Ev.now false)
    | true =>
      refine evPos rfl (Ev.bind (implClasses_ev c hc 0) ?_)
      cases fullCs c 0 with
      | false => exact evNeg (by simp) (by simpa using Ev.now false)
      | true =>
        refine evPos rfl ?_
        by_cases h : d.length ≤ 4
        · rw [decide_eq_true h]
          exact evPos (by omega) (Ev.bind (implOutput_ev d hd) (by simpa using Ev.now (glyphs d)))
        · rw [decide_eq_false h]
          exact evNeg (by omega) (by simpa using Ev.now false)
-- part: specRuleAt
theorem specRule_ev (xs : List S38) (i : Int) (a b c : List (List Int)) (d : List Int) (hx : rd_T38 xs i = ⟨a, b, c, d⟩) (ha : a.length ≤ 1048576 ∧ ∀ x ∈ a, x.length ≤ 1048576) (hb : b.length ≤ 1048576 ∧ ∀ x ∈ b, x.length ≤ 1048576) (hc : c.length ≤ 1048576 ∧ ∀ x ∈ c, x.length ≤ 1048576) (hd : d.length ≤ 1048576) :
    Ev (fun k => spec_l25Rule_at.f k xs i) (ruleOk a b c d) := by
  have key : ∀ (m j : Nat), j + m = d.length → Ev (fun k => spec_l25Rule_at.l0 k (j : Int) xs i) ((d.drop j).all (fun g => decide (0 ≤ g ∧ g ≤ 39)) && (fullCs a 0 && fullCs b 1 && fullCs c 0 && decide (d.length ≤ 4))) := by
    intro m
    induction m with
    | zero =>
      intro j h
      rw [List.drop_of_length_le (by omega), List.all_nil, Bool.true_and]
      refine Ev.step (fun k => by simp only [spec_l25Rule_at.l0, hx]; rw [if_neg (by omega)]) ?_
      refine Ev.bind (specClasses_ev a ha 0) ?_
      cases fullCs a 0 with
      | false => exact evNeg (by simp) (by simpa using Ev.now false)
      | true =>
        refine evPos rfl (Ev.bind (specClasses_ev b hb 1) ?_)
        cases fullCs b 1 with
        | false => exact evNeg (by simp) (by simpa using Ev.now false)
        | true =>
          refine evPos rfl (Ev.bind (specClasses_ev c hc 0) ?_)
          cases fullCs c 0 with
          | false => exact evNeg (by simp) (by simpa using Ev.now false)
          | true =>
            refine evPos rfl ?_
            rw [show decide ((d.length : Int) ≤ 4) = decide (d.length ≤ 4) from decide_eq_decide.2 (by omega)]
            simpa using Ev.now (decide (d.length ≤ 4))
    | succ m ih =>
      intro j h
      have hj : j < d.length := by omega
      rw [List.drop_eq_getElem_cons hj, List.all_cons]
      refine Ev.step (fun k => by
        simp only [spec_l25Rule_at.l0, hx, in_f, Option.bind_some]
        rw [if_pos (by omega), if_pos (by omega), rd_get hj, w64 (by omega) (by omega)]) ?_
      by_cases hg : 0 ≤ d[j] ∧ d[j] ≤ 39
      · rw [decide_eq_true hg]
        refine evPos rfl ?_
        simpa using ih (j + 1) (by omega)
      · rw [decide_eq_false hg]
        exact evNeg (by simp) (by simpa using Ev.now false)
  have := key d.length 0 (by omega)
  have e : ruleOk a b c d = ((d.drop 0).all (fun g => decide (0 ≤ g ∧ g ≤ 39)) && (fullCs a 0 && fullCs b 1 && fullCs c 0 && decide (d.length ≤ 4))) := by
    unfold ruleOk glyphs
    rw [List.drop_zero, Bool.and_comm]
  rw [e]
  exact this
-- part: lookup
def wtR (x : S35) : Nat := wtRule x.f0 x.f1 x.f2 x.f3
def toRl (x : S35) : S38 := ⟨x.f0, x.f1, x.f2, x.f3⟩
def okR (x : S38) : Bool := ruleOk x.f0 x.f1 x.f2 x.f3
theorem rdU_get {xs : List S38} {i : Nat} (h : i < xs.length) : rd_T38 xs (i : Int) = xs[i] := by
  simp [rd_T38, h]
theorem rdV_get {xs : List S35} {i : Nat} (h : i < xs.length) : rd_T35 xs (i : Int) = xs[i] := by
  simp [rd_T35, h]
def fitL2 (xs : List (List Int)) : Prop := xs.length ≤ 9223372036854775807 ∧ ∀ x ∈ xs, x.length ≤ 9223372036854775807
def fitR (x : S35) : Prop := fitL2 x.f0 ∧ fitL2 x.f1 ∧ fitL2 x.f2 ∧ x.f3.length ≤ 9223372036854775807
def wtRs (xs : List S35) : Nat := xs.length + (xs.map wtR).sum
theorem szRuleS_ev (xs : List S35) (hl : xs.length ≤ 9223372036854775807) (hx : ∀ x ∈ xs, fitR x) (s : Int) (h0 : 0 ≤ s) (h1 : s ≤ 1048576) : Ev (fun k => laws_szRuleS.f k xs s) (less s (wtRs xs)) := by
  unfold laws_szRuleS.f wtRs
  rw [w64 (by omega) (by omega)]
  by_cases n0 : less s xs.length < 0
  · rw [less_more h0 n0]
    rw [less_neg _ _ h0] at n0
    exact evPos (by omega) (Ev.now _)
  obtain ⟨e0, p0, _⟩ := less_then (b := 0) h0 n0
  have q0 := (less_then (b := (xs.map wtR).sum) h0 n0).2.2
  rw [← q0]
  refine evNeg (by omega) (ev_sz (fun k s i => laws_szRuleS.l0 k xs s i) xs (fun k x s => laws_szRule.f k x.f0 x.f1 x.f2 x.f3 s) wtR (fun k s => ?_) (fun k s i h b0 b1 => ?_) (fun x hm s b0 b1 => ?_) _ p0 (by omega))
  · simp only [laws_szRuleS.l0]
    rw [if_neg (by omega)]
  · have hn : xs.length ≤ 1048576 := by omega
    simp only [laws_szRuleS.l0]
    rw [if_pos (by omega), if_pos (by omega), rdV_get h, w64 (by omega) (by omega)]
    push_cast
    rfl
  · have := hx x hm
    exact szRule_ev x.f0 x.f1 x.f2 x.f3 this.1 this.2.1 this.2.2.1 this.2.2.2 s b0 b1
theorem wtRs_len {xs : List S35} (h : wtRs xs ≤ 1048576) : xs.length ≤ 1048576 ∧ ∀ x ∈ xs, wtR x ≤ 1048576 := by
  unfold wtRs at h
  refine ⟨by omega, fun x hx => ?_⟩
  have := sum_ge wtR hx
  omega
theorem toRuleS_ev (xs : List S35) (h : wtRs xs ≤ 1048576) : Ev (fun k => laws_toRuleS.f k xs) (xs.map toRl) := by
  have hl := (wtRs_len h).1
  have := ev_copy (fun k out i => laws_toRuleS.l0 k xs out i) xs (fun k x => (laws_toRule.f k x.f0 x.f1 x.f2 x.f3).bind fun b => some (⟨b.1, b.2.1, b.2.2.1, b.2.2.2⟩ : S38)) toRl (fun k out ho => by
      simp only [laws_toRuleS.l0]
      rw [if_neg (by omega)]) (fun k out i hi ho => by
      simp only [laws_toRuleS.l0]
      rw [if_pos (by omega), if_pos (by omega), rdV_get hi, w64 (by omega) (by omega)]
      cases laws_toRule.f k xs[i].f0 xs[i].f1 xs[i].f2 xs[i].f3 with
      | none => rfl
      | some b =>
        simp only [Option.bind_some]
        rw [if_pos (by omega)]
        simp only [Int.toNat_natCast]
        push_cast
        rfl) (fun x hx => Ev.bind (toRule_ev x.f0 x.f1 x.f2 x.f3 ((wtRs_len h).2 x hx)) (Ev.now _)) (List.replicate xs.length z38) (by simp)
  refine Ev.congr (fun k => ?_) this
  unfold laws_toRuleS.f
  rw [if_pos (by omega), if_pos (by omega)]
  simp
theorem eqRuleS_ev (xs : List S35) (h : wtRs xs ≤ 1048576) : Ev (fun k => laws_eqRuleS.f k (xs.map toRl) (xs.map toRl)) true := by
  have hl := (wtRs_len h).1
  have hl2 : (xs.map toRl).length ≤ 1048576 := by rw [List.length_map]; exact hl
  have := ev_all (fun k i => laws_eqRuleS.l0 k (xs.map toRl) (xs.map toRl) i) (xs.map toRl) (fun k x => laws_eqRule.f k x.f0 x.f1 x.f2 x.f3 x.f0 x.f1 x.f2 x.f3) (fun _ => true) true (fun k => by
      simp only [laws_eqRuleS.l0]
      rw [if_neg (by omega)]) (fun k i hi => by
      simp only [laws_eqRuleS.l0]
      rw [if_pos (by omega), if_pos (by omega), if_pos (by omega), rdU_get hi, w64 (by omega) (by omega)]
      push_cast
      rfl) (fun x hx => by
      obtain ⟨y, hy, rfl⟩ := List.mem_map.1 hx
      exact eqRule_ev y.f0 y.f1 y.f2 y.f3 ((wtRs_len h).2 y hy))
  rw [Bool.and_true, show ((xs.map toRl).all fun _ => true) = true by simp] at this
  refine Ev.congr (fun k => ?_) this
  unfold laws_eqRuleS.f
  rw [if_pos rfl]
/-! A lookup. -/
def wtLook (n : ByteArray) (rs : List S35) : Nat := n.size + wtRs rs
theorem szLookup_ev (n : ByteArray) (rs : List S35) (hn : n.size ≤ 9223372036854775807) (hl : rs.length ≤ 9223372036854775807) (hx : ∀ x ∈ rs, fitR x) (s : Int) (h0 : 0 ≤ s) (h1 : s ≤ 1048576) :
    Ev (fun k => laws_szLookup.f k n rs s) (less s (wtLook n rs)) := by
  unfold laws_szLookup.f wtLook
  rw [w64 (by omega) (by omega)]
  by_cases n0 : less s n.size < 0
  · rw [less_more h0 n0]
    rw [less_neg _ _ h0] at n0
    exact evPos (by omega) (Ev.now _)
  obtain ⟨e0, p0, _⟩ := less_then (b := 0) h0 n0
  have q0 := (less_then (b := wtRs rs) h0 n0).2.2
  refine evNeg (by omega) (Ev.bind (szRuleS_ev rs hl hx _ p0 (by omega)) ?_)
  rw [q0]
  by_cases n1 : less s (n.size + wtRs rs) < 0
  · rw [less_none h0 n1]
    exact evPos (by omega) (Ev.now _)
  · exact evNeg n1 (Ev.now _)
theorem toLookup_ev (n : ByteArray) (rs : List S35) (h : wtRs rs ≤ 1048576) : Ev (fun k => laws_toLookup.f k n rs) (n, rs.map toRl) := Ev.bind (toRuleS_ev rs h) (Ev.now _)
theorem eqLookup_ev (n : ByteArray) (rs : List S35) (h : wtRs rs ≤ 1048576) : Ev (fun k => laws_eqLookup.f k n (rs.map toRl) n (rs.map toRl)) true :=
  evPos rfl (Ev.bind (eqRuleS_ev rs h) (evPos rfl (Ev.now _)))
def shortR (x : S38) : Prop := shortL x.f0 ∧ shortL x.f1 ∧ shortL x.f2 ∧ x.f3.length ≤ 1048576
theorem shortR_of {x : S35} (h : wtR x ≤ 1048576) : shortR (toRl x) := by
  unfold wtR wtRule at h
  exact ⟨shortL_of (xs := x.f0) (by omega), shortL_of (xs := x.f1) (by omega), shortL_of (xs := x.f2) (by omega), by show x.f3.length ≤ _; omega⟩
def lookOk (n : ByteArray) (rs : List S38) : Bool := decide (isNm n) && (decide (rs.length ≤ 40) && rs.all okR)
theorem specLook_ev (n : ByteArray) (rs : List S38) (hl : rs.length ≤ 1048576) (hs : ∀ x ∈ rs, shortR x) : Ev (fun k => spec_l25Lookups.f k [⟨n, rs⟩]) (lookOk n rs) := by
  have fin : Ev (fun k => spec_l25Lookups.l0 k [(⟨n, rs⟩ : S61)] 1) true := Ev.step (f := fun _ => some true) (fun k => by
    simp only [spec_l25Lookups.l0]
    rw [if_neg (by simp)]
    rfl) (Ev.now _)
  have rules : ∀ (d i : Nat), i + d = rs.length → Ev (fun k => spec_l25Lookups.l2 k [(⟨n, rs⟩ : S61)] 0 (i : Int)) ((rs.drop i).all okR) := by
    intro d
    induction d with
    | zero =>
      intro i h
      rw [List.drop_of_length_le (by omega), List.all_nil]
      refine Ev.step (fun k => ?_) fin
      simp only [spec_l25Lookups.l2]
      rw [if_pos (by omega), if_pos (by simp), show (rd_T61 [(⟨n, rs⟩ : S61)] 0).f1 = rs from rfl, if_neg (by omega), w64 (by omega) (by omega)]
      rfl
    | succ d ih =>
      intro i h
      have hi : i < rs.length := by omega
      have hr := hs rs[i] (List.getElem_mem hi)
      rw [List.drop_eq_getElem_cons hi, List.all_cons]
      refine Ev.step (f := fun k => (spec_l25Rule_at.f k rs (i : Int)).bind fun t => if t = true then spec_l25Lookups.l2 k [(⟨n, rs⟩ : S61)] 0 ((i + 1 : Nat) : Int) else some false) (fun k => ?_) ?_
      · simp only [spec_l25Lookups.l2]
        rw [if_pos (by omega), if_pos (by simp), show (rd_T61 [(⟨n, rs⟩ : S61)] 0).f1 = rs from rfl, if_pos (by omega), if_pos (by omega), w64 (x := (i : Int) + 1) (by omega) (by omega)]
        push_cast
        rfl
      · refine Ev.bind (specRule_ev rs (i : Int) rs[i].f0 rs[i].f1 rs[i].f2 rs[i].f3 (by rw [rdU_get hi]) hr.1 hr.2.1 hr.2.2.1 hr.2.2.2) ?_
        rw [show okR rs[i] = ruleOk rs[i].f0 rs[i].f1 rs[i].f2 rs[i].f3 from rfl]
        cases ruleOk rs[i].f0 rs[i].f1 rs[i].f2 rs[i].f3 with
        | false => exact evNeg (by simp) (by simpa using Ev.now false)
        | true => exact evPos rfl (by simpa using ih (i + 1) (by omega))
  have j1 : ∀ b : Bool, Ev (fun k => spec_l25Lookups.j1 k [(⟨n, rs⟩ : S61)] 0 b) (!b && rs.all okR) := by
    intro b
    cases b with
    | true => exact Ev.step (f := fun _ => some false) (fun k => by simp [spec_l25Lookups.j1]) (Ev.now _)
    | false =>
      refine Ev.step (fun k => by simp only [spec_l25Lookups.j1]; rw [if_neg (by simp)]) ?_
      refine Ev.step (fun k => by simp only [spec_l25Lookups.l1]; rw [if_neg (by omega)]) ?_
      have := rules rs.length 0 (by omega)
      rw [List.drop_zero] at this
      simpa using this
  refine Ev.step (fun k => by
    simp only [spec_l25Lookups.f, spec_l25Lookups.l0]
    rw [if_pos (by simp), if_pos (by omega), show (rd_T61 [(⟨n, rs⟩ : S61)] 0).f0 = n from rfl, show (rd_T61 [(⟨n, rs⟩ : S61)] 0).f1 = rs from rfl]) ?_
  refine Ev.bind (specName_ev n) ?_
  unfold lookOk
  by_cases hn : isNm n
  · rw [decide_eq_true hn, Bool.true_and]
    refine evPos rfl ?_
    have := j1 (decide ((rs.length : Int) > 40))
    rw [show (!decide ((rs.length : Int) > 40)) = decide (rs.length ≤ 40) by rw [Bool.eq_iff_iff]; simp; omega] at this
    exact this
  · rw [decide_eq_false hn, Bool.false_and]
    exact evNeg (by simp) (j1 true)
theorem implLook_ev (n : ByteArray) (rs : List S38) (hl : rs.length ≤ 1048576) (hs : ∀ x ∈ rs, shortR x) : Ev (fun k => impl_validLookup.f k n rs) (lookOk n rs) := by
  unfold impl_validLookup.f lookOk
  refine Ev.bind (implName_ev n) ?_
  by_cases hn : isNm n
  · rw [decide_eq_true hn, Bool.true_and]
    refine evPos rfl ?_
    by_cases h4 : rs.length ≤ 40
    · rw [decide_eq_true h4, Bool.true_and]
      refine evPos (by omega) ?_
      obtain ⟨r, hr, hr2⟩ := ev_first (fun k i => impl_Rule_by_impl_validLookup_1_145.l0 k rs (rs.length : Int) i) rs (fun k x => impl_validLookup_1.f k x.f0 x.f1 x.f2 x.f3) (fun x => !okR x) (fun k => by
          simp only [impl_Rule_by_impl_validLookup_1_145.l0]
          rw [if_neg (by omega)]) (fun k i hi => by
          simp only [impl_Rule_by_impl_validLookup_1_145.l0]
          rw [if_pos (by omega), if_pos (by omega), if_pos (by omega), rdU_get hi, w64 (by omega) (by omega)]
          push_cast
          rfl) (fun x hx => by
          have := hs x hx
          exact Ev.bind (implRule_ev x.f0 x.f1 x.f2 x.f3 this.1 this.2.1 this.2.2.1 this.2.2.2) (Ev.now _))
      have e : rs.all okR = !(decide (r ≥ 0)) := by
        rw [hr2, List.not_any_eq_all_not]
        simp
      rw [e]
      exact Ev.bind (Ev.bind hr (Ev.now _)) (Ev.now _)
    · rw [decide_eq_false h4, Bool.false_and]
      exact evNeg (by omega) (Ev.now _)
  · rw [decide_eq_false hn, Bool.false_and]
    exact evNeg (by simp) (Ev.now _)
/-- The first place at which a test answers 'true', or -1. -/
def firstIdx {α : Type} (P : α → Bool) : List α → Nat → Int
  | [], _ => -1
  | x :: xs, i => if P x = true then (i : Int) else firstIdx P xs (i + 1)
theorem ev_firstIdx {α : Type} (L : Nat → Int → Option Int) (xs : List α) (F : Nat → α → Option Bool) (P : α → Bool)
    (stop : ∀ k, L (k + 1) (xs.length : Int) = some (-1))
    (step : ∀ k (i : Nat) (h : i < xs.length), L (k + 1) (i : Int) = (F k xs[i]).bind fun b => if b = true then some (i : Int) else L k ((i + 1 : Nat) : Int))
    (hF : ∀ x ∈ xs, Ev (fun k => F k x) (P x)) : Ev (fun k => L k 0) (firstIdx P xs 0) := by
  have key : ∀ (d i : Nat), i + d = xs.length → Ev (fun k => L k (i : Int)) (firstIdx P (xs.drop i) i) := by
    intro d
    induction d with
    | zero =>
      intro i h
      obtain rfl : i = xs.length := by omega
      rw [List.drop_of_length_le (by omega)]
      exact Ev.step (f := fun _ => some _) (fun k => stop k) (Ev.now _)
    | succ d ih =>
      intro i h
      have hi : i < xs.length := by omega
      rw [List.drop_eq_getElem_cons hi, firstIdx]
      refine Ev.step (fun k => step k i hi) (Ev.bind (hF _ (List.getElem_mem hi)) ?_)
      cases hp : P xs[i] with
      | true => rw [if_pos rfl]; exact evPos rfl (Ev.now _)
      | false => rw [if_neg (by simp)]; exact evNeg (by simp) (ih (i + 1) (by omega))
  have := key xs.length 0 (by omega)
  rw [List.drop_zero] at this
  exact this
-- part: marks
/-- A row of marks: c numbers an element. -/
def mkRow {α : Type} (m : Int → α) (s : Int) (c n : Nat) : List α := (List.range n).map (fun i => m (s + (i : Nat) * c))
theorem mkRow_length {α : Type} (m : Int → α) (s : Int) (c n : Nat) : (mkRow m s c n).length = n := by simp [mkRow]
theorem mk_bound {c n : Nat} (hn : n ≤ 1099511627776) (hc : c ≤ 16) : ∀ i : Nat, i ≤ n → (i : Int) * c ≤ 17592186044416 ∧ 0 ≤ (i : Int) * c := by
  intro i hi
  have h2 : i * c ≤ n * 16 := Nat.mul_le_mul hi hc
  have h3 : ((i * c : Nat) : Int) = (i : Int) * c := by push_cast; rfl
  constructor
  · rw [← h3]; omega
  · rw [← h3]; omega
theorem mk_next (s : Int) (c i : Nat) : s + (i : Int) * c + c = s + ((i + 1 : Nat) : Int) * c := by
  push_cast
  rw [Int.add_mul, Int.one_mul]; omega
theorem ev_mark {α : Type} (L : Nat → List α → Int → Int → Option (Int × List α)) (m : Int → α) (c n : Nat) (hn : n ≤ 1099511627776) (hc : c ≤ 16)
    (stopL : ∀ k xs s, xs.length = n → L (k + 1) xs s (n : Int) = some (s, xs))
    (stepL : ∀ k xs s (i : Nat), xs.length = n → i < n → 0 ≤ s → s ≤ 1152921504606846976 → L (k + 1) xs s (i : Int) = L k (xs.set i (m s)) (s + c) ((i + 1 : Nat) : Int))
    (xs : List α) (hl : xs.length = n) (s : Int) (h0 : 0 ≤ s) (h1 : s ≤ 1099511627776) : Ev (fun k => L k xs s 0) (s + n * c, mkRow m s c n) := by
  have hb := mk_bound hn hc
  have key : ∀ (d i : Nat) (xs : List α), i + d = n → xs.length = n → xs.take i = mkRow m s c i → Ev (fun k => L k xs (s + (i : Int) * c) (i : Int)) (s + n * c, mkRow m s c n) := by
    intro d
    induction d with
    | zero =>
      intro i xs h hl ht
      obtain rfl : i = n := by omega
      refine Ev.step (f := fun _ => some _) (fun k => ?_) (Ev.now _)
      rw [stopL k xs _ hl]
      rw [List.take_of_length_le (by omega)] at ht
      rw [ht]
    | succ d ih =>
      intro i xs h hl ht
      have hi : i < n := by omega
      have := hb i (by omega)
      refine Ev.step (fun k => stepL k xs _ i hl hi (by omega) (by omega)) ?_
      rw [mk_next]
      refine ih (i + 1) _ (by omega) (by simpa using hl) ?_
      unfold mkRow at ht ⊢
      rw [List.range_succ, List.map_append, ← ht]
      apply List.ext_getElem
      · simp; omega
      · intro j h1 h2
        simp at h1
        simp only [List.getElem_take, List.getElem_set, List.getElem_append, List.length_take]
        by_cases hj : i = j
        · subst hj
          rw [if_pos rfl, dif_neg (by omega)]
          simp [show min i xs.length = i by omega]
        · rw [if_neg hj, dif_pos (by omega)]
  simpa using key n 0 xs (by omega) hl (by simp [mkRow])
theorem ev_held {α : Type} (H : Nat → List α → Int → Int → Option Int) (m : Int → α) (c n : Nat) (hn : n ≤ 1099511627776) (hc : c ≤ 16)
    (stopH : ∀ k ys s, ys.length = n → H (k + 1) ys s (n : Int) = some s)
    (stepH : ∀ k ys s (i : Nat) (h : i < ys.length), ys.length = n → 0 ≤ s → s ≤ 1152921504606846976 → ys[i] = m s → H (k + 1) ys s (i : Int) = H k ys (s + c) ((i + 1 : Nat) : Int))
    (s : Int) (h0 : 0 ≤ s) (h1 : s ≤ 1099511627776) : Ev (fun k => H k (mkRow m s c n) s 0) (s + n * c) := by
  have hb := mk_bound hn hc
  have key : ∀ (d i : Nat), i + d = n → Ev (fun k => H k (mkRow m s c n) (s + (i : Int) * c) (i : Int)) (s + n * c) := by
    intro d
    induction d with
    | zero =>
      intro i h
      obtain rfl : i = n := by omega
      exact Ev.step (f := fun _ => some _) (fun k => stopH k _ _ (mkRow_length ..)) (Ev.now _)
    | succ d ih =>
      intro i h
      have hi : i < n := by omega
      have := hb i (by omega)
      refine Ev.step (fun k => stepH k _ _ i (by rw [mkRow_length]; exact hi) (mkRow_length ..) (by omega) (by omega) (by simp [mkRow])) ?_
      rw [mk_next]
      exact ih (i + 1) (by omega)
  simpa using key n 0 (by omega)
-- part: itemLists
theorem rdI_get {xs : List S107} {i : Nat} (h : i < xs.length) : rd_T107 xs (i : Int) = xs[i] := by
  simp [rd_T107, h]
theorem rdJ_get {xs : List S109} {i : Nat} (h : i < xs.length) : rd_T109 xs (i : Int) = xs[i] := by
  simp [rd_T109, h]
def toI (x : S109) : S107 := ⟨x.f0, x.f1, x.f2⟩
theorem toItemS_ev (xs : List S109) (h : xs.length ≤ 1048576) : Ev (fun k => laws_toItemS.f k xs) (xs.map toI) := by
  have := ev_copy (fun k out i => laws_toItemS.l0 k xs out i) xs (fun _ x => some (toI x)) toI (fun k out ho => by
      simp only [laws_toItemS.l0]
      rw [if_neg (by omega)]) (fun k out i hi ho => by
      simp only [laws_toItemS.l0, laws_toItem.f, Option.bind_some]
      rw [if_pos (by omega), if_pos (by omega), if_pos (by omega), rdJ_get hi, w64 (by omega) (by omega)]
      simp only [Int.toNat_natCast]
      push_cast
      rfl) (fun x hx => Ev.now _) (List.replicate xs.length z107) (by simp)
  refine Ev.congr (fun k => ?_) this
  unfold laws_toItemS.f
  rw [if_pos (by omega), if_pos (by omega)]
  simp
theorem eqItemS_ev (xs : List S107) (h : xs.length ≤ 1099511627776) : Ev (fun k => laws_eqItemS.f k xs xs) true := by
  have := ev_all (fun k i => laws_eqItemS.l0 k xs xs i) xs (fun _ _ => some true) (fun _ => true) true (fun k => by
      simp only [laws_eqItemS.l0]
      rw [if_neg (by omega)]) (fun k i hi => by
      simp only [laws_eqItemS.l0, laws_eqItem.f]
      rw [if_pos (by omega), if_pos (by omega), if_pos (by omega)]
      simp only [if_true, Option.bind_some]
      rw [w64 (by omega) (by omega)]
      push_cast
      rfl) (fun x hx => Ev.now _)
  rw [Bool.and_true, show (xs.all fun _ => true) = true by simp] at this
  refine Ev.congr (fun k => ?_) this
  unfold laws_eqItemS.f
  rw [if_pos rfl]
theorem szItemS_g (xs : List S109) (hl : xs.length ≤ 9223372036854775807) (s : Int) (h0 : 0 ≤ s) (h1 : s ≤ 1048576) : laws_szItemS.f xs s = some (less s xs.length) := by
  unfold laws_szItemS.f less
  rw [w64 (by omega) (by omega)]
  by_cases h : s < xs.length
  · rw [if_pos (by omega), if_pos h]
  · rw [if_neg (by omega), if_neg h]
theorem szItemS_f (xs : List S109) (hl : xs.length ≤ 9223372036854775807) : laws_szItemS.f xs 1048576 = some (less 1048576 xs.length) := szItemS_g xs hl 1048576 (by omega) (by omega)
-- part: runs
/-- What one place of a run obeys; p: the end of what lies before it. -/
def runAt (x : S107) (p : Int) : Prop := (0 ≤ x.f0 ∧ x.f0 ≤ 39) ∧ (p ≤ x.f1 ∧ x.f1 ≤ 262144) ∧ (0 ≤ x.f2 ∧ x.f2 ≤ 262144)
instance (x : S107) (p : Int) : Decidable (runAt x p) := by unfold runAt; infer_instance
def runFrom : List S107 → Int → Bool
  | [], _ => true
  | x :: xs, p => decide (runAt x p) && runFrom xs (x.f1 + x.f2)
theorem specRun_l0 (xs : List S107) (hn : xs.length ≤ 1048576) : ∀ (d i : Nat) (p : Int), i + d = xs.length → 0 ≤ p → p ≤ 524288 →
    Ev (fun k => spec_l26Run.l0 k xs 40 p (i : Int)) (runFrom (xs.drop i) p && decide (xs.length ≤ 60)) := by
  intro d
  induction d with
  | zero =>
    intro i p h h0 h1
    refine Ev.step (f := fun _ => some _) (fun k => ?_) (Ev.now _)
    simp only [spec_l26Run.l0]
    rw [if_neg (by omega), List.drop_of_length_le (by omega)]
    by_cases h2 : xs.length ≤ 60
    · rw [if_pos (by omega)]; simp [runFrom, h2]
    · rw [if_neg (by omega)]; simp [runFrom, h2]
  | succ d ih =>
    intro i p h h0 h1
    have hi : i < xs.length := by omega
    rw [List.drop_eq_getElem_cons hi]
    by_cases hr : runAt xs[i] p
    · have hr2 := hr
      obtain ⟨r1, r2, r3⟩ := hr2
      rw [runFrom, decide_eq_true hr, Bool.true_and]
      refine Ev.step (fun k => ?_) (ih (i + 1) (xs[i].f1 + xs[i].f2) (by omega) (by omega) (by omega))
      simp only [spec_l26Run.l0, in_f, Option.bind_some]
      rw [if_pos (by omega), if_pos (by omega), rdI_get hi, w64 (x := (40 : Int) - 1) (by omega) (by omega), w64 (x := xs[i].f1 + xs[i].f2) (by omega) (by omega), w64 (x := (i : Int) + 1) (by omega) (by omega), decide_eq_true (show 0 ≤ xs[i].f0 ∧ xs[i].f0 ≤ 40 - 1 by omega), decide_eq_true r2, decide_eq_true r3, if_pos rfl, if_pos rfl, if_pos rfl]
      push_cast
      rfl
    · rw [runFrom, decide_eq_false hr, Bool.false_and, Bool.false_and]
      refine Ev.step (f := fun _ => some false) (fun k => ?_) (Ev.now _)
      simp only [spec_l26Run.l0, in_f, Option.bind_some]
      rw [if_pos (by omega), if_pos (by omega), rdI_get hi, w64 (x := (40 : Int) - 1) (by omega) (by omega)]
      by_cases r1 : 0 ≤ xs[i].f0 ∧ xs[i].f0 ≤ 40 - 1
      · rw [decide_eq_true r1, if_pos rfl]
        by_cases r2 : p ≤ xs[i].f1 ∧ xs[i].f1 ≤ 262144
        · rw [decide_eq_true r2, if_pos rfl]
          by_cases r3 : 0 ≤ xs[i].f2 ∧ xs[i].f2 ≤ 262144
          · exact absurd ⟨⟨r1.1, by omega⟩, r2, r3⟩ hr
          · rw [decide_eq_false r3, if_neg (by simp)]
        · rw [decide_eq_false r2, if_neg (by simp)]
      · rw [decide_eq_false r1, if_neg (by simp)]
theorem implRun_l0 (xs : List S107) (hn : xs.length ≤ 1048576) : ∀ (d i : Nat) (p : Int), i + d = xs.length → (i = 0 → p = 0) → (∀ j : Nat, i = j + 1 → ∃ h : j < xs.length, p = xs[j].f1 + xs[j].f2 ∧ 0 ≤ p ∧ p ≤ 524288) →
    Ev (fun k => impl_ValidRun.l0 k xs 40 xs (xs.length : Int) (i : Int)) (runFrom (xs.drop i) p) := by
  intro d
  induction d with
  | zero =>
    intro i p h h0 hj
    refine Ev.step (f := fun _ => some _) (fun k => ?_) (Ev.now _)
    simp only [impl_ValidRun.l0]
    rw [if_neg (by omega), List.drop_of_length_le (by omega)]
    rfl
  | succ d ih =>
    intro i p h h0 hj
    have hi : i < xs.length := by omega
    have hp : 0 ≤ p ∧ p ≤ 524288 := by
      cases i with
      | zero => have := h0 rfl; omega
      | succ j => obtain ⟨_, _, h2⟩ := hj j rfl; exact h2
    rw [List.drop_eq_getElem_cons hi]
    have bad : ∀ v0 v1 v2, Ev (fun k => impl_ValidRun.j2 k xs 40 (i : Int) xs (xs.length : Int) (i : Int) true v0 v1 v2) false := fun _ _ _ => Ev.step (f := fun _ => some false) (fun k => by simp [impl_ValidRun.j2]) (Ev.now _)
    refine Ev.step (fun k => by
      simp only [impl_ValidRun.l0]
      rw [if_pos (by omega), if_pos (by omega), if_pos (by omega), rdI_get hi]) ?_
    by_cases a1 : xs[i].f0 < 0
    · rw [runFrom, decide_eq_false (fun h : runAt xs[i] p => by have := h.1; omega), Bool.false_and]
      exact evPos a1 (bad _ _ _)
    refine evNeg a1 ?_
    by_cases a2 : xs[i].f0 ≥ 40
    · rw [runFrom, decide_eq_false (fun h : runAt xs[i] p => by have := h.1; omega), Bool.false_and]
      exact evPos a2 (bad _ _ _)
    refine evNeg a2 ?_
    by_cases a3 : xs[i].f1 < 0
    · rw [runFrom, decide_eq_false (fun h : runAt xs[i] p => by have := h.2.1; omega), Bool.false_and]
      exact evPos a3 (bad _ _ _)
    refine evNeg a3 ?_
    by_cases a4 : xs[i].f1 > 262144
    · rw [runFrom, decide_eq_false (fun h : runAt xs[i] p => by have := h.2.1; omega), Bool.false_and]
      exact evPos a4 (bad _ _ _)
    refine evNeg a4 ?_
    by_cases a5 : xs[i].f2 < 0
    · rw [runFrom, decide_eq_false (fun h : runAt xs[i] p => by have := h.2.2; omega), Bool.false_and]
      exact evPos a5 (bad _ _ _)
    refine evNeg a5 ?_
    by_cases a6 : xs[i].f2 > 262144
    · rw [runFrom, decide_eq_false (fun h : runAt xs[i] p => by have := h.2.2; omega), Bool.false_and]
      rw [decide_eq_true a6]
      exact bad _ _ _
    rw [decide_eq_false a6]
    have go : Ev (fun k => impl_ValidRun.l0 k xs 40 xs (xs.length : Int) ((i + 1 : Nat) : Int)) (runFrom (xs.drop (i + 1)) (xs[i].f1 + xs[i].f2)) :=
      ih (i + 1) (xs[i].f1 + xs[i].f2) (by omega) (by omega) (fun j e => by
        obtain rfl : j = i := by omega
        exact ⟨hi, rfl, by omega, by omega⟩)
    cases i with
    | zero =>
      have e := h0 rfl
      subst e
      rw [runFrom, decide_eq_true (show runAt xs[0] 0 from ⟨by omega, by omega, by omega⟩), Bool.true_and]
      refine Ev.step (fun k => ?_) go
      simp only [impl_ValidRun.j2]
      rw [if_neg (by simp), if_neg (by omega), w64 (by omega) (by omega)]
      rfl
    | succ j =>
      obtain ⟨hj1, e, h2⟩ := hj j rfl
      by_cases a7 : xs[j + 1].f1 < p
      · rw [runFrom, decide_eq_false (fun h : runAt xs[j + 1] p => by have := h.2.1; omega), Bool.false_and]
        refine Ev.step (f := fun _ => some false) (fun k => ?_) (Ev.now _)
        simp only [impl_ValidRun.j2]
        rw [if_neg (by simp), if_pos (by omega), w64 (x := ((j + 1 : Nat) : Int) - 1) (by omega) (by omega), if_pos (by omega), if_pos (by omega), show (((j + 1 : Nat) : Int) - 1) = (j : Int) by omega, rdI_get hj1, ← e, w64 (x := p) (by omega) (by omega), if_pos a7]
      · rw [runFrom, decide_eq_true (show runAt xs[j + 1] p from ⟨by omega, by omega, by omega⟩), Bool.true_and]
        refine Ev.step (fun k => ?_) go
        simp only [impl_ValidRun.j2]
        rw [if_neg (by simp), if_pos (by omega), w64 (x := ((j + 1 : Nat) : Int) - 1) (by omega) (by omega), if_pos (by omega), if_pos (by omega), show (((j + 1 : Nat) : Int) - 1) = (j : Int) by omega, rdI_get hj1, ← e, w64 (x := p) (by omega) (by omega), if_neg a7, w64 (x := ((j + 1 : Nat) : Int) + 1) (by omega) (by omega)]
        push_cast
        rfl
theorem specAny_ev (ys : List S107) (hy : ys.length ≤ 1048576) : Ev (fun k => spec_l26Any.f k ys) (runFrom ys 0 && decide (ys.length ≤ 60)) := Ev.bind (by have := specRun_l0 ys hy ys.length 0 0 (by omega) (by omega) (by omega); rw [List.drop_zero] at this; exact this) (Ev.now _)
theorem implValidRun_ev (ys : List S107) (hy : ys.length ≤ 1048576) : Ev (fun k => impl_ValidRun.f k ys 40) (runFrom ys 0 && decide (ys.length ≤ 60)) := by
  refine evNeg (by omega) ?_
  by_cases h6 : ys.length ≤ 60
  · rw [decide_eq_true h6, Bool.and_true, decide_eq_false (show ¬ (ys.length : Int) > 60 by omega)]
    refine Ev.step (fun k => by simp only [impl_ValidRun.j0]; rw [if_neg (by simp)]) ?_
    have := implRun_l0 ys hy ys.length 0 0 (by omega) (by simp) (by simp)
    rw [List.drop_zero] at this
    exact this
  · rw [decide_eq_false h6, Bool.and_false, decide_eq_true (show (ys.length : Int) > 60 by omega)]
    exact Ev.step (f := fun _ => some false) (fun k => by simp [impl_ValidRun.j0]) (Ev.now _)
-- part: has
theorem l00Has_l0 (xs : List Int) (v : Int) (hn : xs.length ≤ 1048576) : ∀ (d i : Nat), i + d = xs.length → Ev (fun k => spec_l00Has.l0 k xs v (i : Int)) (decide (v ∈ xs.drop i)) := by
  intro d
  induction d with
  | zero =>
    intro i h
    refine Ev.step (f := fun _ => some _) (fun k => ?_) (Ev.now _)
    simp only [spec_l00Has.l0]
    rw [if_neg (by omega)]
    simp [List.drop_of_length_le (by omega : xs.length ≤ i)]
  | succ d ih =>
    intro i h
    have hi : i < xs.length := by omega
    rw [List.drop_eq_getElem_cons hi]
    by_cases e : xs[i] = v
    · refine Ev.step (f := fun _ => some _) (fun k => ?_) (Ev.now _)
      simp only [spec_l00Has.l0]
      rw [if_pos (by omega), if_pos (by omega), rd_get hi, if_pos e]
      simp [e]
    · have e2 : decide (v ∈ xs[i] :: xs.drop (i + 1)) = decide (v ∈ xs.drop (i + 1)) := by
        rw [decide_eq_decide, List.mem_cons]
        exact ⟨fun h => h.resolve_left (fun h => e h.symm), .inr⟩
      rw [e2]
      refine Ev.step (fun k => ?_) (ih (i + 1) (by omega))
      simp only [spec_l00Has.l0]
      rw [if_pos (by omega), if_pos (by omega), rd_get hi, if_neg e, w64 (by omega) (by omega)]
      push_cast
      rfl
theorem l00Has_ev (xs : List Int) (v : Int) (hn : xs.length ≤ 1048576) : Ev (fun k => spec_l00Has.f k xs v) (decide (v ∈ xs)) := l00Has_l0 xs v hn xs.length 0 (by omega)
-- part: index
/-- The first place of a number, or -1. -/
def isFirst (xs : List Int) (v r : Int) : Prop := (r = -1 ∧ v ∉ xs) ∨ ∃ j : Nat, ∃ h : j < xs.length, r = j ∧ xs[j] = v ∧ v ∉ xs.take j
theorem isFirst_none {xs : List Int} {v r : Int} (h : v ∉ xs) (hr : isFirst xs v r) : r = -1 := by
  rcases hr with ⟨e, _⟩ | ⟨j, hj, _, e, _⟩
  · exact e
  · exact absurd (e ▸ List.getElem_mem hj) h
theorem isFirst_here {xs : List Int} {v r : Int} {i : Nat} (hi : i < xs.length) (hv : v ∉ xs.take i) (e : xs[i] = v) (hr : isFirst xs v r) : r = i := by
  rcases hr with ⟨_, h⟩ | ⟨j, hj, rfl, e2, h2⟩
  · exact absurd (e ▸ List.getElem_mem hi) h
  · rcases Nat.lt_trichotomy i j with h | h | h
    · refine absurd ?_ h2
      rw [← e]
      exact List.mem_take_iff_getElem.2 ⟨i, by omega, rfl⟩
    · rw [h]
    · refine absurd ?_ hv
      rw [← e2]
      exact List.mem_take_iff_getElem.2 ⟨j, by omega, rfl⟩
/-- A place of a number, or -1. -/
def isIndex (xs : List Int) (v r : Int) : Prop := (r = -1 ∧ v ∉ xs) ∨ ∃ j : Nat, ∃ h : j < xs.length, r = j ∧ xs[j] = v
theorem index_l0 (xs : List Int) (v : Int) (hn : xs.length ≤ 1048576) : ∀ (d i : Nat), i + d = xs.length → v ∉ xs.take i → ∃ r, Ev (fun k => slices_Index_int64_int64.l0 k xs v (xs.length : Int) (i : Int)) r ∧ isFirst xs v r := by
  intro d
  induction d with
  | zero =>
    intro i h hv
    refine ⟨-1, Ev.step (f := fun _ => some _) (fun k => ?_) (Ev.now _), .inl ⟨rfl, ?_⟩⟩
    · simp only [slices_Index_int64_int64.l0]
      rw [if_neg (by omega)]
    · rwa [List.take_of_length_le (by omega)] at hv
  | succ d ih =>
    intro i h hv
    have hi : i < xs.length := by omega
    by_cases e : v = xs[i]
    · refine ⟨i, Ev.step (f := fun _ => some _) (fun k => ?_) (Ev.now _), .inr ⟨i, hi, rfl, e.symm, hv⟩⟩
      simp only [slices_Index_int64_int64.l0]
      rw [if_pos (by omega), if_pos (by omega), if_pos (by omega), rd_get hi, if_pos e]
    · obtain ⟨r, hr, hr2⟩ := ih (i + 1) (by omega) (by
        rw [List.take_succ_eq_append_getElem hi, List.mem_append]
        simp [hv, e])
      refine ⟨r, Ev.step (fun k => ?_) hr, hr2⟩
      simp only [slices_Index_int64_int64.l0]
      rw [if_pos (by omega), if_pos (by omega), if_pos (by omega), rd_get hi, if_neg e, w64 (by omega) (by omega)]
      push_cast
      rfl
theorem indexFirst_ev (xs : List Int) (v : Int) (hn : xs.length ≤ 1048576) : ∃ r, Ev (fun k => slices_Index_int64_int64.f k xs v) r ∧ isFirst xs v r := index_l0 xs v hn xs.length 0 (by omega) (by simp)
theorem index_ev (xs : List Int) (v : Int) (hn : xs.length ≤ 1048576) : ∃ r, Ev (fun k => slices_Index_int64_int64.f k xs v) r ∧ isIndex xs v r := by
  obtain ⟨r, h, h2⟩ := indexFirst_ev xs v hn
  refine ⟨r, h, ?_⟩
  rcases h2 with h2 | ⟨j, hj, e, e2, _⟩
  · exact .inl h2
  · exact .inr ⟨j, hj, e, e2⟩
-- part: contains
theorem contains_ev (xs : List Int) (v : Int) (hn : xs.length ≤ 1048576) : Ev (fun k => slices_Contains_int64_int64.f k xs v) (decide (v ∈ xs)) := by
  obtain ⟨r, hr, h⟩ := index_ev xs v hn
  have e : decide (v ∈ xs) = decide (r ≥ 0) := by
    rcases h with ⟨rfl, h⟩ | ⟨j, hj, rfl, rfl⟩
    · simp [h]
    · simp
  rw [e]
  exact Ev.bind hr (Ev.now _)
-- part: matches
/-- A place that the classes take, one after the other. -/
def fitL : List (List Int) → List S107 → Bool
  | [], _ => true
  | _ :: _, [] => false
  | c :: cs, x :: xs => decide (x.f0 ∈ c) && fitL cs xs
theorem fitL_short : ∀ (cs : List (List Int)) (xs : List S107), xs.length < cs.length → fitL cs xs = false := by
  intro cs
  induction cs with
  | nil => intro xs h; simp at h
  | cons c cs ih =>
    intro xs h
    cases xs with
    | nil => rfl
    | cons x xs => rw [fitL, ih xs (by simpa using h), Bool.and_false]
theorem fitL_take : ∀ (cs : List (List Int)) (xs : List S107), fitL cs (xs.take cs.length) = fitL cs xs := by
  intro cs
  induction cs with
  | nil => intro xs; simp [fitL]
  | cons c cs ih =>
    intro xs
    cases xs with
    | nil => rfl
    | cons x xs => rw [List.length_cons, List.take_succ_cons, fitL, fitL, ih xs]
def fitZ (cs : List (List Int)) (xs : List S107) (a : Int) : Bool := decide (0 ≤ a) && fitL cs (xs.drop a.toNat)
theorem rdL_get {cs : List (List Int)} {j : Nat} (h : j < cs.length) : rd_L3 cs (j : Int) = cs[j] := by
  simp [rd_L3, h]
theorem specFit_l0 (cs : List (List Int)) (hc : ∀ c ∈ cs, c.length ≤ 1048576) (xs : List S107) (hx : xs.length ≤ 1048576) (a : Nat) (hs : a + cs.length ≤ xs.length) :
    ∀ (d j : Nat), j + d = cs.length → Ev (fun k => spec_l26Fit.l0 k cs xs (a : Int) (j : Int)) (fitL (cs.drop j) (xs.drop (a + j))) := by
  intro d
  induction d with
  | zero =>
    intro j h
    refine Ev.step (f := fun _ => some _) (fun k => ?_) (Ev.now _)
    simp only [spec_l26Fit.l0]
    rw [if_neg (by omega), List.drop_of_length_le (by omega : cs.length ≤ j)]
    rfl
  | succ d ih =>
    intro j h
    have hj : j < cs.length := by omega
    have hi : a + j < xs.length := by omega
    rw [List.drop_eq_getElem_cons hj, List.drop_eq_getElem_cons hi, fitL]
    refine Ev.step (f := fun k => (spec_l00Has.f k cs[j] (xs[a + j].f0)).bind fun t => if t = true then spec_l26Fit.l0 k cs xs (a : Int) ((j + 1 : Nat) : Int) else some false) (fun k => ?_) ?_
    · simp only [spec_l26Fit.l0]
      rw [if_pos (by omega), if_pos (by omega), w64 (x := (a : Int) + j) (by omega) (by omega), if_pos (by omega), if_pos (by omega), rdL_get hj, show ((a : Int) + (j : Int)) = ((a + j : Nat) : Int) by omega, rdI_get hi, w64 (x := (j : Int) + 1) (by omega) (by omega)]
      push_cast
      rfl
    · refine Ev.bind (l00Has_ev _ _ (hc _ (List.getElem_mem hj))) ?_
      by_cases hm : xs[a + j].f0 ∈ cs[j]
      · rw [decide_eq_true hm, Bool.true_and]
        exact evPos rfl (ih (j + 1) (by omega))
      · rw [decide_eq_false hm, Bool.false_and]
        exact evNeg (by simp) (Ev.now _)
theorem fitZ_len {cs : List (List Int)} {xs : List S107} {a : Int} (h0 : a ≤ xs.length) (h : fitZ cs xs a = true) : 0 ≤ a ∧ a + cs.length ≤ xs.length := by
  unfold fitZ at h
  rw [Bool.and_eq_true, decide_eq_true_iff] at h
  refine ⟨h.1, ?_⟩
  by_cases hl : (xs.drop a.toNat).length < cs.length
  · rw [fitL_short _ _ hl] at h; simp at h
  · rw [List.length_drop] at hl; omega
theorem specFit_ev (cs : List (List Int)) (hc : cs.length ≤ 1048576 ∧ ∀ c ∈ cs, c.length ≤ 1048576) (xs : List S107) (hx : xs.length ≤ 1048576) (a : Int) (ha : -1048576 ≤ a ∧ a ≤ xs.length) : Ev (fun k => spec_l26Fit.f k cs xs a) (fitZ cs xs a) := by
  unfold spec_l26Fit.f fitZ
  have bad : Ev (fun k => spec_l26Fit.j0 k cs xs a true) false := Ev.step (f := fun _ => some false) (fun k => by simp [spec_l26Fit.j0]) (Ev.now _)
  by_cases h0 : a < 0
  · rw [decide_eq_false (show ¬ (0 : Int) ≤ a by omega), Bool.false_and]
    exact evPos h0 bad
  · refine evNeg h0 ?_
    obtain ⟨n, rfl⟩ : ∃ n : Nat, a = n := ⟨a.toNat, by omega⟩
    rw [w64 (by omega) (by omega), decide_eq_true (show (0 : Int) ≤ n by omega), Bool.true_and, Int.toNat_natCast]
    by_cases h1 : (n : Int) + cs.length > xs.length
    · rw [decide_eq_true h1, fitL_short _ _ (by rw [List.length_drop]; have := hc.1; omega)]
      · exact bad
    · rw [decide_eq_false h1]
      have := specFit_l0 cs hc.2 xs hx n (by omega) cs.length 0 (by omega)
      exact Ev.step (fun k => by simp only [spec_l26Fit.j0]; rw [if_neg (by simp)]; rfl) this
theorem implIn_l0 (cs : List (List Int)) (hc : cs.length ≤ 1048576 ∧ ∀ c ∈ cs, c.length ≤ 1048576) (xs : List S107) (hs : xs.length = cs.length) :
    ∀ (d j : Nat), j + d = cs.length → Ev (fun k => impl_inClasses.l0 k xs cs (cs.length : Int) (j : Int)) (fitL (cs.drop j) (xs.drop j)) := by
  have hcl := hc.1
  intro d
  induction d with
  | zero =>
    intro j h
    refine Ev.step (f := fun _ => some _) (fun k => ?_) (Ev.now _)
    simp only [impl_inClasses.l0]
    rw [if_neg (by omega), List.drop_of_length_le (by omega : cs.length ≤ j)]
    rfl
  | succ d ih =>
    intro j h
    have hj : j < cs.length := by omega
    have hi : j < xs.length := by omega
    rw [List.drop_eq_getElem_cons hj, List.drop_eq_getElem_cons hi, fitL]
    refine Ev.step (f := fun k => (slices_Contains_int64_int64.f k cs[j] (xs[j].f0)).bind fun t => if t = true then impl_inClasses.l0 k xs cs (cs.length : Int) ((j + 1 : Nat) : Int) else some false) (fun k => ?_) ?_
    · simp only [impl_inClasses.l0]
      rw [if_pos (by omega), if_pos (by omega), if_pos (by omega), if_pos (by omega), rdL_get hj, rdI_get hi, w64 (x := (j : Int) + 1) (by omega) (by omega)]
      push_cast
      rfl
    · refine Ev.bind (contains_ev _ _ (hc.2 _ (List.getElem_mem hj))) ?_
      by_cases hm : xs[j].f0 ∈ cs[j]
      · rw [decide_eq_true hm, Bool.true_and]
        exact evPos rfl (ih (j + 1) (by omega))
      · rw [decide_eq_false hm, Bool.false_and]
        exact evNeg (by simp) (Ev.now _)
theorem implIn_ev (cs : List (List Int)) (hc : cs.length ≤ 1048576 ∧ ∀ c ∈ cs, c.length ≤ 1048576) (xs : List S107) (a b : Nat) (hb : b = a + cs.length) (hs : b ≤ xs.length) : Ev (fun k => impl_inClasses.f k cs ((xs.take b).drop a)) (fitL cs (xs.drop a)) := by
  have hl : ((xs.take b).drop a).length = cs.length := by rw [List.length_drop, List.length_take]; omega
  unfold impl_inClasses.f
  refine evPos (by omega) ?_
  have := implIn_l0 cs hc ((xs.take b).drop a) hl cs.length 0 (by omega)
  rw [List.drop_zero, List.drop_zero] at this
  rw [show fitL cs (xs.drop a) = fitL cs ((xs.take b).drop a) by rw [List.drop_take, show b - a = cs.length by omega, fitL_take]]
  exact this
/-- A rule stands at a place. -/
def ruleAt (p m s : List (List Int)) (xs : List S107) (a : Int) : Bool := fitZ m xs a && (fitZ p xs (a - p.length) && fitZ s xs (a + m.length))
def shortC (cs : List (List Int)) : Prop := cs.length ≤ 1048576 ∧ ∀ c ∈ cs, c.length ≤ 1048576
theorem specMatches_ev (rs : List S38) (i : Int) (p m s : List (List Int)) (o : List Int) (hr : rd_T38 rs i = ⟨p, m, s, o⟩) (hp : shortC p) (hm : shortC m) (hs : shortC s) (xs : List S107) (hx : xs.length ≤ 1048576) (a : Int) (ha : 0 ≤ a ∧ a ≤ xs.length) :
    Ev (fun k => spec_l26Matches_at.f k rs i xs a) (ruleAt p m s xs a) := by
  unfold spec_l26Matches_at.f ruleAt
  simp only [hr]
  have := hp.1
  have := hm.1
  rw [w64 (x := a - (p.length : Int)) (by omega) (by omega), w64 (x := a + (m.length : Int)) (by omega) (by omega)]
  refine Ev.bind (specFit_ev m hm xs hx a (by omega)) ?_
  cases em : fitZ m xs a with
  | false => exact evNeg (by simp) (Ev.now _)
  | true =>
    have := fitZ_len ha.2 em
    refine evPos rfl (Ev.bind (specFit_ev p hp xs hx _ (by omega)) ?_)
    cases fitZ p xs (a - p.length) with
    | false => exact evNeg (by simp) (Ev.now _)
    | true => exact evPos rfl (Ev.bind (specFit_ev s hs xs hx _ (by omega)) (Ev.now _))
theorem implApplies_ev (p m s : List (List Int)) (o : List Int) (hp : shortC p) (hm : shortC m) (hs : shortC s) (xs : List S107) (hx : xs.length ≤ 1048576) (a : Nat) (ha : a < xs.length) :
    Ev (fun k => impl_applies.f k p m s o xs (a : Int)) (ruleAt p m s xs (a : Int)) := by
  have h1 := hp.1
  have h2 := hm.1
  have h3 := hs.1
  unfold impl_applies.f ruleAt
  rw [w64 (x := (a : Int) - (p.length : Int)) (by omega) (by omega), w64 (x := (a : Int) + (m.length : Int)) (by omega) (by omega), w64 (x := (a : Int) + (m.length : Int) + (s.length : Int)) (by omega) (by omega)]
  by_cases c1 : (a : Int) - p.length ≥ 0
  · refine evPos c1 ?_
    by_cases c2 : (a : Int) + m.length + s.length ≤ xs.length
    · refine evPos c2 ?_
      refine evPos (by omega) (evPos (by omega) (evPos (by omega) ?_))
      have e1 : fitZ p xs ((a : Int) - p.length) = fitL p (xs.drop (a - p.length)) := by
        unfold fitZ
        rw [decide_eq_true (by omega), Bool.true_and, show ((a : Int) - p.length).toNat = a - p.length by omega]
      have e2 : fitZ m xs (a : Int) = fitL m (xs.drop a) := by
        unfold fitZ
        rw [decide_eq_true (by omega), Bool.true_and, Int.toNat_natCast]
      have e3 : fitZ s xs ((a : Int) + m.length) = fitL s (xs.drop (a + m.length)) := by
        unfold fitZ
        rw [decide_eq_true (by omega), Bool.true_and, show ((a : Int) + m.length).toNat = a + m.length by omega]
      rw [e1, e2, e3, show ((a : Int)).toNat = a by omega, show ((a : Int) - p.length).toNat = a - p.length by omega, show ((a : Int) + m.length).toNat = a + m.length by omega, show ((a : Int) + m.length + s.length).toNat = a + m.length + s.length by omega]
      refine Ev.bind (implIn_ev p hp xs (a - p.length) a (by omega) (by omega)) ?_
      cases fitL p (xs.drop (a - p.length)) with
      | false => rw [Bool.false_and, Bool.and_false]; exact evNeg (by simp) (Ev.now _)
      | true =>
        rw [Bool.true_and]
        refine evPos rfl (evPos (by omega) (evPos (by omega) (evPos (by omega) (Ev.bind (implIn_ev m hm xs a (a + m.length) rfl (by omega)) ?_))))
        cases fitL m (xs.drop a) with
        | false => exact evNeg (by simp) (Ev.now _)
        | true =>
          refine evPos rfl (evPos (by omega) (evPos (by omega) (Ev.bind (implIn_ev s hs xs (a + m.length) (a + m.length + s.length) rfl (by omega)) (Ev.now _))))
    · have e : (fitZ m xs (a : Int) && (fitZ p xs ((a : Int) - p.length) && fitZ s xs ((a : Int) + m.length))) = false := by
        by_cases c3 : (a : Int) + m.length ≤ xs.length
        · have : fitZ s xs ((a : Int) + m.length) = false := by
            unfold fitZ
            rw [fitL_short _ _ (by rw [List.length_drop]; omega), Bool.and_false]
          rw [this, Bool.and_false, Bool.and_false]
        · have : fitZ m xs (a : Int) = false := by
            unfold fitZ
            rw [fitL_short _ _ (by rw [List.length_drop]; omega), Bool.and_false]
          rw [this, Bool.false_and]
      rw [e]
      exact evNeg c2 (Ev.now _)
  · have : fitZ p xs ((a : Int) - p.length) = false := by
      unfold fitZ
      rw [decide_eq_false (by omega), Bool.false_and]
    rw [this, Bool.false_and, Bool.and_false]
    exact evNeg c1 (Ev.now _)
-- part: the law
def atR (ys : List S107) (a : Int) (x : S38) : Bool := ruleAt x.f0 x.f1 x.f2 ys a
theorem specFor_ev (n : ByteArray) (rs : List S38) (hl : rs.length ≤ 1048576) (hs : ∀ x ∈ rs, shortR x) (ys : List S107) (hy : ys.length ≤ 1048576) (a : Int) (ha : 0 ≤ a ∧ a ≤ ys.length) :
    Ev (fun k => spec_l26For_at.f k [⟨n, rs⟩] 0 ys a) (firstIdx (atR ys a) rs 0) := by
  have := ev_firstIdx (fun k i => spec_l26For_at.l0 k ys a i [(⟨n, rs⟩ : S61)] 0) rs (fun k x => spec_l26Matches_at.f k [x] 0 ys a) (atR ys a) (fun k => by
      simp only [spec_l26For_at.l0]
      rw [show (rd_T61 [(⟨n, rs⟩ : S61)] 0).f1 = rs from rfl, if_neg (by omega)]) (fun k i hi => by
      simp only [spec_l26For_at.l0]
      rw [show (rd_T61 [(⟨n, rs⟩ : S61)] 0).f1 = rs from rfl, if_pos (by omega), if_pos (by omega), w64 (x := (i : Int) + 1) (by omega) (by omega)]
      have e : spec_l26Matches_at.f k rs (i : Int) ys a = spec_l26Matches_at.f k [rs[i]] 0 ys a := by
        unfold spec_l26Matches_at.f
        rw [rdU_get hi]
        rfl
      rw [e]
      push_cast
      rfl) (fun x hx => by
      have := hs x hx
      exact specMatches_ev [x] 0 x.f0 x.f1 x.f2 x.f3 rfl this.1 this.2.1 this.2.2.1 ys hy a ha)
  exact this
theorem implFor_ev (n : ByteArray) (rs : List S38) (hl : rs.length ≤ 1048576) (hs : ∀ x ∈ rs, shortR x) (ys : List S107) (hy : ys.length ≤ 1048576) (a : Nat) (ha : a < ys.length) :
    Ev (fun k => impl_ruleFor.f k n rs ys (a : Int)) (firstIdx (atR ys (a : Int)) rs 0) := by
  have := ev_firstIdx (fun k i => impl_Rule_by_impl_ruleFor_1.l0 k rs (rs.length : Int) i [ys] 0 [(a : Int)] 0) rs (fun k x => impl_ruleFor_1_at.f k x.f0 x.f1 x.f2 x.f3 [ys] 0 [(a : Int)] 0) (atR ys (a : Int)) (fun k => by
      simp only [impl_Rule_by_impl_ruleFor_1.l0]
      rw [if_neg (by omega)]) (fun k i hi => by
      simp only [impl_Rule_by_impl_ruleFor_1.l0]
      rw [if_pos (by omega), if_pos (by omega), if_pos (by omega), rdU_get hi, w64 (x := (i : Int) + 1) (by omega) (by omega)]
      push_cast
      rfl) (fun x hx => by
      have := hs x hx
      exact Ev.bind (implApplies_ev x.f0 x.f1 x.f2 x.f3 this.1 this.2.1 this.2.2.1 ys hy a ha) (Ev.now _))
  exact Ev.bind this (Ev.now _)
def found (r : Int) : Int × Bool := if r < 0 then (0, false) else (r, true)
theorem FnExactRuleFor : Owed := by
  intro n rs xs i wn wr wx wi
  apply Ev.rounds
  have hf : ∀ x ∈ rs, fitR x := fun x hx => by
    have := wr.2 x hx
    exact ⟨⟨this.1.1, fun y hy => (this.1.2 y hy).1⟩, ⟨this.2.1.1, fun y hy => (this.2.1.2 y hy).1⟩, ⟨this.2.2.1.1, fun y hy => (this.2.2.1.2 y hy).1⟩, this.2.2.2.1⟩
  refine Ev.bind (szLookup_ev n rs wn wr.1 hf 1048576 (by omega) (by omega)) ?_
  by_cases h : less 1048576 (wtLook n rs) < 0
  · exact evPos h (Ev.now true)
  refine evNeg h ?_
  have hw : wtLook n rs ≤ 1048576 := by rw [less_neg _ _ (by omega)] at h; omega
  have hw2 : wtRs rs ≤ 1048576 := by unfold wtLook at hw; omega
  obtain ⟨e1, p1, _⟩ := less_then (s := 1048576) (a := wtLook n rs) (b := 0) (by omega) h
  rw [e1]
  refine Ev.step (fun k => by rw [laws_FnExactRuleFor.j0]) ?_
  refine Ev.bind (g := fun _ => _) (by rw [szItemS_g xs wx.1 _ p1 (by omega)]; exact Ev.now _) ?_
  by_cases h' : less (1048576 - (wtLook n rs : Nat)) xs.length < 0
  · exact evPos h' (Ev.now true)
  refine evNeg h' ?_
  have hn : xs.length ≤ 1048576 := by rw [less_neg _ _ p1] at h'; omega
  have t := toLookup_ev n rs hw2
  have u := toItemS_ev xs hn
  have q := eqLookup_ev n rs hw2
  have hl := (wtRs_len hw2).1
  have hs : ∀ x ∈ rs.map toRl, shortR x := fun x hx => by
    obtain ⟨y, hy, rfl⟩ := List.mem_map.1 hx
    exact shortR_of ((wtRs_len hw2).2 y hy)
  obtain ⟨ys, ey⟩ : ∃ ys, ys = xs.map toI := ⟨_, rfl⟩
  rw [← ey] at u
  obtain ⟨ss, es⟩ : ∃ ss, ss = rs.map toRl := ⟨_, rfl⟩
  rw [← es] at t q hs
  have hy : ys.length ≤ 1048576 := by rw [ey, List.length_map]; exact hn
  have hss : ss.length ≤ 1048576 := by rw [es, List.length_map]; exact hl
  have key : ∃ r : Int × Bool, Ev (fun k => spec_RuleFor.f k n ss ys i) r ∧ Ev (fun k => impl_RuleFor.f k n ss ys i) r := by
    have b1 : Ev (fun k => spec_RuleFor.j0 k ys i true n ss) (0, false) := Ev.step (f := fun _ => some (0, false)) (fun k => by simp [spec_RuleFor.j0]) (Ev.now _)
    have b2 : Ev (fun k => impl_RuleFor.j0 k ys i true n ss) (0, false) := Ev.step (f := fun _ => some (0, false)) (fun k => by simp [impl_RuleFor.j0]) (Ev.now _)
    have s1 := specLook_ev n ss hss hs
    have s2 := implLook_ev n ss hss hs
    have s1' : Ev (fun k => spec_l26Lookup_at.f k [⟨n, ss⟩] 0) (lookOk n ss) := Ev.bind s1 (Ev.now _)
    cases e1 : lookOk n ss with
    | false =>
      rw [e1] at s1' s2
      exact ⟨(0, false), Ev.bind s1' (evNeg (by simp) b1), Ev.bind s2 (evNeg (by simp) b2)⟩
    | true =>
      rw [e1] at s1' s2
      have r1 := specAny_ev ys hy
      have r2 := implValidRun_ev ys hy
      cases e2 : (runFrom ys 0 && decide (ys.length ≤ 60)) with
      | false =>
        rw [e2] at r1 r2
        exact ⟨(0, false), Ev.bind s1' (evPos rfl (Ev.bind r1 (evNeg (by simp) b1))), Ev.bind s2 (evPos rfl (Ev.bind r2 (evNeg (by simp) b2)))⟩
      | true =>
        rw [e2] at r1 r2
        have i1 : Ev (fun k => spec_l00In.f i 0 (wrap64 ((ys.length : Int) - 1))) (decide (0 ≤ i ∧ i ≤ (ys.length : Int) - 1)) := by
          rw [w64 (by omega) (by omega), in_f]
          exact Ev.now _
        by_cases hi : 0 ≤ i ∧ i ≤ (ys.length : Int) - 1
        · obtain ⟨m, rfl⟩ : ∃ m : Nat, i = m := ⟨i.toNat, by omega⟩
          rw [decide_eq_true hi] at i1
          refine ⟨found (firstIdx (atR ys (m : Int)) ss 0), Ev.bind s1' (evPos rfl (Ev.bind r1 (evPos rfl (Ev.bind i1 ?_)))), Ev.bind s2 (evPos rfl (Ev.bind r2 (evPos rfl ?_)))⟩
          · refine Ev.step (fun k => by simp only [spec_RuleFor.j0]; rw [if_neg (by simp)]) ?_
            refine Ev.bind (specFor_ev n ss hss hs ys hy (m : Int) (by omega)) ?_
            unfold found
            by_cases hr : firstIdx (atR ys (m : Int)) ss 0 < 0
            · rw [if_pos hr, if_pos hr]; exact Ev.now _
            · rw [if_neg hr, if_neg hr]; exact Ev.now _
          · refine evNeg (by omega) ?_
            rw [decide_eq_false (show ¬ (m : Int) ≥ (ys.length : Int) by omega)]
            refine Ev.step (fun k => by simp only [impl_RuleFor.j0]; rw [if_neg (by simp)]) ?_
            refine Ev.bind (implFor_ev n ss hss hs ys hy m (by omega)) ?_
            unfold found
            refine Ev.bind (g := fun _ => impl_foundIndex.f _) (a := if firstIdx (atR ys (m : Int)) ss 0 < 0 then (0, false) else (firstIdx (atR ys (m : Int)) ss 0, true)) ?_ (Ev.now _)
            unfold impl_foundIndex.f
            by_cases hr : firstIdx (atR ys (m : Int)) ss 0 < 0
            · rw [if_pos hr, if_pos hr]; exact Ev.now _
            · rw [if_neg hr, if_neg hr]; exact Ev.now _
        · rw [decide_eq_false hi] at i1
          refine ⟨(0, false), Ev.bind s1' (evPos rfl (Ev.bind r1 (evPos rfl (Ev.bind i1 b1)))), Ev.bind s2 (evPos rfl (Ev.bind r2 (evPos rfl ?_)))⟩
          by_cases h1 : i < 0
          · exact evPos h1 b2
          · refine evNeg h1 ?_
            rw [decide_eq_true (show i ≥ (ys.length : Int) by omega)]
            exact b2
  obtain ⟨⟨r, b⟩, k1, k2⟩ := key
  refine Ev.step (fun k => by rw [laws_FnExactRuleFor.j1]) (Ev.bind t (Ev.bind u (Ev.bind k1 (Ev.bind t (Ev.bind u (Ev.bind k2 (evPos rfl ?_)))))))
  refine Ev.step (fun k => by rw [laws_FnExactRuleFor.j2]) ?_
  refine evNeg (by rw [bne_self_eq_false]; simp) ?_
  refine Ev.step (fun k => by rw [laws_FnExactRuleFor.j3]) (Ev.bind t (Ev.bind q (evPos rfl ?_)))
  exact Ev.step (fun k => by rw [laws_FnExactRuleFor.j4]) (Ev.bind u (Ev.bind (eqItemS_ev ys (by omega)) (evPos rfl (Ev.now true))))
end Go.Proofs.Ytdahcapolipnbaa.Pure
