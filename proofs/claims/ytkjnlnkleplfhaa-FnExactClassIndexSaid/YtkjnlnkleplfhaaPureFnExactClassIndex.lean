/- The plain statement of FnExactClassIndex: the program and the reference agree on every input that the guards let in. -/
import Derived.Test.YtkjnlnkleplfhaaArgFnExactClassIndex
namespace Go.Proofs.Ytkjnlnkleplfhaa.Pure
open Go.RowKit Go.Proofs.Ytkjnlnkleplfhaa.PFnExactClassIndex Go.Proofs.Ytkjnlnkleplfhaa.ArgFnExactClassIndex Go.Proofs.YtkjnlnkleplfhaaW.PrintWords Go.Proofs.YtkjnlnkleplfhaaW.PrintLast Go.Proofs.YtkjnlnkleplfhaaW.PrintMore
set_option linter.unusedVariables false
set_option linter.unusedSimpArgs false
-- part: base
theorem w64 {x : Int} (h : -9223372036854775808 ≤ x) (h' : x < 9223372036854775808) : wrap64 x = x := by
  unfold wrap64; omega
theorem evPos {α : Type} {c : Prop} [Decidable c] {g f : Nat → Option α} {r : α} (h : c) (k : Ev g r) : Ev (fun n => if c then g n else f n) r := by
  simpa only [if_pos h] using k
theorem evNeg {α : Type} {c : Prop} [Decidable c] {g f : Nat → Option α} {r : α} (h : ¬ c) (k : Ev f r) : Ev (fun n => if c then g n else f n) r := by
  simpa only [if_neg h] using k
theorem rd_get {xs : List Int} {i : Nat} (h : i < xs.length) : rd xs (i : Int) = xs[i] := by
  simp [rd, h]
/-- The numbers from s on, n of them. -/
def marks (s : Int) : Nat → List Int
  | 0 => []
  | n + 1 => s :: marks (s + 1) n
theorem marks_length (s : Int) (n : Nat) : (marks s n).length = n := by
  induction n generalizing s with
  | zero => rfl
  | succ n ih => simp [marks, ih]
theorem marks_get (s : Int) (n : Nat) : ∀ (i : Nat) (h : i < (marks s n).length), (marks s n)[i] = s + i := by
  induction n generalizing s with
  | zero => intro i h; simp [marks] at h
  | succ n ih =>
    intro i h
    cases i with
    | zero => simp [marks]
    | succ i => simp only [marks, List.getElem_cons_succ]; rw [ih]; push_cast; omega
theorem marks_snoc (s : Int) (n : Nat) : marks s (n + 1) = marks s n ++ [s + n] := by
  induction n generalizing s with
  | zero => simp [marks]
  | succ n ih => rw [marks, ih, marks]; simp; omega
-- part: copyInts
theorem toInt64S_l0 (xs : List Int) (hn : xs.length ≤ 1048576) : ∀ (d i : Nat), i + d = xs.length → Ev (fun k => laws_toInt64S.l0 k xs (xs.take i ++ List.replicate d 0) (i : Int)) xs := by
  intro d
  induction d with
  | zero =>
    intro i h
    refine Ev.step (f := fun _ => some xs) (fun k => ?_) (Ev.now _)
    simp only [laws_toInt64S.l0]
    rw [if_neg (by omega)]
    simp [List.take_of_length_le (by omega : xs.length ≤ i)]
  | succ d ih =>
    intro i h
    refine Ev.step (fun k => ?_) (ih (i + 1) (by omega))
    simp only [laws_toInt64S.l0]
    rw [if_pos (by omega), if_pos (by omega), if_pos (by simp; omega), w64 (by omega) (by omega)]
    have e : (xs.take i ++ List.replicate (d + 1) 0).set ((i : Int)).toNat (rd xs i) = xs.take (i + 1) ++ List.replicate d 0 := by
      rw [rd_get (by omega)]
      apply List.ext_getElem
      · simp; omega
      · intro j h1 h2
        simp only [List.getElem_set, List.getElem_append, List.getElem_take, List.getElem_replicate, List.length_take, Int.toNat_natCast]
        by_cases hj : i = j
        · subst hj; simp; omega
        · rw [if_neg hj]
          by_cases hj2 : j < i
          · rw [dif_pos (by omega), dif_pos (by omega)]
          · rw [dif_neg (by omega), dif_neg (by omega)]
    rw [e]
    push_cast
    rfl
theorem toInt64S_ev (xs : List Int) (hn : xs.length ≤ 1048576) : Ev (fun k => laws_toInt64S.f k xs) xs := by
  refine Ev.congr (fun k => ?_) (toInt64S_l0 xs hn xs.length 0 (by omega))
  unfold laws_toInt64S.f
  rw [if_pos (by omega), if_pos (by omega)]
  simp
theorem eqInt64S_l0 (xs : List Int) (hn : xs.length ≤ 1048576) : ∀ (d i : Nat), i + d = xs.length → Ev (fun k => laws_eqInt64S.l0 k xs xs (i : Int)) true := by
  intro d
  induction d with
  | zero =>
    intro i h
    refine Ev.step (f := fun _ => some true) (fun k => ?_) (Ev.now _)
    simp only [laws_eqInt64S.l0]
    rw [if_neg (by omega)]
  | succ d ih =>
    intro i h
    refine Ev.step (fun k => ?_) (ih (i + 1) (by omega))
    simp only [laws_eqInt64S.l0]
    rw [if_pos (by omega), if_pos (by omega), if_pos (by omega), if_pos trivial, w64 (by omega) (by omega)]
    push_cast
    rfl
theorem eqInt64S_ev (xs : List Int) (hn : xs.length ≤ 1048576) : Ev (fun k => laws_eqInt64S.f k xs xs) true := by
  refine Ev.congr (fun k => ?_) (eqInt64S_l0 xs hn xs.length 0 (by omega))
  unfold laws_eqInt64S.f
  rw [if_pos rfl]; rfl
-- part: validClass
/-- What one place of a class obeys. -/
def okAt (xs : List Int) (j : Nat) : Prop := 0 ≤ rd xs j ∧ rd xs j ≤ 39 ∧ (0 < j → rd xs ((j : Int) - 1) < rd xs j)
def VC (xs : List Int) : Prop := ∀ j : Nat, j < xs.length → okAt xs j
theorem l23Ok_l0 (xs : List Int) (hn : xs.length ≤ 1048576) : ∀ (d i : Nat), i + d = xs.length → ∃ b, Ev (fun k => spec_l23Ok.l0 k xs (i : Int)) b ∧ (b = true ↔ ∀ j : Nat, i ≤ j → j < xs.length → okAt xs j) := by
  intro d
  induction d with
  | zero =>
    intro i h
    refine ⟨true, Ev.step (f := fun _ => some true) (fun k => ?_) (Ev.now _), by simp; omega⟩
    simp only [spec_l23Ok.l0]
    rw [if_neg (by omega)]
  | succ d ih =>
    intro i h
    by_cases hok : okAt xs i
    · obtain ⟨b, hb, hbi⟩ := ih (i + 1) (by omega)
      refine ⟨b, Ev.step (fun k => ?_) hb, ?_⟩
      · obtain ⟨o1, o2, o3⟩ := hok
        simp only [spec_l23Ok.l0, spec_l00In.f]
        rw [if_pos (by omega), if_pos (by omega), if_pos o1, decide_eq_true o2]
        simp only [Option.bind_some, if_true]
        rw [w64 (x := (i : Int) + 1) (by omega) (by omega), w64 (x := (i : Int) - 1) (by omega) (by omega)]
        push_cast
        by_cases hi : (i : Int) > 0
        · have := o3 (by omega)
          rw [if_pos hi, if_pos (by omega), if_pos (by omega), if_neg (by omega)]
        · rw [if_neg hi]
      · rw [hbi]
        constructor
        · intro H j h1 h2
          by_cases hj : j = i
          · subst hj; exact hok
          · exact H j (by omega) h2
        · intro H j h1 h2
          exact H j (by omega) h2
    · refine ⟨false, Ev.step (f := fun _ => some false) (fun k => ?_) (Ev.now _), ?_⟩
      · simp only [spec_l23Ok.l0, spec_l00In.f]
        rw [if_pos (by omega), if_pos (by omega)]
        by_cases o1 : rd xs i ≥ 0
        · rw [if_pos o1]
          by_cases o2 : rd xs i ≤ 39
          · rw [decide_eq_true o2]
            simp only [Option.bind_some, if_true]
            rw [w64 (x := (i : Int) - 1) (by omega) (by omega)]
            by_cases hi : (i : Int) > 0
            · rw [if_pos hi, if_pos (by omega), if_pos (by omega), if_pos]
              refine Int.not_lt.1 fun h3 => hok ⟨o1, o2, fun _ => h3⟩
            · exact absurd ⟨o1, o2, fun h => by omega⟩ hok
          · rw [decide_eq_false o2]; simp
        · rw [if_neg o1]; simp
      · simp only [Bool.false_eq_true, false_iff]
        exact fun H => hok (H i (by omega) (by omega))
theorem l23Ok_ev (xs : List Int) (hn : xs.length ≤ 1048576) : ∃ b, Ev (fun k => spec_l23Ok.f k xs) b ∧ (b = true ↔ VC xs) := by
  obtain ⟨b, hb, h⟩ := l23Ok_l0 xs hn xs.length 0 (by omega)
  refine ⟨b, hb, ?_⟩
  rw [h]
  unfold VC
  simp
theorem validClass_l0 (xs : List Int) (hn : xs.length ≤ 1048576) : ∀ (d i : Nat), i + d = xs.length → ∃ b, Ev (fun k => impl_ValidClass.l0 k xs xs (xs.length : Int) (i : Int)) b ∧ (b = true ↔ ∀ j : Nat, i ≤ j → j < xs.length → okAt xs j) := by
  intro d
  induction d with
  | zero =>
    intro i h
    refine ⟨true, Ev.step (f := fun _ => some true) (fun k => ?_) (Ev.now _), by simp; omega⟩
    simp only [impl_ValidClass.l0]
    rw [if_neg (by omega)]
  | succ d ih =>
    intro i h
    by_cases hok : okAt xs i
    · obtain ⟨b, hb, hbi⟩ := ih (i + 1) (by omega)
      refine ⟨b, Ev.step (fun k => ?_) hb, ?_⟩
      · obtain ⟨o1, o2, o3⟩ := hok
        simp only [impl_ValidClass.l0, impl_isGlyphNumber.f]
        rw [if_pos (by omega), if_pos (by omega), if_pos (by omega), if_pos o1, decide_eq_true (by omega)]
        simp only [Option.bind_some, if_true]
        rw [w64 (x := (i : Int) + 1) (by omega) (by omega), w64 (x := (i : Int) - 1) (by omega) (by omega)]
        push_cast
        by_cases hi : (i : Int) > 0
        · have := o3 (by omega)
          rw [if_pos hi, if_pos (by omega), if_pos (by omega), if_neg (by omega)]
        · rw [if_neg hi]
      · rw [hbi]
        constructor
        · intro H j h1 h2
          by_cases hj : j = i
          · subst hj; exact hok
          · exact H j (by omega) h2
        · intro H j h1 h2
          exact H j (by omega) h2
    · refine ⟨false, Ev.step (f := fun _ => some false) (fun k => ?_) (Ev.now _), ?_⟩
      · simp only [impl_ValidClass.l0, impl_isGlyphNumber.f]
        rw [if_pos (by omega), if_pos (by omega), if_pos (by omega)]
        by_cases o1 : rd xs i ≥ 0
        · rw [if_pos o1]
          by_cases o2 : rd xs i ≤ 39
          · rw [decide_eq_true (by omega)]
            simp only [Option.bind_some, if_true]
            rw [w64 (x := (i : Int) - 1) (by omega) (by omega)]
            by_cases hi : (i : Int) > 0
            · rw [if_pos hi, if_pos (by omega), if_pos (by omega), if_pos]
              refine Int.not_lt.1 fun h3 => hok ⟨o1, o2, fun _ => h3⟩
            · exact absurd ⟨o1, o2, fun h => by omega⟩ hok
          · rw [decide_eq_false (by omega)]; simp
        · rw [if_neg o1]; simp
      · simp only [Bool.false_eq_true, false_iff]
        exact fun H => hok (H i (by omega) (by omega))
theorem validClass_ev (xs : List Int) (hn : xs.length ≤ 1048576) : ∃ b, Ev (fun k => impl_ValidClass.f k xs) b ∧ (b = true ↔ VC xs) := by
  obtain ⟨b, hb, h⟩ := validClass_l0 xs hn xs.length 0 (by omega)
  refine ⟨b, hb, ?_⟩
  rw [h]
  unfold VC
  simp
theorem valid_both (xs : List Int) (hn : xs.length ≤ 1048576) : ∃ b, Ev (fun k => spec_l23Ok.f k xs) b ∧ Ev (fun k => impl_ValidClass.f k xs) b ∧ (b = true ↔ VC xs) := by
  obtain ⟨b, h1, h2⟩ := l23Ok_ev xs hn
  obtain ⟨c, h3, h4⟩ := validClass_ev xs hn
  obtain rfl : b = c := by rw [Bool.eq_iff_iff, h2, h4]
  exact ⟨b, h1, h3, h2⟩
-- part: index
/-- The first place of a number, or -1. -/
def isFirst (xs : List Int) (v r : Int) : Prop := (r = -1 ∧ v ∉ xs) ∨ ∃ j : Nat, ∃ h : j < xs.length, r = j ∧ xs[j] = v ∧ v ∉ xs.take j
theorem isFirst_none {xs : List Int} {v r : Int} (h : v ∉ xs) (hr : isFirst xs v r) : r = -1 := by
  rcases hr with ⟨e, _⟩ | ⟨j, hj, _, e, _⟩
  · exact e
  · exact absurd (e ▸ List.getElem_mem hj) h
theorem isFirst_here {xs : List Int} {v r : Int} {i : Nat} (hi : i < xs.length) (hv : v ∉ xs.take i) (e : xs[i] = v) (hr : isFirst xs v r) : r = i := by
  rcases hr with ⟨_, h⟩ | ⟨j, hj, rfl, e2, h2⟩
  · exact absurd (e ▸ List.getElem_mem hi) h
  · rcases Nat.lt_trichotomy i j with h | h | h
    · refine absurd ?_ h2
      rw [← e]
      exact List.mem_take_iff_getElem.2 ⟨i, by omega, rfl⟩
    · rw [h]
    · refine absurd ?_ hv
      rw [← e2]
      exact List.mem_take_iff_getElem.2 ⟨j, by omega, rfl⟩
/-- A place of a number, or -1. -/
def isIndex (xs : List Int) (v r : Int) : Prop := (r = -1 ∧ v ∉ xs) ∨ ∃ j : Nat, ∃ h : j < xs.length, r = j ∧ xs[j] = v
theorem index_l0 (xs : List Int) (v : Int) (hn : xs.length ≤ 1048576) : ∀ (d i : Nat), i + d = xs.length → v ∉ xs.take i → ∃ r, Ev (fun k => slices_Index_int64_int64.l0 k xs v (xs.length : Int) (i : Int)) r ∧ isFirst xs v r := by
  intro d
  induction d with
  | zero =>
    intro i h hv
    refine ⟨-1, Ev.step (f := fun _ => some _) (fun k => ?_) (Ev.now _), .inl ⟨rfl, ?_⟩⟩
    · simp only [slices_Index_int64_int64.l0]
      rw [if_neg (by omega)]
    · rwa [List.take_of_length_le (by omega)] at hv
  | succ d ih =>
    intro i h hv
    have hi : i < xs.length := by omega
    by_cases e : v = xs[i]
    · refine ⟨i, Ev.step (f := fun _ => some _) (fun k => ?_) (Ev.now _), .inr ⟨i, hi, rfl, e.symm, hv⟩⟩
      simp only [slices_Index_int64_int64.l0]
      rw [if_pos (by omega), if_pos (by omega), if_pos (by omega), rd_get hi, if_pos e]
    · obtain ⟨r, hr, hr2⟩ := ih (i + 1) (by omega) (by
        rw [List.take_succ_eq_append_getElem hi, List.mem_append]
        simp [hv, e])
      refine ⟨r, Ev.step (fun k => ?_) hr, hr2⟩
      simp only [slices_Index_int64_int64.l0]
      rw [if_pos (by omega), if_pos (by omega), if_pos (by omega), rd_get hi, if_neg e, w64 (by omega) (by omega)]
      push_cast
      rfl
theorem indexFirst_ev (xs : List Int) (v : Int) (hn : xs.length ≤ 1048576) : ∃ r, Ev (fun k => slices_Index_int64_int64.f k xs v) r ∧ isFirst xs v r := index_l0 xs v hn xs.length 0 (by omega) (by simp)
theorem index_ev (xs : List Int) (v : Int) (hn : xs.length ≤ 1048576) : ∃ r, Ev (fun k => slices_Index_int64_int64.f k xs v) r ∧ isIndex xs v r := by
  obtain ⟨r, h, h2⟩ := indexFirst_ev xs v hn
  refine ⟨r, h, ?_⟩
  rcases h2 with h2 | ⟨j, hj, e, e2, _⟩
  · exact .inl h2
  · exact .inr ⟨j, hj, e, e2⟩
-- part: the law
theorem specIndex_l0 (xs : List Int) (v : Int) (hn : xs.length ≤ 1048576) : ∀ (d i : Nat), i + d = xs.length → v ∉ xs.take i →
    ∀ r, isFirst xs v r → Ev (fun k => spec_ClassIndex.l0 k xs v (i : Int)) (if r < 0 then (0, false) else (r, true)) := by
  intro d
  induction d with
  | zero =>
    intro i h hv r hr
    rw [List.take_of_length_le (by omega)] at hv
    have e := isFirst_none hv hr
    subst e
    refine Ev.step (f := fun _ => some _) (fun k => ?_) (Ev.now _)
    simp only [spec_ClassIndex.l0]
    rw [if_neg (by omega)]
    rfl
  | succ d ih =>
    intro i h hv r hr
    have hi : i < xs.length := by omega
    by_cases e : xs[i] = v
    · have e2 := isFirst_here hi hv e hr
      subst e2
      refine Ev.step (f := fun _ => some _) (fun k => ?_) (Ev.now _)
      simp only [spec_ClassIndex.l0]
      rw [if_pos (by omega), if_pos (by omega), rd_get hi, if_pos e, if_neg (by omega)]
    · refine Ev.step (fun k => ?_) (ih (i + 1) (by omega) (by
        rw [List.take_succ_eq_append_getElem hi, List.mem_append]
        simp [hv, Ne.symm e]) r hr)
      simp only [spec_ClassIndex.l0]
      rw [if_pos (by omega), if_pos (by omega), rd_get hi, if_neg e, w64 (by omega) (by omega)]
      push_cast
      rfl
theorem FnExactClassIndex : Owed := by
  intro xs v _ _
  apply Ev.rounds
  by_cases hn : (xs.length : Int) > 1048576
  · exact evPos hn (Ev.now true)
  refine evNeg hn ?_
  obtain ⟨b, h1, h2, _⟩ := valid_both xs (by omega)
  obtain ⟨r, hr, hf⟩ := indexFirst_ev xs v (by omega)
  have hs := specIndex_l0 xs v (by omega) xs.length 0 (by omega) (by simp) r hf
  have ta := toInt64S_ev xs (by omega)
  have ea := eqInt64S_ev xs (by omega)
  have key : ∃ q : Int × Bool, Ev (fun k => spec_ClassIndex.f k xs v) q ∧ Ev (fun k => impl_ClassIndex.f k xs v) q := by
    cases b with
    | false => exact ⟨(0, false), Ev.bind h1 (evNeg (by simp) (Ev.now _)), Ev.bind h2 (evNeg (by simp) (Ev.now _))⟩
    | true =>
      refine ⟨_, Ev.bind h1 (evPos rfl hs), Ev.bind h2 (evPos rfl (Ev.bind hr ?_))⟩
      unfold impl_foundIndex.f
      by_cases h : r < 0
      · rw [if_pos h, if_pos h]; exact Ev.now _
      · rw [if_neg h, if_neg h]; exact Ev.now _
  obtain ⟨⟨q, c⟩, k1, k2⟩ := key
  refine Ev.bind ta (Ev.bind k1 (Ev.bind ta (Ev.bind k2 (evPos rfl ?_))))
  refine Ev.step (fun k => by rw [laws_FnExactClassIndex.j0]) (evNeg (by simp) ?_)
  exact Ev.bind ta (Ev.bind ea (evPos rfl (Ev.now true)))
end Go.Proofs.Ytkjnlnkleplfhaa.Pure
