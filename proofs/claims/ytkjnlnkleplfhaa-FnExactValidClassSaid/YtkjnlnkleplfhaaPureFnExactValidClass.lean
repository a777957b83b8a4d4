/- The plain statement of FnExactValidClass: the program and the reference agree on every input that the guards let in. -/
import Derived.Test.YtkjnlnkleplfhaaArgFnExactValidClass
namespace Go.Proofs.Ytkjnlnkleplfhaa.Pure
open Go.RowKit Go.Proofs.Ytkjnlnkleplfhaa.PFnExactValidClass Go.Proofs.Ytkjnlnkleplfhaa.ArgFnExactValidClass Go.Proofs.YtkjnlnkleplfhaaW.PrintWords Go.Proofs.YtkjnlnkleplfhaaW.PrintLast Go.Proofs.YtkjnlnkleplfhaaW.PrintMore
set_option linter.unusedVariables false
set_option linter.unusedSimpArgs false
-- part: base
theorem w64 {x : Int} (h : -9223372036854775808 ≤ x) (h' : x < 9223372036854775808) : wrap64 x = x := by
  unfold wrap64; omega
theorem evPos {α : Type} {c : Prop} [Decidable c] {g f : Nat → Option α} {r : α} (h : c) (k : Ev g r) : Ev (fun n => if c then g n else f n) r := by
  simpa only [if_pos h] using k
theorem evNeg {α : Type} {c : Prop} [Decidable c] {g f : Nat → Option α} {r : α} (h : ¬ c) (k : Ev f r) : Ev (fun n => if c then g n else f n) r := by
  simpa only [if_neg h] using k
theorem rd_get {xs : List Int} {i : Nat} (h : i < xs.length) : rd xs (i : Int) = xs[i] := by
  simp [rd, h]
/-- The numbers from s on, n of them. -/
def marks (s : Int) : Nat → List Int
  | 0 => []
  | n + 1 => s :: marks (s + 1) n
theorem marks_length (s : Int) (n : Nat) : (marks s n).length = n := by
  induction n generalizing s with
  | zero => rfl
  | succ n ih => simp [marks, ih]
theorem marks_get (s : Int) (n : Nat) : ∀ (i : Nat) (h : i < (marks s n).length), (marks s n)[i] = s + i := by
  induction n generalizing s with
  | zero => intro i h; simp [marks] at h
  | succ n ih =>
    intro i h
    cases i with
    | zero => simp [marks]
    | succ i => simp only [marks, List.getElem_cons_succ]; rw [ih]; push_cast; omega
theorem marks_snoc (s : Int) (n : Nat) : marks s (n + 1) = marks s n ++ [s + n] := by
  induction n generalizing s with
  | zero => simp [marks]
  | succ n ih => rw [marks, ih, marks]; simp; omega
-- part: copyInts
theorem toInt64S_l0 (xs : List Int) (hn : xs.length ≤ 1048576) : ∀ (d i : Nat), i + d = xs.length → Ev (fun k => laws_toInt64S.l0 k xs (xs.take i ++ List.replicate d 0) (i : Int)) xs := by
  intro d
  induction d with
  | zero =>
    intro i h
    refine Ev.step (f := fun _ => some xs) (fun k => ?_) (Ev.now _)
    simp only [laws_toInt64S.l0]
    rw [if_neg (by omega)]
    simp [List.take_of_length_le (by omega : xs.length ≤ i)]
  | succ d ih =>
    intro i h
    refine Ev.step (fun k => ?_) (ih (i + 1) (by omega))
    simp only [laws_toInt64S.l0]
    rw [if_pos (by omega), if_pos (by omega), if_pos (by simp; omega), w64 (by omega) (by omega)]
    have e : (xs.take i ++ List.replicate (d + 1) 0).set ((i : Int)).toNat (rd xs i) = xs.take (i + 1) ++ List.replicate d 0 := by
      rw [rd_get (by omega)]
      apply List.ext_getElem
      · simp; omega
      · intro j h1 h2
        simp only [List.getElem_set, List.getElem_append, List.getElem_take, List.getElem_replicate, List.length_take, Int.toNat_natCast]
        by_cases hj : i = j
        · subst hj; simp; omega
        · rw [if_neg hj]
          by_cases hj2 : j < i
          · rw [dif_pos (by omega), dif_pos (by omega)]
          · rw [dif_neg (by omega), dif_neg (by omega)]
    rw [e]
    push_cast
    rfl
theorem toInt64S_ev (xs : List Int) (hn : xs.length ≤ 1048576) : Ev (fun k => laws_toInt64S.f k xs) xs := by
  refine Ev.congr (fun k => ?_) (toInt64S_l0 xs hn xs.length 0 (by omega))
  unfold laws_toInt64S.f
  rw [if_pos (by omega), if_pos (by omega)]
  simp
theorem eqInt64S_l0 (xs : List Int) (hn : xs.length ≤ 1048576) : ∀ (d i : Nat), i + d = xs.length → Ev (fun k => laws_eqInt64S.l0 k xs xs (i : Int)) true := by
  intro d
  induction d with
  | zero =>
    intro i h
    refine Ev.step (f := fun _ => some true) (fun k => ?_) (Ev.now _)
    simp only [laws_eqInt64S.l0]
    rw [if_neg (by omega)]
  | succ d ih =>
    intro i h
    refine Ev.step (fun k => ?_) (ih (i + 1) (by omega))
    simp only [laws_eqInt64S.l0]
    rw [if_pos (by omega), if_pos (by omega), if_pos (by omega), if_pos trivial, w64 (by omega) (by omega)]
    push_cast
    rfl
theorem eqInt64S_ev (xs : List Int) (hn : xs.length ≤ 1048576) : Ev (fun k => laws_eqInt64S.f k xs xs) true := by
  refine Ev.congr (fun k => ?_) (eqInt64S_l0 xs hn xs.length 0 (by omega))
  unfold laws_eqInt64S.f
  rw [if_pos rfl]; rfl
-- part: validClass
/-- What one place of a class obeys. -/
def okAt (xs : List Int) (j : Nat) : Prop := 0 ≤ rd xs j ∧ rd xs j ≤ 39 ∧ (0 < j → rd xs ((j : Int) - 1) < rd xs j)
def VC (xs : List Int) : Prop := ∀ j : Nat, j < xs.length → okAt xs j
theorem l23Ok_l0 (xs : List Int) (hn : xs.length ≤ 1048576) : ∀ (d i : Nat), i + d = xs.length → ∃ b, Ev (fun k => spec_l23Ok.l0 k xs (i : Int)) b ∧ (b = true ↔ ∀ j : Nat, i ≤ j → j < xs.length → okAt xs j) := by
  intro d
  induction d with
  | zero =>
    intro i h
    refine ⟨true, Ev.step (f := fun _ => some true) (fun k => ?_) (Ev.now _), by simp; omega⟩
    simp only [spec_l23Ok.l0]
    rw [if_neg (by omega)]
  | succ d ih =>
    intro i h
    by_cases hok : okAt xs i
    · obtain ⟨b, hb, hbi⟩ := ih (i + 1) (by omega)
      refine ⟨b, Ev.step (fun k => ?_) hb, ?_⟩
      · obtain ⟨o1, o2, o3⟩ := hok
        simp only [spec_l23Ok.l0, spec_l00In.f]
        rw [if_pos (by omega), if_pos (by omega), if_pos o1, decide_eq_true o2]
        simp only [Option.bind_some, if_true]
        rw [w64 (x := (i : Int) + 1) (by omega) (by omega), w64 (x := (i : Int) - 1) (by omega) (by omega)]
        push_cast
        by_cases hi : (i : Int) > 0
        · have := o3 (by omega)
          rw [if_pos hi, if_pos (by omega), if_pos (by omega), if_neg (by omega)]
        · rw [if_neg hi]
      · rw [hbi]
        constructor
        · intro H j h1 h2
          by_cases hj : j = i
          · subst hj; exact hok
          · exact H j (by omega) h2
        · intro H j h1 h2
          exact H j (by omega) h2
    · refine ⟨false, Ev.step (f := fun _ => some false) (fun k => ?_) (Ev.now _), ?_⟩
      · simp only [spec_l23Ok.l0, spec_l00In.f]
        rw [if_pos (by omega), if_pos (by omega)]
        by_cases o1 : rd xs i ≥ 0
        · rw [if_pos o1]
          by_cases o2 : rd xs i ≤ 39
          · rw [decide_eq_true o2]
            simp only [Option.bind_some, if_true]
            rw [w64 (x := (i : Int) - 1) (by omega) (by omega)]
            by_cases hi : (i : Int) > 0
            · rw [if_pos hi, if_pos (by omega), if_pos (by omega), if_pos]
              refine Int.not_lt.1 fun h3 => hok ⟨o1, o2, fun _ => h3⟩
            · exact absurd ⟨o1, o2, fun h => by omega⟩ hok
          · rw [decide_eq_false o2]; simp
        · rw [if_neg o1]; simp
      · simp only [Bool.false_eq_true, false_iff]
        exact fun H => hok (H i (by omega) (by omega))
theorem l23Ok_ev (xs : List Int) (hn : xs.length ≤ 1048576) : ∃ b, Ev (fun k => spec_l23Ok.f k xs) b ∧ (b = true ↔ VC xs) := by
  obtain ⟨b, hb, h⟩ := l23Ok_l0 xs hn xs.length 0 (by omega)
  refine ⟨b, hb, ?_⟩
  rw [h]
  unfold VC
  simp
theorem validClass_l0 (xs : List Int) (hn : xs.length ≤ 1048576) : ∀ (d i : Nat), i + d = xs.length → ∃ b, Ev (fun k => impl_ValidClass.l0 k xs xs (xs.length : Int) (i : Int)) b ∧ (b = true ↔ ∀ j : Nat, i ≤ j → j < xs.length → okAt xs j) := by
  intro d
  induction d with
  | zero =>
    intro i h
    refine ⟨true, Ev.step (f := fun _ => some true) (fun k => ?_) (Ev.now _), by simp; omega⟩
    simp only [impl_ValidClass.l0]
    rw [if_neg (by omega)]
  | succ d ih =>
    intro i h
    by_cases hok : okAt xs i
    · obtain ⟨b, hb, hbi⟩ := ih (i + 1) (by omega)
      refine ⟨b, Ev.step (fun k => ?_) hb, ?_⟩
      · obtain ⟨o1, o2, o3⟩ := hok
        simp only [impl_ValidClass.l0, impl_isGlyphNumber.f]
        rw [if_pos (by omega), if_pos (by omega), if_pos (by omega), if_pos o1, decide_eq_true (by omega)]
        simp only [Option.bind_some, if_true]
        rw [w64 (x := (i : Int) + 1) (by omega) (by omega), w64 (x := (i : Int) - 1) (by omega) (by omega)]
        push_cast
        by_cases hi : (i : Int) > 0
        · have := o3 (by omega)
          rw [if_pos hi, if_pos (by omega), if_pos (by omega), if_neg (by omega)]
        · rw [if_neg hi]
      · rw [hbi]
        constructor
        · intro H j h1 h2
          by_cases hj : j = i
          · subst hj; exact hok
          · exact H j (by omega) h2
        · intro H j h1 h2
          exact H j (by omega) h2
    · refine ⟨false, Ev.step (f := fun _ => some false) (fun k => ?_) (Ev.now _), ?_⟩
      · simp only [impl_ValidClass.l0, impl_isGlyphNumber.f]
        rw [if_pos (by omega), if_pos (by omega), if_pos (by omega)]
        by_cases o1 : rd xs i ≥ 0
        · rw [if_pos o1]
          by_cases o2 : rd xs i ≤ 39
          · rw [decide_eq_true (by omega)]
            simp only [Option.bind_some, if_true]
            rw [w64 (x := (i : Int) - 1) (by omega) (by omega)]
            by_cases hi : (i : Int) > 0
            · rw [if_pos hi, if_pos (by omega), if_pos (by omega), if_pos]
              refine Int.not_lt.1 fun h3 => hok ⟨o1, o2, fun _ => h3⟩
            · exact absurd ⟨o1, o2, fun h => by omega⟩ hok
          · rw [decide_eq_false (by omega)]; simp
        · rw [if_neg o1]; simp
      · simp only [Bool.false_eq_true, false_iff]
        exact fun H => hok (H i (by omega) (by omega))
theorem validClass_ev (xs : List Int) (hn : xs.length ≤ 1048576) : ∃ b, Ev (fun k => impl_ValidClass.f k xs) b ∧ (b = true ↔ VC xs) := by
  obtain ⟨b, hb, h⟩ := validClass_l0 xs hn xs.length 0 (by omega)
  refine ⟨b, hb, ?_⟩
  rw [h]
  unfold VC
  simp
theorem valid_both (xs : List Int) (hn : xs.length ≤ 1048576) : ∃ b, Ev (fun k => spec_l23Ok.f k xs) b ∧ Ev (fun k => impl_ValidClass.f k xs) b ∧ (b = true ↔ VC xs) := by
  obtain ⟨b, h1, h2⟩ := l23Ok_ev xs hn
  obtain ⟨c, h3, h4⟩ := validClass_ev xs hn
  obtain rfl : b = c := by rw [Bool.eq_iff_iff, h2, h4]
  exact ⟨b, h1, h3, h2⟩
-- part: the law
theorem FnExactValidClass : Owed := by
  intro xs _
  apply Ev.rounds
  by_cases hn : (xs.length : Int) > 1048576
  · exact evPos hn (Ev.now true)
  refine evNeg hn ?_
  obtain ⟨b, h1, h2, _⟩ := valid_both xs (by omega)
  refine Ev.bind (toInt64S_ev xs (by omega)) ?_
  refine Ev.bind (a := b) (by simpa only [spec_ValidClass.f] using Ev.bind h1 (Ev.now b)) ?_
  refine Ev.bind (toInt64S_ev xs (by omega)) ?_
  refine Ev.bind h2 ?_
  refine evNeg (by simp) ?_
  refine Ev.bind (toInt64S_ev xs (by omega)) ?_
  refine Ev.bind (eqInt64S_ev xs (by omega)) ?_
  exact evPos rfl (Ev.now true)
end Go.Proofs.Ytkjnlnkleplfhaa.Pure
