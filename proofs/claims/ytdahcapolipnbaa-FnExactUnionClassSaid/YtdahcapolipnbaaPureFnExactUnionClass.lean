/- The plain statement of FnExactUnionClass: the program and the reference agree on every input that the guards let in. -/
import Derived.Test.YtdahcapolipnbaaArgFnExactUnionClass
namespace Go.Proofs.Ytdahcapolipnbaa.Pure
open Go.RowKit Go.Proofs.Ytdahcapolipnbaa.QFnExactUnionClass Go.Proofs.Ytdahcapolipnbaa.ArgFnExactUnionClass Go.Proofs.YtdahcapolipnbaaW.PrintWords Go.Proofs.YtdahcapolipnbaaW.PrintLast Go.Proofs.YtdahcapolipnbaaW.PrintMore
set_option linter.unusedVariables false
set_option linter.unusedSimpArgs false
-- part: base
theorem w64 {x : Int} (h : -9223372036854775808 ≤ x) (h' : x < 9223372036854775808) : wrap64 x = x := by
  unfold wrap64; omega
theorem evPos {α : Type} {c : Prop} [Decidable c] {g f : Nat → Option α} {r : α} (h : c) (k : Ev g r) : Ev (fun n => if c then g n else f n) r := by
  simpa only [if_pos h] using k
theorem evNeg {α : Type} {c : Prop} [Decidable c] {g f : Nat → Option α} {r : α} (h : ¬ c) (k : Ev f r) : Ev (fun n => if c then g n else f n) r := by
  simpa only [if_neg h] using k
theorem rd_get {xs : List Int} {i : Nat} (h : i < xs.length) : rd xs (i : Int) = xs[i] := by
  simp [rd, h]
/-- The numbers from s on, n of them. -/
def marks (s : Int) : Nat → List Int
  | 0 => []
  | n + 1 => s :: marks (s + 1) n
theorem marks_length (s : Int) (n : Nat) : (marks s n).length = n := by
  induction n generalizing s with
  | zero => rfl
  | succ n ih => simp [marks, ih]
theorem marks_get (s : Int) (n : Nat) : ∀ (i : Nat) (h : i < (marks s n).length), (marks s n)[i] = s + i := by
  induction n generalizing s with
  | zero => intro i h; simp [marks] at h
  | succ n ih =>
    intro i h
    cases i with
    | zero => simp [marks]
    | succ i => simp only [marks, List.getElem_cons_succ]; rw [ih]; push_cast; omega
theorem marks_snoc (s : Int) (n : Nat) : marks s (n + 1) = marks s n ++ [s + n] := by
  induction n generalizing s with
  | zero => simp [marks]
  | succ n ih => rw [marks, ih, marks]; simp; omega
-- part: eqInts
theorem eqInt64S_l0 (xs : List Int) (hn : xs.length ≤ 1099511627776) : ∀ (d i : Nat), i + d = xs.length → Ev (fun k => laws_eqInt64S.l0 k xs xs (i : Int)) true := by
  intro d
  induction d with
  | zero =>
    intro i h
    refine Ev.step (f := fun _ => some true) (fun k => ?_) (Ev.now _)
    simp only [laws_eqInt64S.l0]
    rw [if_neg (by omega)]
  | succ d ih =>
    intro i h
    refine Ev.step (fun k => ?_) (ih (i + 1) (by omega))
    simp only [laws_eqInt64S.l0]
    rw [if_pos (by omega), if_pos (by omega), if_pos (by omega), if_pos trivial, w64 (by omega) (by omega)]
    push_cast
    rfl
theorem eqInt64S_ev (xs : List Int) (hn : xs.length ≤ 1099511627776) : Ev (fun k => laws_eqInt64S.f k xs xs) true := by
  refine Ev.congr (fun k => ?_) (eqInt64S_l0 xs hn xs.length 0 (by omega))
  unfold laws_eqInt64S.f
  rw [if_pos rfl]; rfl
-- part: copyInts
theorem toInt64S_l0 (xs : List Int) (hn : xs.length ≤ 1099511627776) : ∀ (d i : Nat), i + d = xs.length → Ev (fun k => laws_toInt64S.l0 k xs (xs.take i ++ List.replicate d 0) (i : Int)) xs := by
  intro d
  induction d with
  | zero =>
    intro i h
    refine Ev.step (f := fun _ => some xs) (fun k => ?_) (Ev.now _)
    simp only [laws_toInt64S.l0]
    rw [if_neg (by omega)]
    simp [List.take_of_length_le (by omega : xs.length ≤ i)]
  | succ d ih =>
    intro i h
    refine Ev.step (fun k => ?_) (ih (i + 1) (by omega))
    simp only [laws_toInt64S.l0]
    rw [if_pos (by omega), if_pos (by omega), if_pos (by simp; omega), w64 (by omega) (by omega)]
    have e : (xs.take i ++ List.replicate (d + 1) 0).set ((i : Int)).toNat (rd xs i) = xs.take (i + 1) ++ List.replicate d 0 := by
      rw [rd_get (by omega)]
      apply List.ext_getElem
      · simp; omega
      · intro j h1 h2
        simp only [List.getElem_set, List.getElem_append, List.getElem_take, List.getElem_replicate, List.length_take, Int.toNat_natCast]
        by_cases hj : i = j
        · subst hj; simp; omega
        · rw [if_neg hj]
          by_cases hj2 : j < i
          · rw [dif_pos (by omega), dif_pos (by omega)]
          · rw [dif_neg (by omega), dif_neg (by omega)]
    rw [e]
    push_cast
    rfl
theorem toInt64S_ev (xs : List Int) (hn : xs.length ≤ 1099511627776) : Ev (fun k => laws_toInt64S.f k xs) xs := by
  refine Ev.congr (fun k => ?_) (toInt64S_l0 xs hn xs.length 0 (by omega))
  unfold laws_toInt64S.f
  rw [if_pos (by omega), if_pos (by omega)]
  simp
-- part: markInts
theorem markInt64S_l0 (n : Nat) (s : Int) (hs : 0 ≤ s) (hs2 : s ≤ 4611686018427387904) (hn : n ≤ 1099511627776) : ∀ (d i : Nat) (xs : List Int), xs.length = n → i + d = n → xs.take i = marks s i →
    Ev (fun k => laws_markInt64S.l0 k xs (s + i) (i : Int)) (s + n, marks s n) := by
  intro d
  induction d with
  | zero =>
    intro i xs hl h ht
    refine Ev.step (f := fun _ => some (s + n, marks s n)) (fun k => ?_) (Ev.now _)
    simp only [laws_markInt64S.l0]
    rw [if_neg (by omega)]
    obtain rfl : i = n := by omega
    rw [List.take_of_length_le (by omega)] at ht
    rw [ht]
  | succ d ih =>
    intro i xs hl h ht
    have ht' : (xs.set i (s + i)).take (i + 1) = marks s (i + 1) := by
      rw [marks_snoc, ← ht]
      apply List.ext_getElem
      · simp; omega
      · intro j h1 h2
        simp at h1
        simp only [List.getElem_take, List.getElem_set, List.getElem_append, List.length_take]
        by_cases hj : i = j
        · subst hj
          rw [if_pos rfl, dif_neg (by omega)]
          simp [show min i xs.length = i by omega]
        · rw [if_neg hj, dif_pos (by omega)]
    refine Ev.step (fun k => ?_) (ih (i + 1) (xs.set i (s + i)) (by simpa using hl) (by omega) ht')
    simp only [laws_markInt64S.l0]
    rw [if_pos (by omega), if_pos (by omega), w64 (x := s + (i : Int) + 1) (by omega) (by omega), w64 (x := (i : Int) + 1) (by omega) (by omega)]
    simp only [Int.toNat_natCast]
    push_cast
    rw [Int.add_assoc]
theorem markInt64S_ev (xs : List Int) (s : Int) (hs : 0 ≤ s) (hs2 : s ≤ 4611686018427387904) (hn : xs.length ≤ 1099511627776) : Ev (fun k => laws_markInt64S.f k xs s) (s + xs.length, marks s xs.length) := by
  refine Ev.congr (fun k => ?_) (markInt64S_l0 xs.length s hs hs2 hn xs.length 0 xs rfl (by omega) (by simp [marks]))
  unfold laws_markInt64S.f
  simp
-- part: heldInts
theorem heldInt64S_l0 (n : Nat) (s : Int) (hs : 0 ≤ s) (hs2 : s ≤ 4611686018427387904) (hn : n ≤ 1099511627776) : ∀ (d i : Nat), i + d = n → Ev (fun k => laws_heldInt64S.l0 k (marks s n) (s + i) (i : Int)) (s + n) := by
  intro d
  induction d with
  | zero =>
    intro i h
    refine Ev.step (f := fun _ => some (s + n)) (fun k => ?_) (Ev.now _)
    simp only [laws_heldInt64S.l0]
    rw [if_neg (by rw [marks_length]; omega)]
    obtain rfl : i = n := by omega
    rfl
  | succ d ih =>
    intro i h
    refine Ev.step (fun k => ?_) (ih (i + 1) (by omega))
    simp only [laws_heldInt64S.l0]
    rw [if_pos (by rw [marks_length]; omega), if_pos (by omega), rd_get (by rw [marks_length]; omega), marks_get, if_pos rfl, w64 (x := s + (i : Int) + 1) (by omega) (by omega), w64 (x := (i : Int) + 1) (by omega) (by omega)]
    push_cast
    rw [Int.add_assoc]
theorem heldInt64S_ev (n : Nat) (s : Int) (hs : 0 ≤ s) (hs2 : s ≤ 4611686018427387904) (hn : n ≤ 1099511627776) : Ev (fun k => laws_heldInt64S.f k (marks s n) s) (s + n) := by
  refine Ev.congr (fun k => ?_) (heldInt64S_l0 n s hs hs2 hn n 0 (by omega))
  unfold laws_heldInt64S.f
  simp
-- part: validClass
/-- What one place of a class obeys. -/
def okAt (xs : List Int) (j : Nat) : Prop := 0 ≤ rd xs j ∧ rd xs j ≤ 39 ∧ (0 < j → rd xs ((j : Int) - 1) < rd xs j)
def VC (xs : List Int) : Prop := ∀ j : Nat, j < xs.length → okAt xs j
theorem l23Ok_l0 (xs : List Int) (hn : xs.length ≤ 1048576) : ∀ (d i : Nat), i + d = xs.length → ∃ b, Ev (fun k => spec_l23Ok.l0 k xs (i : Int)) b ∧ (b = true ↔ ∀ j : Nat, i ≤ j → j < xs.length → okAt xs j) := by
  intro d
  induction d with
  | zero =>
    intro i h
    refine ⟨true, Ev.step (f := fun _ => some true) (fun k => ?_) (Ev.now _), by simp; omega⟩
    simp only [spec_l23Ok.l0]
    rw [if_neg (by omega)]
  | succ d ih =>
    intro i h
    by_cases hok : okAt xs i
    · obtain ⟨b, hb, hbi⟩ := ih (i + 1) (by omega)
      refine ⟨b, Ev.step (fun k => ?_) hb, ?_⟩
      · obtain ⟨o1, o2, o3⟩ := hok
        simp only [spec_l23Ok.l0, spec_l00In.f]
        rw [if_pos (by omega), if_pos (by omega), if_pos o1, decide_eq_true o2]
        simp only [Option.bind_some, if_true]
        rw [w64 (x := (i : Int) + 1) (by omega) (by omega), w64 (x := (i : Int) - 1) (by omega) (by omega)]
        push_cast
        by_cases hi : (i : Int) > 0
        · have := o3 (by omega)
          rw [if_pos hi, if_pos (by omega), if_pos (by omega), if_neg (by omega)]
        · rw [if_neg hi]
      · rw [hbi]
        constructor
        · intro H j h1 h2
          by_cases hj : j = i
          · subst hj; exact hok
          · exact H j (by omega) h2
        · intro H j h1 h2
          exact H j (by omega) h2
    · refine ⟨false, Ev.step (f := fun _ => some false) (fun k => ?_) (Ev.now _), ?_⟩
      · simp only [spec_l23Ok.l0, spec_l00In.f]
        rw [if_pos (by omega), if_pos (by omega)]
        by_cases o1 : rd xs i ≥ 0
        · rw [if_pos o1]
          by_cases o2 : rd xs i ≤ 39
          · rw [decide_eq_true o2]
            simp only [Option.bind_some, if_true]
            rw [w64 (x := (i : Int) - 1) (by omega) (by omega)]
            by_cases hi : (i : Int) > 0
            · rw [if_pos hi, if_pos (by omega), if_pos (by omega), if_pos]
              refine Int.not_lt.1 fun h3 => hok ⟨o1, o2, fun _ => h3⟩
            · exact absurd ⟨o1, o2, fun h => by omega⟩ hok
          · rw [decide_eq_false o2]; simp
        · rw [if_neg o1]; simp
      · simp only [Bool.false_eq_true, false_iff]
        exact fun H => hok (H i (by omega) (by omega))
theorem l23Ok_ev (xs : List Int) (hn : xs.length ≤ 1048576) : ∃ b, Ev (fun k => spec_l23Ok.f k xs) b ∧ (b = true ↔ VC xs) := by
  obtain ⟨b, hb, h⟩ := l23Ok_l0 xs hn xs.length 0 (by omega)
  refine ⟨b, hb, ?_⟩
  rw [h]
  unfold VC
  simp
theorem validClass_l0 (xs : List Int) (hn : xs.length ≤ 1048576) : ∀ (d i : Nat), i + d = xs.length → ∃ b, Ev (fun k => impl_ValidClass.l0 k xs xs (xs.length : Int) (i : Int)) b ∧ (b = true ↔ ∀ j : Nat, i ≤ j → j < xs.length → okAt xs j) := by
  intro d
  induction d with
  | zero =>
    intro i h
    refine ⟨true, Ev.step (f := fun _ => some true) (fun k => ?_) (Ev.now _), by simp; omega⟩
    simp only [impl_ValidClass.l0]
    rw [if_neg (by omega)]
  | succ d ih =>
    intro i h
    by_cases hok : okAt xs i
    · obtain ⟨b, hb, hbi⟩ := ih (i + 1) (by omega)
      refine ⟨b, Ev.step (fun k => ?_) hb, ?_⟩
      · obtain ⟨o1, o2, o3⟩ := hok
        simp only [impl_ValidClass.l0, impl_isGlyphNumber.f]
        rw [if_pos (by omega), if_pos (by omega), if_pos (by omega), if_pos o1, decide_eq_true (by omega)]
        simp only [Option.bind_some, if_true]
        rw [w64 (x := (i : Int) + 1) (by omega) (by omega), w64 (x := (i : Int) - 1) (by omega) (by omega)]
        push_cast
        by_cases hi : (i : Int) > 0
        · have := o3 (by omega)
          rw [if_pos hi, if_pos (by omega), if_pos (by omega), if_neg (by omega)]
        · rw [if_neg hi]
      · rw [hbi]
        constructor
        · intro H j h1 h2
          by_cases hj : j = i
          · subst hj; exact hok
          · exact H j (by omega) h2
        · intro H j h1 h2
          exact H j (by omega) h2
    · refine ⟨false, Ev.step (f := fun _ => some false) (fun k => ?_) (Ev.now _), ?_⟩
      · simp only [impl_ValidClass.l0, impl_isGlyphNumber.f]
        rw [if_pos (by omega), if_pos (by omega), if_pos (by omega)]
        by_cases o1 : rd xs i ≥ 0
        · rw [if_pos o1]
          by_cases o2 : rd xs i ≤ 39
          · rw [decide_eq_true (by omega)]
            simp only [Option.bind_some, if_true]
            rw [w64 (x := (i : Int) - 1) (by omega) (by omega)]
            by_cases hi : (i : Int) > 0
            · rw [if_pos hi, if_pos (by omega), if_pos (by omega), if_pos]
              refine Int.not_lt.1 fun h3 => hok ⟨o1, o2, fun _ => h3⟩
            · exact absurd ⟨o1, o2, fun h => by omega⟩ hok
          · rw [decide_eq_false (by omega)]; simp
        · rw [if_neg o1]; simp
      · simp only [Bool.false_eq_true, false_iff]
        exact fun H => hok (H i (by omega) (by omega))
theorem validClass_ev (xs : List Int) (hn : xs.length ≤ 1048576) : ∃ b, Ev (fun k => impl_ValidClass.f k xs) b ∧ (b = true ↔ VC xs) := by
  obtain ⟨b, hb, h⟩ := validClass_l0 xs hn xs.length 0 (by omega)
  refine ⟨b, hb, ?_⟩
  rw [h]
  unfold VC
  simp
theorem valid_both (xs : List Int) (hn : xs.length ≤ 1048576) : ∃ b, Ev (fun k => spec_l23Ok.f k xs) b ∧ Ev (fun k => impl_ValidClass.f k xs) b ∧ (b = true ↔ VC xs) := by
  obtain ⟨b, h1, h2⟩ := l23Ok_ev xs hn
  obtain ⟨c, h3, h4⟩ := validClass_ev xs hn
  obtain rfl : b = c := by rw [Bool.eq_iff_iff, h2, h4]
  exact ⟨b, h1, h3, h2⟩
-- part: sorted
theorem eq_of_strict : ∀ {xs ys : List Int}, xs.Pairwise (· < ·) → ys.Pairwise (· < ·) → (∀ x, x ∈ xs ↔ x ∈ ys) → xs = ys
  | [], [], _, _, _ => rfl
  | [], y :: ys, _, _, h => absurd ((h y).2 (List.mem_cons_self ..)) (by simp)
  | x :: xs, [], _, _, h => absurd ((h x).1 (List.mem_cons_self ..)) (by simp)
  | x :: xs, y :: ys, hx, hy, h => by
    have hx' := List.pairwise_cons.1 hx
    have hy' := List.pairwise_cons.1 hy
    have e : x = y := by
      rcases List.mem_cons.1 ((h x).1 (List.mem_cons_self ..)) with e | e
      · exact e
      · rcases List.mem_cons.1 ((h y).2 (List.mem_cons_self ..)) with e' | e'
        · exact e'.symm
        · have h1 := hx'.1 y e'
          have h2 := hy'.1 x e
          omega
    subst e
    refine congrArg (x :: ·) (eq_of_strict hx'.2 hy'.2 fun z => ⟨fun hz => ?_, fun hz => ?_⟩)
    · rcases List.mem_cons.1 ((h z).1 (List.mem_cons_of_mem _ hz)) with e | e
      · have := hx'.1 z hz; omega
      · exact e
    · rcases List.mem_cons.1 ((h z).2 (List.mem_cons_of_mem _ hz)) with e | e
      · have := hy'.1 z hz; omega
      · exact e
theorem VC.strict {xs : List Int} (h : VC xs) : xs.Pairwise (· < ·) := by
  rw [List.pairwise_iff_getElem]
  have key : ∀ (d i : Nat) (hi : i + d + 1 < xs.length), xs[i] < xs[i + d + 1] := by
    intro d
    induction d with
    | zero =>
      intro i hi
      have := (h (i + 1) hi).2.2 (by omega)
      rw [rd_get hi, show (((i + 1 : Nat) : Int) - 1) = (i : Int) by omega, rd_get (by omega)] at this
      exact this
    | succ d ih =>
      intro i hi
      have h1 := ih i (by omega)
      have := (h (i + (d + 1) + 1) hi).2.2 (by omega)
      rw [rd_get hi, show (((i + (d + 1) + 1 : Nat) : Int) - 1) = ((i + d + 1 : Nat) : Int) by omega, rd_get (by omega)] at this
      exact Int.lt_trans h1 this
  intro i j hi hj hij
  obtain ⟨d, rfl⟩ : ∃ d, j = i + d + 1 := ⟨j - i - 1, by omega⟩
  exact key d i hj
theorem VC.range {xs : List Int} (h : VC xs) {x : Int} (hx : x ∈ xs) : 0 ≤ x ∧ x ≤ 39 := by
  obtain ⟨i, hi, rfl⟩ := List.getElem_of_mem hx
  have := h i hi
  rw [okAt, rd_get hi] at this
  exact ⟨this.1, this.2.1⟩
theorem marks_mem (s : Int) (n : Nat) (x : Int) : x ∈ marks s n ↔ s ≤ x ∧ x < s + n := by
  induction n generalizing s with
  | zero => simp [marks]
  | succ n ih => simp only [marks, List.mem_cons, ih]; push_cast; omega
theorem marks_strict (s : Int) (n : Nat) : (marks s n).Pairwise (· < ·) := by
  induction n generalizing s with
  | zero => simp [marks]
  | succ n ih =>
    rw [marks, List.pairwise_cons]
    exact ⟨fun x hx => by have := (marks_mem _ _ _).1 hx; omega, ih _⟩
-- part: has
theorem l00Has_l0 (xs : List Int) (v : Int) (hn : xs.length ≤ 1048576) : ∀ (d i : Nat), i + d = xs.length → Ev (fun k => spec_l00Has.l0 k xs v (i : Int)) (decide (v ∈ xs.drop i)) := by
  intro d
  induction d with
  | zero =>
    intro i h
    refine Ev.step (f := fun _ => some _) (fun k => ?_) (Ev.now _)
    simp only [spec_l00Has.l0]
    rw [if_neg (by omega)]
    simp [List.drop_of_length_le (by omega : xs.length ≤ i)]
  | succ d ih =>
    intro i h
    have hi : i < xs.length := by omega
    rw [List.drop_eq_getElem_cons hi]
    by_cases e : xs[i] = v
    · refine Ev.step (f := fun _ => some _) (fun k => ?_) (Ev.now _)
      simp only [spec_l00Has.l0]
      rw [if_pos (by omega), if_pos (by omega), rd_get hi, if_pos e]
      simp [e]
    · have e2 : decide (v ∈ xs[i] :: xs.drop (i + 1)) = decide (v ∈ xs.drop (i + 1)) := by
        rw [decide_eq_decide, List.mem_cons]
        exact ⟨fun h => h.resolve_left (fun h => e h.symm), .inr⟩
      rw [e2]
      refine Ev.step (fun k => ?_) (ih (i + 1) (by omega))
      simp only [spec_l00Has.l0]
      rw [if_pos (by omega), if_pos (by omega), rd_get hi, if_neg e, w64 (by omega) (by omega)]
      push_cast
      rfl
theorem l00Has_ev (xs : List Int) (v : Int) (hn : xs.length ≤ 1048576) : Ev (fun k => spec_l00Has.f k xs v) (decide (v ∈ xs)) := l00Has_l0 xs v hn xs.length 0 (by omega)
-- part: specFilter
/-- Which glyphs the filter keeps. -/
def keeps (a b : List Int) (one both two : Bool) (g : Int) : Bool := if g ∈ a then (if g ∈ b then both else one) else (if g ∈ b then two else false)
theorem filter_l0 (a b : List Int) (ha : a.length ≤ 1048576) (hb : b.length ≤ 1048576) (one both two : Bool) : ∀ (d g : Nat) (out : List Int), g + d = 40 → out.length ≤ g →
    Ev (fun k => spec_l23Filter.l0 k a b one both two out (g : Int)) (out ++ (marks g d).filter (keeps a b one both two), 0) := by
  intro d
  induction d with
  | zero =>
    intro g out h ho
    refine Ev.step (f := fun _ => some _) (fun k => ?_) (Ev.now _)
    simp only [spec_l23Filter.l0]
    rw [if_neg (by omega)]
    simp [marks]
  | succ d ih =>
    intro g out h ho
    refine Ev.step (f := fun k => (spec_l00Has.f k a g).bind fun t118 => ((spec_l00Has.f k b g).bind fun t119 => (if t118 = true then (if t119 = true then (if both = true then spec_l23Filter.l0 k a b one both two (out ++ [(g : Int)]) (((g + 1 : Nat)) : Int) else spec_l23Filter.l0 k a b one both two out (((g + 1 : Nat)) : Int)) else (if one = true then spec_l23Filter.l0 k a b one both two (out ++ [(g : Int)]) (((g + 1 : Nat)) : Int) else spec_l23Filter.l0 k a b one both two out (((g + 1 : Nat)) : Int))) else (if t119 = true then (if two = true then spec_l23Filter.l0 k a b one both two (out ++ [(g : Int)]) (((g + 1 : Nat)) : Int) else spec_l23Filter.l0 k a b one both two out (((g + 1 : Nat)) : Int)) else spec_l23Filter.l0 k a b one both two out (((g + 1 : Nat)) : Int))))) (fun k => ?_) ?_
    · simp only [spec_l23Filter.l0]
      rw [if_pos (by omega), if_pos (by omega : out.length < 17592186044416), w64 (by omega) (by omega)]
      push_cast
      rfl
    · refine Ev.bind (l00Has_ev a g ha) (Ev.bind (l00Has_ev b g hb) ?_)
      have hyes := ih (g + 1) (out ++ [(g : Int)]) (by omega) (by simp; omega)
      have hno := ih (g + 1) out (by omega) (by omega)
      rw [marks]
      rw [show ((g + 1 : Nat) : Int) = (g : Int) + 1 by omega] at hyes hno ⊢
      by_cases h1 : (g : Int) ∈ a <;> by_cases h2 : (g : Int) ∈ b <;> simp only [h1, h2, decide_true, decide_false, if_true, Bool.false_eq_true, if_false]
      · cases both
        · simpa [List.filter_cons, keeps, h1, h2] using hno
        · simpa [List.filter_cons, keeps, h1, h2] using hyes
      · cases one
        · simpa [List.filter_cons, keeps, h1, h2] using hno
        · simpa [List.filter_cons, keeps, h1, h2] using hyes
      · cases two
        · simpa [List.filter_cons, keeps, h1, h2] using hno
        · simpa [List.filter_cons, keeps, h1, h2] using hyes
      · simpa [List.filter_cons, keeps, h1, h2] using hno
theorem specFilter_ev (a b : List Int) (ha : a.length ≤ 1048576) (hb : b.length ≤ 1048576) (one both two : Bool) (h1 : VC a) (h2 : VC b) : Ev (fun k => spec_l23Filter.f k a b one both two) ((marks 0 40).filter (keeps a b one both two), 0) := by
  obtain ⟨x, hx, hx2⟩ := l23Ok_ev a ha
  obtain ⟨y, hy, hy2⟩ := l23Ok_ev b hb
  obtain rfl := hx2.2 h1
  obtain rfl := hy2.2 h2
  refine Ev.bind hx (evPos rfl (Ev.bind hy ?_))
  refine Ev.step (f := fun k => spec_l23Filter.l0 k a b one both two [] 0) (fun k => by simp [spec_l23Filter.j0]) ?_
  simpa using filter_l0 a b ha hb one both two 40 0 [] (by omega) (by simp)
theorem specFilter_bad (a b : List Int) (ha : a.length ≤ 1048576) (hb : b.length ≤ 1048576) (one both two : Bool) (h : ¬ (VC a ∧ VC b)) : Ev (fun k => spec_l23Filter.f k a b one both two) ([], 1) := by
  obtain ⟨x, hx, hx2⟩ := l23Ok_ev a ha
  obtain ⟨y, hy, hy2⟩ := l23Ok_ev b hb
  refine Ev.bind hx ?_
  cases x with
  | false =>
    refine evNeg (by simp) ?_
    exact Ev.step (f := fun _ => some ([], 1)) (fun k => by simp [spec_l23Filter.j0]) (Ev.now _)
  | true =>
    refine evPos rfl (Ev.bind hy ?_)
    cases y with
    | true => exact absurd ⟨hx2.1 rfl, hy2.1 rfl⟩ h
    | false => exact Ev.step (f := fun _ => some ([], 1)) (fun k => by simp [spec_l23Filter.j0]) (Ev.now _)
-- part: classOf
open Go.Proofs.Ytdahcapolipnbaa.Gv
/-- The class of some glyphs: sorted, each once. -/
def classM (l : List Int) : List Int := Lib.compact (l.mergeSort fun x y => decide (x ≤ y))
theorem compact_mem (zs : List Int) (x : Int) : x ∈ Lib.compact zs ↔ x ∈ zs := by
  unfold Lib.compact Lib.compactUpTo
  rw [List.mem_map]
  constructor
  · rintro ⟨j, hj, rfl⟩
    have hlt : j < zs.length := List.mem_range.1 (List.mem_filter.1 hj).1
    rw [getElem!_pos zs.toArray j (by simpa using hlt)]
    simp
  · intro hx
    obtain ⟨i, hi, rfl⟩ := List.getElem_of_mem hx
    have key : ∀ i (hi : i < zs.length), ∃ j, j ∈ (List.range zs.length).filter (Lib.keeps zs.toArray) ∧ zs.toArray[j]! = zs[i] := by
      intro i
      induction i with
      | zero =>
        intro hi
        exact ⟨0, List.mem_filter.2 ⟨List.mem_range.2 hi, by simp [Lib.keeps]⟩, by rw [getElem!_pos zs.toArray 0 (by simpa using hi)]; simp⟩
      | succ i ih =>
        intro hi
        by_cases he : zs[i + 1] = zs[i]
        · obtain ⟨j, h1, h2⟩ := ih (by omega)
          exact ⟨j, h1, by rw [h2, he]⟩
        · refine ⟨i + 1, List.mem_filter.2 ⟨List.mem_range.2 hi, ?_⟩, by rw [getElem!_pos zs.toArray (i + 1) (by simpa using hi)]; simp⟩
          unfold Lib.keeps
          refine decide_eq_true (.inr ?_)
          rw [show i + 1 - 1 = i by omega, getElem!_pos zs.toArray (i + 1) (by simpa using hi), getElem!_pos zs.toArray i (by simp; omega)]
          simpa using he
    exact key i hi
theorem compact_strict (zs : List Int) (h : zs.Pairwise (· ≤ ·)) : (Lib.compact zs).Pairwise (· < ·) := by
  unfold Lib.compact Lib.compactUpTo
  rw [List.pairwise_map]
  have hr : ((List.range zs.length).filter (Lib.keeps zs.toArray)).Pairwise (· < ·) := List.pairwise_lt_range.filter _
  refine List.Pairwise.imp_of_mem ?_ hr
  intro i j hi hj hij
  have hi' : i < zs.length := List.mem_range.1 (List.mem_filter.1 hi).1
  have hj' : j < zs.length := List.mem_range.1 (List.mem_filter.1 hj).1
  have hk := (List.mem_filter.1 hj).2
  unfold Lib.keeps at hk
  have hk2 : zs.toArray[j]! ≠ zs.toArray[j - 1]! := (of_decide_eq_true hk).resolve_left (by omega)
  rw [getElem!_pos zs.toArray j (by simpa using hj'), getElem!_pos zs.toArray (j - 1) (by simp; omega)] at hk2
  rw [getElem!_pos zs.toArray j (by simpa using hj'), getElem!_pos zs.toArray i (by simpa using hi')]
  simp only [List.getElem_toArray] at hk2 ⊢
  rw [List.pairwise_iff_getElem] at h
  have h1 := h (j - 1) j (by omega) hj' (by omega)
  rcases Nat.lt_or_ge i (j - 1) with h2 | h2
  · have h3 := h i (j - 1) hi' (by omega) h2
    omega
  · obtain rfl : i = j - 1 := by omega
    omega
theorem classM_mem (l : List Int) (x : Int) : x ∈ classM l ↔ x ∈ l := by
  unfold classM
  rw [compact_mem, List.mem_mergeSort]
theorem sort_le (l : List Int) : (l.mergeSort fun x y => decide (x ≤ y)).Pairwise (· ≤ ·) := by
  have := List.pairwise_mergeSort (le := fun x y : Int => decide (x ≤ y)) (fun a b c h1 h2 => by simp only [decide_eq_true_eq] at *; omega) (fun a b => by simp only [Bool.or_eq_true, decide_eq_true_eq]; omega) l
  exact this.imp (fun h => of_decide_eq_true h)
theorem classM_strict (l : List Int) : (classM l).Pairwise (· < ·) := compact_strict _ (sort_le l)
theorem classM_length (l : List Int) : (classM l).length ≤ l.length := by
  unfold classM
  have := Lib.compact_length_le (l.mergeSort fun x y => decide (x ≤ y))
  rw [List.length_mergeSort] at this
  exact this
theorem classOf_some (l : List Int) (h : l.length ≤ 16777216) : impl_classOf.f l = some (classM l) := by
  unfold impl_classOf.f slices_Clone_int64_int64.f slices_Sort_int64_int64.f slices_Compact_int64_int64.f sortF compF
  simp only [Option.bind_some]
  rw [if_pos (by simp only [List.length_nil]; omega)]
  simp only [Option.bind_some, List.nil_append]
  rw [if_pos (by omega)]
  simp only [Option.bind_some]
  rw [if_pos (by rw [List.length_mergeSort]; omega)]
  rfl
-- part: concatI
theorem rdLI_get {cs : List (List Int)} {j : Nat} (h : j < cs.length) : rd_L1 cs (j : Int) = cs[j] := by
  simp [rd_L1, h]
theorem flat_take (xs : List (List Int)) (i : Nat) (h : i < xs.length) : (xs.take (i + 1)).flatten = (xs.take i).flatten ++ xs[i] := by
  rw [List.take_succ_eq_append_getElem h, List.flatten_append]; simp
theorem flat_le (xs : List (List Int)) (i : Nat) : (xs.take i).flatten.length ≤ xs.flatten.length := by
  conv => rhs; rw [← List.take_append_drop i xs, List.flatten_append, List.length_append]
  omega
theorem concat_l1 (xs : List (List Int)) (hn : xs.length ≤ 16777216) (hf : xs.flatten.length ≤ 16777216) : ∀ (d i : Nat) (acc : List Int), i + d = xs.length → acc = (xs.take i).flatten →
    Ev (fun k => slices_Concat_int64_int64.l1 k acc xs (xs.length : Int) (i : Int)) xs.flatten := by
  intro d
  induction d with
  | zero =>
    intro i acc h ha
    obtain rfl : i = xs.length := by omega
    refine Ev.step (f := fun _ => some _) (fun k => ?_) (Ev.now _)
    simp only [slices_Concat_int64_int64.l1]
    rw [if_neg (by omega), ha, List.take_length]
  | succ d ih =>
    intro i acc h ha
    have hi : i < xs.length := by omega
    have e := flat_take xs i hi
    have hl := flat_le xs (i + 1)
    rw [e, List.length_append] at hl
    refine Ev.step (fun k => ?_) (ih (i + 1) (acc ++ xs[i]) (by omega) (by rw [e, ha]))
    simp only [slices_Concat_int64_int64.l1]
    rw [if_pos (by omega), if_pos (by omega), if_pos (by omega), rdLI_get hi, if_pos (by rw [ha]; omega), w64 (x := (i : Int) + 1) (by omega) (by omega)]
    push_cast; rfl
theorem concat_l0 (xs : List (List Int)) (hn : xs.length ≤ 16777216) (hf : xs.flatten.length ≤ 16777216) : ∀ (d i : Nat) (s : Int), i + d = xs.length → s = ((xs.take i).flatten.length : Int) →
    Ev (fun k => slices_Concat_int64_int64.l0 k xs s xs (xs.length : Int) (i : Int)) xs.flatten := by
  intro d
  induction d with
  | zero =>
    intro i s h hs
    obtain rfl : i = xs.length := by omega
    rw [List.take_length] at hs
    refine Ev.step (f := fun k => slices_Concat_int64_int64.l1 k [] xs (xs.length : Int) 0) (fun k => ?_) (concat_l1 xs hn hf xs.length 0 [] (by omega) (by simp))
    simp only [slices_Concat_int64_int64.l0, slices_Grow_int64_int64.f]
    rw [if_neg (by omega), if_pos ⟨by omega, by omega⟩]
    rfl
  | succ d ih =>
    intro i s h hs
    have hi : i < xs.length := by omega
    have e := flat_take xs i hi
    have hl := flat_le xs (i + 1)
    rw [e, List.length_append] at hl
    refine Ev.step (fun k => ?_) (ih (i + 1) (s + (xs[i].length : Int)) (by omega) (by rw [e, List.length_append, hs]; push_cast; rfl))
    simp only [slices_Concat_int64_int64.l0]
    rw [if_pos (by omega), if_pos (by omega), if_pos (by omega), rdLI_get hi, w64 (x := s + (xs[i].length : Int)) (by omega) (by omega), if_neg (by omega), w64 (x := (i : Int) + 1) (by omega) (by omega)]
    push_cast; rfl
theorem concat_ev (xs : List (List Int)) (hn : xs.length ≤ 16777216) (hf : xs.flatten.length ≤ 16777216) : Ev (fun k => slices_Concat_int64_int64.f k xs) xs.flatten :=
  concat_l0 xs hn hf xs.length 0 0 (by omega) (by simp)
-- part: the law
theorem Union_pick (a b : List Int) (ha : VC a) (hb : VC b) : (marks 0 40).filter (keeps a b true true true) = classM (a ++ b) := by
  apply eq_of_strict ((marks_strict 0 40).filter _) (classM_strict _)
  intro x
  simp only [List.mem_filter, marks_mem, classM_mem, List.mem_append]
  constructor
  · rintro ⟨_, h2⟩
    by_cases h3 : x ∈ a <;> by_cases h4 : x ∈ b <;> simp_all [keeps]
  · intro h1
    have : 0 ≤ x ∧ x ≤ 39 := h1.elim ha.range hb.range
    refine ⟨by omega, ?_⟩
    by_cases h3 : x ∈ a <;> by_cases h4 : x ∈ b <;> simp_all [keeps]
theorem Union_both (a b : List Int) (ha : a.length ≤ 1048576) (hb : b.length ≤ 1048576) : ∃ r : List Int × Int, r.1.length ≤ 4194304 ∧ Ev (fun k => spec_UnionClass.f k a b) r ∧ Ev (fun k => impl_UnionClass.f k a b) r := by
  obtain ⟨x, hx, hx2⟩ := validClass_ev a ha
  obtain ⟨y, hy, hy2⟩ := validClass_ev b hb
  by_cases h : VC a ∧ VC b
  · obtain rfl := hx2.2 h.1
    obtain rfl := hy2.2 h.2
    have hl := classM_length (a ++ b)
    rw [List.length_append] at hl
    refine ⟨(classM (a ++ b), 0), by simp only; omega, ?_, ?_⟩
    · rw [← Union_pick a b h.1 h.2]
      exact Ev.bind (specFilter_ev a b ha hb true true true h.1 h.2) (Ev.now _)
    · refine Ev.bind hx (evPos rfl (Ev.bind hy ?_))
      refine Ev.step (fun k => by rw [impl_UnionClass.j0]) (evNeg (by simp) ?_)
      have hc := concat_ev [a, b] (by simp) (by simp; omega)
      rw [show [a, b].flatten = a ++ b by simp] at hc
      refine Ev.bind hc ?_
      rw [classOf_some (a ++ b) (by rw [List.length_append]; omega)]
      exact Ev.now _
  · refine ⟨([], 1), by simp, Ev.bind (specFilter_bad a b ha hb true true true h) (Ev.now _), ?_⟩
    refine Ev.bind hx ?_
    cases x with
    | false =>
      refine evNeg (by simp) ?_
      exact Ev.step (f := fun _ => some ([], 1)) (fun k => by simp [impl_UnionClass.j0]) (Ev.now _)
    | true =>
      refine evPos rfl (Ev.bind hy ?_)
      cases y with
      | false => exact Ev.step (f := fun _ => some ([], 1)) (fun k => by simp [impl_UnionClass.j0]) (Ev.now _)
      | true => exact absurd ⟨hx2.1 rfl, hy2.1 rfl⟩ h
theorem FnExactUnionClass : Owed := by
  intro a b _ _
  apply Ev.rounds
  by_cases ha : (a.length : Int) > 1048576
  · exact evPos ha (Ev.now true)
  refine evNeg ha (Ev.step (fun k => by rw [laws_FnExactUnionClass.j0]) ?_)
  by_cases hb : (b.length : Int) > 1048576
  · exact evPos hb (Ev.now true)
  refine evNeg hb (Ev.step (fun k => by rw [laws_FnExactUnionClass.j1]) ?_)
  obtain ⟨⟨r, c⟩, hl, h1, h2⟩ := Union_both a b (by omega) (by omega)
  replace hl : r.length ≤ 4194304 := hl
  have ta := toInt64S_ev a (by omega)
  have tb := toInt64S_ev b (by omega)
  have ea := eqInt64S_ev a (by omega)
  have eb := eqInt64S_ev b (by omega)
  have er := eqInt64S_ev r (by omega)
  have ma := markInt64S_ev a 1 (by omega) (by omega) (by omega)
  have mb := markInt64S_ev b (1 + a.length) (by omega) (by omega) (by omega)
  have mr := markInt64S_ev r 1 (by omega) (by omega) (by omega)
  have hr := heldInt64S_ev r.length 1 (by omega) (by omega) (by omega)
  refine Ev.bind ta (Ev.bind tb (Ev.bind h1 (Ev.bind ta (Ev.bind tb (Ev.bind h2 (Ev.bind er (evPos rfl ?_)))))))
  refine Ev.step (fun k => by rw [laws_FnExactUnionClass.j2]) ?_
  refine evNeg (by simp) ?_
  refine Ev.step (fun k => by rw [laws_FnExactUnionClass.j3]) ?_
  refine Ev.bind ta (Ev.bind ea (evPos rfl ?_))
  refine Ev.step (fun k => by rw [laws_FnExactUnionClass.j4]) ?_
  refine Ev.bind tb (Ev.bind eb (evPos rfl ?_))
  refine Ev.step (fun k => by rw [laws_FnExactUnionClass.j5]) ?_
  refine Ev.bind ma (Ev.bind mb ?_)
  refine evNeg (by simp only; omega) (Ev.bind er (evPos rfl ?_))
  refine Ev.step (fun k => by rw [laws_FnExactUnionClass.j6]) ?_
  refine evNeg (by simp) ?_
  refine Ev.step (fun k => by rw [laws_FnExactUnionClass.j7]) ?_
  refine Ev.bind mr (Ev.bind hr (evNeg (by omega) ?_))
  refine Ev.step (fun k => by rw [laws_FnExactUnionClass.j8]) ?_
  refine evPos rfl ?_
  refine Ev.step (fun k => by rw [laws_FnExactUnionClass.j9]) ?_
  refine Ev.bind ta (Ev.bind tb (Ev.bind h2 (Ev.bind er (evPos rfl ?_))))
  refine Ev.step (fun k => by rw [laws_FnExactUnionClass.j10]) ?_
  refine evNeg (by simp) ?_
  refine Ev.step (fun k => by rw [laws_FnExactUnionClass.j11]) ?_
  exact Ev.bind hr (evNeg (by omega) (evPos rfl (Ev.now true)))
end Go.Proofs.Ytdahcapolipnbaa.Pure
