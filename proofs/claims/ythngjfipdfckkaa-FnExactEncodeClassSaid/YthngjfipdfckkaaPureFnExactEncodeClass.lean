/- The plain statement of FnExactEncodeClass: the program and the reference agree on every input that the guards let in. -/
import Derived.Test.YthngjfipdfckkaaArgFnExactEncodeClass
namespace Go.Proofs.Ythngjfipdfckkaa.Pure
open Go.RowKit Go.Proofs.Ythngjfipdfckkaa.QFnExactEncodeClass Go.Proofs.Ythngjfipdfckkaa.ArgFnExactEncodeClass Go.Proofs.YthngjfipdfckkaaW.PrintWords Go.Proofs.YthngjfipdfckkaaW.PrintLast Go.Proofs.YthngjfipdfckkaaW.PrintMore
set_option linter.unusedVariables false
set_option linter.unusedSimpArgs false
-- part: base
theorem w64 {x : Int} (h : -9223372036854775808 ≤ x) (h' : x < 9223372036854775808) : wrap64 x = x := by
  unfold wrap64; omega
theorem evPos {α : Type} {c : Prop} [Decidable c] {g f : Nat → Option α} {r : α} (h : c) (k : Ev g r) : Ev (fun n => if c then g n else f n) r := by
  simpa only [if_pos h] using k
theorem evNeg {α : Type} {c : Prop} [Decidable c] {g f : Nat → Option α} {r : α} (h : ¬ c) (k : Ev f r) : Ev (fun n => if c then g n else f n) r := by
  simpa only [if_neg h] using k
theorem rd_get {xs : List Int} {i : Nat} (h : i < xs.length) : rd xs (i : Int) = xs[i] := by
  simp [rd, h]
/-- The numbers from s on, n of them. -/
def marks (s : Int) : Nat → List Int
  | 0 => []
  | n + 1 => s :: marks (s + 1) n
theorem marks_length (s : Int) (n : Nat) : (marks s n).length = n := by
  induction n generalizing s with
  | zero => rfl
  | succ n ih => simp [marks, ih]
theorem marks_get (s : Int) (n : Nat) : ∀ (i : Nat) (h : i < (marks s n).length), (marks s n)[i] = s + i := by
  induction n generalizing s with
  | zero => intro i h; simp [marks] at h
  | succ n ih =>
    intro i h
    cases i with
    | zero => simp [marks]
    | succ i => simp only [marks, List.getElem_cons_succ]; rw [ih]; push_cast; omega
theorem marks_snoc (s : Int) (n : Nat) : marks s (n + 1) = marks s n ++ [s + n] := by
  induction n generalizing s with
  | zero => simp [marks]
  | succ n ih => rw [marks, ih, marks]; simp; omega
-- part: eqInts
theorem eqInt64S_l0 (xs : List Int) (hn : xs.length ≤ 1099511627776) : ∀ (d i : Nat), i + d = xs.length → Ev (fun k => laws_eqInt64S.l0 k xs xs (i : Int)) true := by
  intro d
  induction d with
  | zero =>
    intro i h
    refine Ev.step (f := fun _ => some true) (fun k => ?_) (Ev.now _)
    simp only [laws_eqInt64S.l0]
    rw [if_neg (by omega)]
  | succ d ih =>
    intro i h
    refine Ev.step (fun k => ?_) (ih (i + 1) (by omega))
    simp only [laws_eqInt64S.l0]
    rw [if_pos (by omega), if_pos (by omega), if_pos (by omega), if_pos trivial, w64 (by omega) (by omega)]
    push_cast
    rfl
theorem eqInt64S_ev (xs : List Int) (hn : xs.length ≤ 1099511627776) : Ev (fun k => laws_eqInt64S.f k xs xs) true := by
  refine Ev.congr (fun k => ?_) (eqInt64S_l0 xs hn xs.length 0 (by omega))
  unfold laws_eqInt64S.f
  rw [if_pos rfl]; rfl
-- part: copyInts
theorem toInt64S_l0 (xs : List Int) (hn : xs.length ≤ 1099511627776) : ∀ (d i : Nat), i + d = xs.length → Ev (fun k => laws_toInt64S.l0 k xs (xs.take i ++ List.replicate d 0) (i : Int)) xs := by
  intro d
  induction d with
  | zero =>
    intro i h
    refine Ev.step (f := fun _ => some xs) (fun k => ?_) (Ev.now _)
    simp only [laws_toInt64S.l0]
    rw [if_neg (by omega)]
    simp [List.take_of_length_le (by omega : xs.length ≤ i)]
  | succ d ih =>
    intro i h
    refine Ev.step (fun k => ?_) (ih (i + 1) (by omega))
    simp only [laws_toInt64S.l0]
    rw [if_pos (by omega), if_pos (by omega), if_pos (by simp; omega), w64 (by omega) (by omega)]
    have e : (xs.take i ++ List.replicate (d + 1) 0).set ((i : Int)).toNat (rd xs i) = xs.take (i + 1) ++ List.replicate d 0 := by
      rw [rd_get (by omega)]
      apply List.ext_getElem
      · simp; omega
      · intro j h1 h2
        simp only [List.getElem_set, List.getElem_append, List.getElem_take, List.getElem_replicate, List.length_take, Int.toNat_natCast]
        by_cases hj : i = j
        · subst hj; simp; omega
        · rw [if_neg hj]
          by_cases hj2 : j < i
          · rw [dif_pos (by omega), dif_pos (by omega)]
          · rw [dif_neg (by omega), dif_neg (by omega)]
    rw [e]
    push_cast
    rfl
theorem toInt64S_ev (xs : List Int) (hn : xs.length ≤ 1099511627776) : Ev (fun k => laws_toInt64S.f k xs) xs := by
  refine Ev.congr (fun k => ?_) (toInt64S_l0 xs hn xs.length 0 (by omega))
  unfold laws_toInt64S.f
  rw [if_pos (by omega), if_pos (by omega)]
  simp
-- part: validClass
/-- What one place of a class obeys. -/
def okAt (xs : List Int) (j : Nat) : Prop := 0 ≤ rd xs j ∧ rd xs j ≤ 39 ∧ (0 < j → rd xs ((j : Int) - 1) < rd xs j)
def VC (xs : List Int) : Prop := ∀ j : Nat, j < xs.length → okAt xs j
theorem l23Ok_l0 (xs : List Int) (hn : xs.length ≤ 1048576) : ∀ (d i : Nat), i + d = xs.length → ∃ b, Ev (fun k => spec_l23Ok.l0 k xs (i : Int)) b ∧ (b = true ↔ ∀ j : Nat, i ≤ j → j < xs.length → okAt xs j) := by
  intro d
  induction d with
  | zero =>
    intro i h
    refine ⟨true, Ev.step (f := fun _ => some true) (fun k => ?_) (Ev.now _), by simp; omega⟩
    simp only [spec_l23Ok.l0]
    rw [if_neg (by omega)]
  | succ d ih =>
    intro i h
    by_cases hok : okAt xs i
    · obtain ⟨b, hb, hbi⟩ := ih (i + 1) (by omega)
      refine ⟨b, Ev.step (fun k => ?_) hb, ?_⟩
      · obtain ⟨o1, o2, o3⟩ := hok
        simp only [spec_l23Ok.l0, spec_l00In.f]
        rw [if_pos (by omega), if_pos (by omega), if_pos o1, decide_eq_true o2]
        simp only [Option.bind_some, if_true]
        rw [w64 (x := (i : Int) + 1) (by omega) (by omega), w64 (x := (i : Int) - 1) (by omega) (by omega)]
        push_cast
        by_cases hi : (i : Int) > 0
        · have := o3 (by omega)
          rw [if_pos hi, if_pos (by omega), if_pos (by omega), if_neg (by omega)]
        · rw [if_neg hi]
      · rw [hbi]
        constructor
        · intro H j h1 h2
          by_cases hj : j = i
          · subst hj; exact hok
          · exact H j (by omega) h2
        · intro H j h1 h2
          exact H j (by omega) h2
    · refine ⟨false, Ev.step (f := fun _ => some false) (fun k => ?_) (Ev.now _), ?_⟩
      · simp only [spec_l23Ok.l0, spec_l00In.f]
        rw [if_pos (by omega), if_pos (by omega)]
        by_cases o1 : rd xs i ≥ 0
        · rw [if_pos o1]
          by_cases o2 : rd xs i ≤ 39
          · rw [decide_eq_true o2]
            simp only [Option.bind_some, if_true]
            rw [w64 (x := (i : Int) - 1) (by omega) (by omega)]
            by_cases hi : (i : Int) > 0
            · rw [if_pos hi, if_pos (by omega), if_pos (by omega), if_pos]
              refine Int.not_lt.1 fun h3 => hok ⟨o1, o2, fun _ => h3⟩
            · exact absurd ⟨o1, o2, fun h => by omega⟩ hok
          · rw [decide_eq_false o2]; simp
        · rw [if_neg o1]; simp
      · simp only [Bool.false_eq_true, false_iff]
        exact fun H => hok (H i (by omega) (by omega))
theorem l23Ok_ev (xs : List Int) (hn : xs.length ≤ 1048576) : ∃ b, Ev (fun k => spec_l23Ok.f k xs) b ∧ (b = true ↔ VC xs) := by
  obtain ⟨b, hb, h⟩ := l23Ok_l0 xs hn xs.length 0 (by omega)
  refine ⟨b, hb, ?_⟩
  rw [h]
  unfold VC
  simp
theorem validClass_l0 (xs : List Int) (hn : xs.length ≤ 1048576) : ∀ (d i : Nat), i + d = xs.length → ∃ b, Ev (fun k => impl_ValidClass.l0 k xs xs (xs.length : Int) (i : Int)) b ∧ (b = true ↔ ∀ j : Nat, i ≤ j → j < xs.length → okAt xs j) := by
  intro d
  induction d with
  | zero =>
    intro i h
    refine ⟨true, Ev.step (f := fun _ => some true) (fun k => ?_) (Ev.now _), by simp; omega⟩
    simp only [impl_ValidClass.l0]
    rw [if_neg (by omega)]
  | succ d ih =>
    intro i h
    by_cases hok : okAt xs i
    · obtain ⟨b, hb, hbi⟩ := ih (i + 1) (by omega)
      refine ⟨b, Ev.step (fun k => ?_) hb, ?_⟩
      · obtain ⟨o1, o2, o3⟩ := hok
        simp only [impl_ValidClass.l0, impl_isGlyphNumber.f]
        rw [if_pos (by omega), if_pos (by omega), if_pos (by omega), if_pos o1, decide_eq_true (by omega)]
        simp only [Option.bind_some, if_true]
        rw [w64 (x := (i : Int) + 1) (by omega) (by omega), w64 (x := (i : Int) - 1) (by omega) (by omega)]
        push_cast
        by_cases hi : (i : Int) > 0
        · have := o3 (by omega)
          rw [if_pos hi, if_pos (by omega), if_pos (by omega), if_neg (by omega)]
        · rw [if_neg hi]
      · rw [hbi]
        constructor
        · intro H j h1 h2
          by_cases hj : j = i
          · subst hj; exact hok
          · exact H j (by omega) h2
        · intro H j h1 h2
          exact H j (by omega) h2
    · refine ⟨false, Ev.step (f := fun _ => some false) (fun k => ?_) (Ev.now _), ?_⟩
      · simp only [impl_ValidClass.l0, impl_isGlyphNumber.f]
        rw [if_pos (by omega), if_pos (by omega), if_pos (by omega)]
        by_cases o1 : rd xs i ≥ 0
        · rw [if_pos o1]
          by_cases o2 : rd xs i ≤ 39
          · rw [decide_eq_true (by omega)]
            simp only [Option.bind_some, if_true]
            rw [w64 (x := (i : Int) - 1) (by omega) (by omega)]
            by_cases hi : (i : Int) > 0
            · rw [if_pos hi, if_pos (by omega), if_pos (by omega), if_pos]
              refine Int.not_lt.1 fun h3 => hok ⟨o1, o2, fun _ => h3⟩
            · exact absurd ⟨o1, o2, fun h => by omega⟩ hok
          · rw [decide_eq_false (by omega)]; simp
        · rw [if_neg o1]; simp
      · simp only [Bool.false_eq_true, false_iff]
        exact fun H => hok (H i (by omega) (by omega))
theorem validClass_ev (xs : List Int) (hn : xs.length ≤ 1048576) : ∃ b, Ev (fun k => impl_ValidClass.f k xs) b ∧ (b = true ↔ VC xs) := by
  obtain ⟨b, hb, h⟩ := validClass_l0 xs hn xs.length 0 (by omega)
  refine ⟨b, hb, ?_⟩
  rw [h]
  unfold VC
  simp
theorem valid_both (xs : List Int) (hn : xs.length ≤ 1048576) : ∃ b, Ev (fun k => spec_l23Ok.f k xs) b ∧ Ev (fun k => impl_ValidClass.f k xs) b ∧ (b = true ↔ VC xs) := by
  obtain ⟨b, h1, h2⟩ := l23Ok_ev xs hn
  obtain ⟨c, h3, h4⟩ := validClass_ev xs hn
  obtain rfl : b = c := by rw [Bool.eq_iff_iff, h2, h4]
  exact ⟨b, h1, h3, h2⟩
-- part: sorted
theorem eq_of_strict : ∀ {xs ys : List Int}, xs.Pairwise (· < ·) → ys.Pairwise (· < ·) → (∀ x, x ∈ xs ↔ x ∈ ys) → xs = ys
  | [], [], _, _, _ => rfl
  | [], y :: ys, _, _, h => absurd ((h y).2 (List.mem_cons_self ..)) (by simp)
  | x :: xs, [], _, _, h => absurd ((h x).1 (List.mem_cons_self ..)) (by simp)
  | x :: xs, y :: ys, hx, hy, h => by
    have hx' := List.pairwise_cons.1 hx
    have hy' := List.pairwise_cons.1 hy
    have e : x = y := by
      rcases List.mem_cons.1 ((h x).1 (List.mem_cons_self ..)) with e | e
      · exact e
      · rcases List.mem_cons.1 ((h y).2 (List.mem_cons_self ..)) with e' | e'
        · exact e'.symm
        · have h1 := hx'.1 y e'
          have h2 := hy'.1 x e
          omega
    subst e
    refine congrArg (x :: ·) (eq_of_strict hx'.2 hy'.2 fun z => ⟨fun hz => ?_, fun hz => ?_⟩)
    · rcases List.mem_cons.1 ((h z).1 (List.mem_cons_of_mem _ hz)) with e | e
      · have := hx'.1 z hz; omega
      · exact e
    · rcases List.mem_cons.1 ((h z).2 (List.mem_cons_of_mem _ hz)) with e | e
      · have := hy'.1 z hz; omega
      · exact e
theorem VC.strict {xs : List Int} (h : VC xs) : xs.Pairwise (· < ·) := by
  rw [List.pairwise_iff_getElem]
  have key : ∀ (d i : Nat) (hi : i + d + 1 < xs.length), xs[i] < xs[i + d + 1] := by
    intro d
    induction d with
    | zero =>
      intro i hi
      have := (h (i + 1) hi).2.2 (by omega)
      rw [rd_get hi, show (((i + 1 : Nat) : Int) - 1) = (i : Int) by omega, rd_get (by omega)] at this
      exact this
    | succ d ih =>
      intro i hi
      have h1 := ih i (by omega)
      have := (h (i + (d + 1) + 1) hi).2.2 (by omega)
      rw [rd_get hi, show (((i + (d + 1) + 1 : Nat) : Int) - 1) = ((i + d + 1 : Nat) : Int) by omega, rd_get (by omega)] at this
      exact Int.lt_trans h1 this
  intro i j hi hj hij
  obtain ⟨d, rfl⟩ : ∃ d, j = i + d + 1 := ⟨j - i - 1, by omega⟩
  exact key d i hj
theorem VC.range {xs : List Int} (h : VC xs) {x : Int} (hx : x ∈ xs) : 0 ≤ x ∧ x ≤ 39 := by
  obtain ⟨i, hi, rfl⟩ := List.getElem_of_mem hx
  have := h i hi
  rw [okAt, rd_get hi] at this
  exact ⟨this.1, this.2.1⟩
theorem marks_mem (s : Int) (n : Nat) (x : Int) : x ∈ marks s n ↔ s ≤ x ∧ x < s + n := by
  induction n generalizing s with
  | zero => simp [marks]
  | succ n ih => simp only [marks, List.mem_cons, ih]; push_cast; omega
theorem marks_strict (s : Int) (n : Nat) : (marks s n).Pairwise (· < ·) := by
  induction n generalizing s with
  | zero => simp [marks]
  | succ n ih =>
    rw [marks, List.pairwise_cons]
    exact ⟨fun x hx => by have := (marks_mem _ _ _).1 hx; omega, ih _⟩
-- part: rangeRd
theorem rdR_get {xs : List S34} {i : Nat} (h : i < xs.length) : rd_T34 xs (i : Int) = xs[i] := by
  simp [rd_T34, h]
-- part: ranges
/-- One glyph more. -/
def joinR (out : List S34) (g : Int) : List S34 :=
  if 0 < out.length ∧ (rd_T34 out ((out.length : Int) - 1)).f1 = g - 1 then out.set (out.length - 1) ⟨(rd_T34 out ((out.length : Int) - 1)).f0, g⟩ else out ++ [⟨g, g⟩]
def rangesM (xs : List Int) : List S34 := xs.foldl joinR []
theorem joinR_length (out : List S34) (g : Int) : 0 < (joinR out g).length ∧ (joinR out g).length ≤ out.length + 1 := by
  unfold joinR
  split
  · rename_i h; simp; omega
  · simp
theorem joinR_last (out : List S34) (g : Int) : (rd_T34 (joinR out g) (((joinR out g).length : Int) - 1)).f1 = g := by
  obtain ⟨n, hn⟩ : ∃ n, (joinR out g).length = n + 1 := ⟨(joinR out g).length - 1, by have := joinR_length out g; omega⟩
  rw [hn, show (((n + 1 : Nat) : Int) - 1) = (n : Int) by omega, rdR_get (by omega)]
  unfold joinR at hn ⊢
  by_cases h : 0 < out.length ∧ (rd_T34 out ((out.length : Int) - 1)).f1 = g - 1
  · simp only [if_pos h, List.length_set] at hn ⊢
    simp [List.getElem_set, show out.length - 1 = n by omega]
  · simp only [if_neg h, List.length_append, List.length_singleton] at hn ⊢
    simp [List.getElem_append, show n = out.length by omega]
theorem implRanges_l0 (xs : List Int) (hn : xs.length ≤ 1048576) (hx : ∀ x ∈ xs, 0 ≤ x ∧ x ≤ 65535) : ∀ (d i : Nat) (out : List S34), i + d = xs.length → out.length ≤ i →
    Ev (fun k => impl_rangesOf.l0 k out xs (xs.length : Int) (i : Int)) ((xs.drop i).foldl joinR out) := by
  intro d
  induction d with
  | zero =>
    intro i out h ho
    refine Ev.step (f := fun _ => some _) (fun k => ?_) (Ev.now _)
    simp only [impl_rangesOf.l0]
    rw [if_neg (by omega), List.drop_of_length_le (by omega)]
    rfl
  | succ d ih =>
    intro i out h ho
    have hi : i < xs.length := by omega
    have hb := hx xs[i] (List.getElem_mem hi)
    rw [List.drop_eq_getElem_cons hi, List.foldl_cons]
    have hl := joinR_length out xs[i]
    refine Ev.step (fun k => ?_) (ih (i + 1) (joinR out xs[i]) (by omega) (by omega))
    simp only [impl_rangesOf.l0]
    rw [if_pos (by omega), if_pos (by omega), if_pos (by omega), rd_get hi, w64 (x := (i : Int) + 1) (by omega) (by omega), if_pos (by omega : out.length < 8796093022208), w64 (x := xs[i] - 1) (by omega) (by omega), w64 (x := (out.length : Int) - 1) (by omega) (by omega)]
    unfold joinR
    by_cases h1 : 0 < out.length
    · rw [if_pos (by omega), if_pos (by omega), if_pos (by omega)]
      by_cases h2 : (rd_T34 out ((out.length : Int) - 1)).f1 = xs[i] - 1
      · rw [if_pos h2, if_pos ⟨h1, h2⟩, show ((out.length : Int) - 1).toNat = out.length - 1 by omega]
        push_cast; rfl
      · rw [if_neg h2, if_neg (fun h => h2 h.2)]
        push_cast; rfl
    · rw [if_neg (by omega), if_neg (fun h => h1 h.1)]
      push_cast; rfl
theorem implRanges_ev (xs : List Int) (hn : xs.length ≤ 1048576) (hx : ∀ x ∈ xs, 0 ≤ x ∧ x ≤ 65535) : Ev (fun k => impl_rangesOf.f k xs) (rangesM xs) :=
  implRanges_l0 xs hn hx xs.length 0 [] (by omega) (by simp)
theorem specRanges_l0 (xs : List Int) (hn : xs.length ≤ 1048576) (hx : ∀ x ∈ xs, 0 ≤ x ∧ x ≤ 65535) : ∀ (d i : Nat) (out : List S34), i + d = xs.length → out.length ≤ i → (i = 0 → out = []) → (∀ j : Nat, i = j + 1 → 0 < out.length ∧ (rd_T34 out ((out.length : Int) - 1)).f1 = rd xs j) →
    Ev (fun k => spec_l23Ranges.l0 k xs out (i : Int)) ((xs.drop i).foldl joinR out) := by
  intro d
  induction d with
  | zero =>
    intro i out h ho h0 hj
    refine Ev.step (f := fun _ => some _) (fun k => ?_) (Ev.now _)
    simp only [spec_l23Ranges.l0]
    rw [if_neg (by omega), List.drop_of_length_le (by omega)]
    rfl
  | succ d ih =>
    intro i out h ho h0 hj
    have hi : i < xs.length := by omega
    have hb := hx xs[i] (List.getElem_mem hi)
    rw [List.drop_eq_getElem_cons hi, List.foldl_cons]
    have hl := joinR_length out xs[i]
    refine Ev.step (fun k => ?_) (ih (i + 1) (joinR out xs[i]) (by omega) (by omega) (by omega) (fun j e => ⟨hl.1, by rw [joinR_last, show j = i by omega, rd_get hi]⟩))
    simp only [spec_l23Ranges.l0]
    rw [if_pos (show (i : Int) < (xs.length : Int) by omega), rd_get hi, w64 (x := (i : Int) + 1) (by omega) (by omega), if_pos (by omega : out.length < 8796093022208)]
    unfold joinR
    cases i with
    | zero =>
      have e := h0 rfl
      subst e
      rw [if_neg (show ¬ (((0 : Nat) : Int) > 0) by omega), if_pos (show (0 : Int) ≤ ((0 : Nat) : Int) by omega), if_neg (by simp)]
      rfl
    | succ j =>
      obtain ⟨h1, h2⟩ := hj j rfl
      have hb' := hx xs[j] (List.getElem_mem (by omega))
      rw [if_pos (show ((j + 1 : Nat) : Int) > 0 by omega), if_pos (show (0 : Int) ≤ ((j + 1 : Nat) : Int) by omega), w64 (x := ((j + 1 : Nat) : Int) - 1) (by omega) (by omega), w64 (x := (out.length : Int) - 1) (by omega) (by omega), if_pos (by omega), if_pos (by omega), show (((j + 1 : Nat) : Int) - 1) = (j : Int) by omega, h2, rd_get (by omega), w64 (x := xs[j] + 1) (by omega) (by omega)]
      by_cases h3 : xs[j + 1] = xs[j] + 1
      · rw [if_pos h3, if_pos (show (0 : Int) ≤ (out.length : Int) - 1 by omega), if_pos (show (out.length : Int) - 1 < (out.length : Int) by omega), if_pos ⟨h1, by omega⟩, show ((out.length : Int) - 1).toNat = out.length - 1 by omega]
        push_cast; rfl
      · rw [if_neg h3, if_neg (fun h => h3 (by omega))]
        push_cast; rfl
theorem specRanges_ev (xs : List Int) (hn : xs.length ≤ 1048576) (hx : ∀ x ∈ xs, 0 ≤ x ∧ x ≤ 65535) : Ev (fun k => spec_l23Ranges.f k xs) (rangesM xs) :=
  specRanges_l0 xs hn hx xs.length 0 [] (by omega) (by simp) (by simp) (by simp)
theorem rangesM_length (xs : List Int) : (rangesM xs).length ≤ xs.length := by
  have key : ∀ (xs : List Int) (out : List S34), (xs.foldl joinR out).length ≤ out.length + xs.length := by
    intro xs
    induction xs with
    | nil => intro out; simp
    | cons x xs ih =>
      intro out
      have := ih (joinR out x)
      have := joinR_length out x
      simp only [List.foldl_cons, List.length_cons]
      omega
  simpa [rangesM] using key xs []
-- part: rangesOk
def okR (r : S34) : Prop := (0 ≤ r.f0 ∧ r.f0 ≤ 65535) ∧ 0 ≤ r.f1 ∧ r.f1 ≤ 65535
theorem joinR_ok (out : List S34) (g : Int) (ho : ∀ r ∈ out, okR r) (hg : 0 ≤ g ∧ g ≤ 65535) : ∀ r ∈ joinR out g, okR r := by
  intro r hr
  unfold joinR at hr
  split at hr
  · rename_i h
    rcases List.mem_or_eq_of_mem_set hr with h1 | h1
    · exact ho r h1
    · subst h1
      refine ⟨?_, hg⟩
      have hi : out.length - 1 < out.length := by omega
      have : rd_T34 out ((out.length : Int) - 1) = out[out.length - 1] := by
        rw [show ((out.length : Int) - 1) = ((out.length - 1 : Nat) : Int) by omega, rdR_get hi]
      simp only [this]
      exact (ho _ (List.getElem_mem hi)).1
  · rcases List.mem_append.1 hr with h1 | h1
    · exact ho r h1
    · rw [List.mem_singleton.1 h1]
      exact ⟨hg, hg⟩
theorem rangesM_ok (xs : List Int) (hx : ∀ x ∈ xs, 0 ≤ x ∧ x ≤ 65535) : ∀ r ∈ rangesM xs, okR r := by
  have key : ∀ (xs : List Int) (out : List S34), (∀ x ∈ xs, 0 ≤ x ∧ x ≤ 65535) → (∀ r ∈ out, okR r) → ∀ r ∈ xs.foldl joinR out, okR r := by
    intro xs
    induction xs with
    | nil => intro out _ ho; exact ho
    | cons x xs ih =>
      intro out hx ho
      rw [List.foldl_cons]
      exact ih _ (fun y hy => hx y (List.mem_cons_of_mem _ hy)) (joinR_ok out x ho (hx x List.mem_cons_self))
  exact key xs [] hx (by simp)
-- part: bytes
theorem bx_ext {a b : ByteArray} (h : a.data.toList = b.data.toList) : a = b := by
  cases a; cases b; simp only at h; congr 1; exact Array.toList_inj.1 h
theorem bx_app (a b : ByteArray) : (a ++ b).data.toList = a.data.toList ++ b.data.toList := by
  rw [ByteArray.data_append]; simp
theorem bx_assoc (a b c : ByteArray) : (a ++ b) ++ c = a ++ (b ++ c) := by
  apply bx_ext; simp only [bx_app, List.append_assoc]
theorem bx_size (a b : ByteArray) : (a ++ b).size = a.size + b.size := ByteArray.size_append
theorem bx_nil (a : ByteArray) : (⟨#[]⟩ : ByteArray) ++ a = a := by apply bx_ext; rw [bx_app]; rfl
theorem bx_nil' (a : ByteArray) : a ++ (⟨#[]⟩ : ByteArray) = a := by apply bx_ext; rw [bx_app]; simp
theorem son_app (xs ys : List Int) : strOfNums (xs ++ ys) = strOfNums xs ++ strOfNums ys := by
  apply bx_ext; rw [bx_app]; simp only [strOfNums_data, List.map_append]
theorem son_cons (x : Int) (xs : List Int) : strOfNums (x :: xs) = strOfNums [x] ++ strOfNums xs := son_app [x] xs
-- part: encode
theorem and255 (n : Int) : Go.bits .and .i64 n 255 = n % 256 := by
  have h : (BitVec.ofInt 64 255).toNat = 2 ^ 8 - 1 := by decide
  have key : (BitVec.ofInt 64 n &&& BitVec.ofInt 64 255).toNat = (n % ((2 ^ 64 : Nat) : Int)).toNat % 2 ^ 8 := by
    rw [BitVec.toNat_and, BitVec.toNat_ofInt, h, Nat.and_two_pow_sub_one_eq_mod]
  show IntKind.i64.wrap ((BitVec.ofInt 64 n &&& BitVec.ofInt 64 255).toNat : Nat) = n % 256
  rw [key, IntKind.wrap_i64]
  omega
/-- A number as two bytes. -/
def wd2 (n : Int) : List Int := [n / 256, n % 256]
def wdsB (xs : List Int) : ByteArray := strOfNums (xs.flatMap wd2)
theorem wdsB_app (xs ys : List Int) : wdsB (xs ++ ys) = wdsB xs ++ wdsB ys := by
  unfold wdsB
  rw [List.flatMap_append, son_app]
theorem wdsB_nil : wdsB [] = (⟨#[]⟩ : ByteArray) := rfl
theorem wdsB_size (xs : List Int) : (wdsB xs).size = 2 * xs.length := by
  unfold wdsB
  rw [strOfNums_size]
  induction xs with
  | nil => rfl
  | cons x xs ih => rw [List.flatMap_cons, List.length_append, ih]; simp [wd2]; omega
theorem specWord (n : Int) (h0 : 0 ≤ n) (h1 : n ≤ 65535) : Ev (fun k => spec_l01Word.f k n 2) (strOfNums (wd2 n)) := by
  have e1 := and255 n
  have e2 := and255 (n / 256)
  have f1 : wrap64 (2 - 1) = 1 := w64 (by decide) (by decide)
  have f0 : wrap64 (1 - 1) = 0 := w64 (by decide) (by decide)
  have fm : wrap64 (0 - 1) = -1 := w64 (by decide) (by decide)
  refine Ev.congr (f := fun k => spec_l01Word.l0 k n [0, 0] 1) (fun k => ?_) ?_
  · unfold spec_l01Word.f
    rw [f1]
    rfl
  refine Ev.step (f := fun k => spec_l01Word.l0 k (n / 256) [0, n % 256] 0) (fun k => ?_) ?_
  · simp only [spec_l01Word.l0]
    rw [e1, show n % 256 % 256 = n % 256 by omega, f0]
    rfl
  refine Ev.step (f := fun k => spec_l01Word.l0 k (n / 256 / 256) [n / 256, n % 256] (-1)) (fun k => ?_) ?_
  · simp only [spec_l01Word.l0]
    rw [e2, show n / 256 % 256 % 256 = n / 256 by omega, fm]
    rfl
  refine Ev.step (f := fun _ => some (strOfNums (wd2 n))) (fun k => ?_) (Ev.now _)
  simp only [spec_l01Word.l0]
  rfl
theorem implWord (n : Int) (h0 : 0 ≤ n) (h1 : n ≤ 65535) : Ev (fun k => impl_PutWord.f k n 2) (strOfNums (wd2 n)) := by
  have f1 : wrap64 (2 - 1) = 1 := w64 (by decide) (by decide)
  have f0 : wrap64 (1 - 1) = 0 := w64 (by decide) (by decide)
  have fm : wrap64 (0 - 1) = -1 := w64 (by decide) (by decide)
  have f16 : wrap64 (8 * 2) = 16 := w64 (by decide) (by decide)
  have fs : shl .i64 1 16 = 65536 := by decide
  have fn : wrap64 (-65536) = -65536 := w64 (by decide) (by decide)
  have fd : wrap64 (Int.tdiv (-65536) 2) = -32768 := w64 (by decide) (by decide)
  refine Ev.step (f := fun k => impl_PutWord.j1 k n 2 false) (fun k => ?_) ?_
  · show (if (2 : Int) < 1 then impl_PutWord.j0 (k + 1) n 2 true else impl_PutWord.j0 (k + 1) n 2 (decide ((2 : Int) > 4))) = _
    rw [if_neg (by decide)]
    simp only [impl_PutWord.j0]
    rw [f16, fs, fn, fd, if_neg (by decide), if_pos (by decide), if_neg (by omega), decide_eq_false (by omega)]
  refine Ev.step (f := fun k => impl_PutWord.l0 k [0, 0] n 1) (fun k => ?_) ?_
  · simp only [impl_PutWord.j1]
    rw [if_neg (by decide), show IntKind.u64.wrap n = n by rw [IntKind.wrap_u64]; omega, f1]
    rfl
  refine Ev.step (f := fun k => impl_PutWord.l0 k [0, n % 256] (n / 256) 0) (fun k => ?_) ?_
  · simp only [impl_PutWord.l0]
    rw [f0]
    rfl
  refine Ev.step (f := fun k => impl_PutWord.l0 k [n / 256, n % 256] (n / 256 / 256) (-1)) (fun k => ?_) ?_
  · simp only [impl_PutWord.l0]
    rw [show n / 256 % 256 = n / 256 by omega, fm]
    rfl
  refine Ev.step (f := fun _ => some (strOfNums (wd2 n))) (fun k => ?_) (Ev.now _)
  simp only [impl_PutWord.l0]
  rfl
theorem specWords_l0 (xs : List Int) (hn : xs.length ≤ 1048576) (hx : ∀ x ∈ xs, 0 ≤ x ∧ x ≤ 65535) : ∀ (d i : Nat), i + d = xs.length → Ev (fun k => spec_l23Words.l0 k xs (wdsB (xs.take i)) (i : Int)) (wdsB xs) := by
  intro d
  induction d with
  | zero =>
    intro i h
    rw [show xs.take i = xs from List.take_of_length_le (by omega)]
    refine Ev.step (fun k => by rw [spec_l23Words.l0]) ?_
    exact evNeg (by omega) (Ev.now _)
  | succ d ih =>
    intro i h
    have hi : i < xs.length := by omega
    have hx' := hx _ (List.getElem_mem hi)
    have e1 : (wdsB (xs.take i)).size ≤ 2097152 := by rw [wdsB_size, List.length_take]; omega
    have e2 : (strOfNums (wd2 xs[i])).size = 2 := by rw [strOfNums_size]; rfl
    have e3 : wdsB (xs.take i) ++ strOfNums (wd2 xs[i]) = wdsB (xs.take (i + 1)) := by
      rw [List.take_succ_eq_append_getElem hi, wdsB_app]
      congr 1
    refine Ev.step (fun k => by rw [spec_l23Words.l0]) ?_
    refine evPos (by omega) (evPos (by omega) (Ev.bind (a := strOfNums (wd2 xs[i])) ?_ (evPos (by omega) ?_)))
    · rw [rd_get hi]
      exact specWord _ hx'.1 hx'.2
    · rw [e3, w64 (by omega) (by omega)]
      have := ih (i + 1) (by omega)
      push_cast at this
      exact this
theorem specWords_ev (xs : List Int) (hn : xs.length ≤ 1048576) (hx : ∀ x ∈ xs, 0 ≤ x ∧ x ≤ 65535) : Ev (fun k => spec_l23Words.f k xs) (wdsB xs) :=
  specWords_l0 xs hn hx xs.length 0 (by omega)
theorem implWords_l0 (xs : List Int) (hn : xs.length ≤ 1048576) (hx : ∀ x ∈ xs, 0 ≤ x ∧ x ≤ 65535) : ∀ (d i : Nat), i + d = xs.length → Ev (fun k => impl_putWords.l0 k xs (wdsB (xs.take i)) (i : Int)) (wdsB xs) := by
  intro d
  induction d with
  | zero =>
    intro i h
    rw [show xs.take i = xs from List.take_of_length_le (by omega)]
    refine Ev.step (fun k => by rw [impl_putWords.l0]) ?_
    exact evNeg (by omega) (Ev.now _)
  | succ d ih =>
    intro i h
    have hi : i < xs.length := by omega
    have hx' := hx _ (List.getElem_mem hi)
    have e1 : (wdsB (xs.take i)).size ≤ 2097152 := by rw [wdsB_size, List.length_take]; omega
    have e2 : (strOfNums (wd2 xs[i])).size = 2 := by rw [strOfNums_size]; rfl
    have e3 : wdsB (xs.take i) ++ strOfNums (wd2 xs[i]) = wdsB (xs.take (i + 1)) := by
      rw [List.take_succ_eq_append_getElem hi, wdsB_app]
      congr 1
    refine Ev.step (fun k => by rw [impl_putWords.l0]) ?_
    refine evPos (by omega) (evPos (by omega) (Ev.bind (a := strOfNums (wd2 xs[i])) ?_ (evPos (by omega) ?_)))
    · rw [rd_get hi]
      exact implWord _ hx'.1 hx'.2
    · rw [e3, w64 (by omega) (by omega)]
      have := ih (i + 1) (by omega)
      push_cast at this
      exact this
theorem implWords_ev (xs : List Int) (hn : xs.length ≤ 1048576) (hx : ∀ x ∈ xs, 0 ≤ x ∧ x ≤ 65535) : Ev (fun k => impl_putWords.f k xs) (wdsB xs) :=
  implWords_l0 xs hn hx xs.length 0 (by omega)
/-- The words of some ranges, and how many glyphs they span. -/
def rgW : List S34 → Int → List Int
  | [], _ => []
  | r :: rs, at_ => r.f0 :: r.f1 :: at_ :: rgW rs (at_ + (r.f1 - r.f0 + 1))
def spanR : List S34 → Int
  | [] => 0
  | r :: rs => (r.f1 - r.f0 + 1) + spanR rs
theorem spanR_app (a b : List S34) : spanR (a ++ b) = spanR a + spanR b := by
  induction a with
  | nil => simp [spanR]
  | cons x a ih => simp only [List.cons_append, spanR, ih]; omega
def upR (r : S34) : Prop := okR r ∧ r.f0 ≤ r.f1
theorem spanR_nonneg : ∀ rs : List S34, (∀ r ∈ rs, upR r) → 0 ≤ spanR rs
  | [], _ => Int.le_refl _
  | r :: rs, h => by
    have h1 := (h r List.mem_cons_self).2
    have h2 := spanR_nonneg rs fun x hx => h x (List.mem_cons_of_mem _ hx)
    simp only [spanR]
    omega
theorem joinR_span (out : List S34) (g : Int) (ho : ∀ r ∈ out, upR r) (hg : 0 ≤ g ∧ g ≤ 65535) : spanR (joinR out g) = spanR out + 1 ∧ ∀ r ∈ joinR out g, upR r := by
  rcases List.eq_nil_or_concat out with rfl | ⟨init, l, rfl⟩
  · refine ⟨by simp [joinR, spanR], ?_⟩
    intro r hr
    simp [joinR] at hr
    subst hr
    exact ⟨⟨hg, hg⟩, Int.le_refl _⟩
  · simp only [List.concat_eq_append] at ho ⊢
    have e : rd_T34 (init ++ [l]) (((init ++ [l]).length : Int) - 1) = l := by
      rw [show (((init ++ [l]).length : Int) - 1) = ((init.length : Nat) : Int) by simp, rdR_get (by simp)]
      simp
    have hl := ho l (by simp)
    unfold joinR
    rw [e]
    by_cases h : 0 < (init ++ [l]).length ∧ l.f1 = g - 1
    · rw [if_pos h]
      have e2 : (init ++ [l]).set ((init ++ [l]).length - 1) (⟨l.f0, g⟩ : S34) = init ++ [⟨l.f0, g⟩] := by simp
      rw [e2]
      refine ⟨by simp only [spanR_app, spanR]; omega, ?_⟩
      intro r hr
      rcases List.mem_append.1 hr with h1 | h1
      · exact ho r (by simp [h1])
      · rw [List.mem_singleton.1 h1]
        exact ⟨⟨hl.1.1, hg⟩, by have := hl.2; show l.f0 ≤ g; omega⟩
    · rw [if_neg h]
      refine ⟨by simp only [spanR_app, spanR]; omega, ?_⟩
      intro r hr
      rcases List.mem_append.1 hr with h1 | h1
      · exact ho r h1
      · rw [List.mem_singleton.1 h1]
        exact ⟨⟨hg, hg⟩, Int.le_refl _⟩
theorem rangesM_span (xs : List Int) (hx : ∀ x ∈ xs, 0 ≤ x ∧ x ≤ 65535) : spanR (rangesM xs) = xs.length ∧ ∀ r ∈ rangesM xs, upR r := by
  have key : ∀ (xs : List Int) (out : List S34), (∀ x ∈ xs, 0 ≤ x ∧ x ≤ 65535) → (∀ r ∈ out, upR r) → spanR (xs.foldl joinR out) = spanR out + xs.length ∧ ∀ r ∈ xs.foldl joinR out, upR r := by
    intro xs
    induction xs with
    | nil => intro out _ ho; exact ⟨by simp, ho⟩
    | cons x xs ih =>
      intro out hx ho
      rw [List.foldl_cons]
      have h1 := joinR_span out x ho (hx x List.mem_cons_self)
      have h2 := ih _ (fun y hy => hx y (List.mem_cons_of_mem _ hy)) h1.2
      refine ⟨?_, h2.2⟩
      rw [h2.1, h1.1, List.length_cons]
      push_cast
      omega
  have := key xs [] hx (by simp)
  exact ⟨by have h := this.1; simp only [spanR, Int.zero_add] at h; exact h, this.2⟩
theorem specEnc_l0 (rs : List S34) (hn : rs.length ≤ 1048576) (hr : ∀ r ∈ rs, upR r) : ∀ (d i : Nat) (out : ByteArray) (at_ : Int), i + d = rs.length → out.size ≤ 4 + 6 * i → 0 ≤ at_ → at_ + spanR (rs.drop i) ≤ 65535 →
    Ev (fun k => spec_l23Encode.l0 k rs out at_ (i : Int)) (out ++ wdsB (rgW (rs.drop i) at_)) := by
  intro d
  induction d with
  | zero =>
    intro i out at_ h _ _ _
    rw [List.drop_of_length_le (by omega)]
    refine Ev.step (fun k => by rw [spec_l23Encode.l0]) ?_
    refine evNeg (by omega) ?_
    rw [rgW, wdsB_nil, bx_nil']
    exact Ev.now _
  | succ d ih =>
    intro i out at_ h hs h0 h1
    have hi : i < rs.length := by omega
    have hd := List.drop_eq_getElem_cons hi
    have hm := hr _ (List.getElem_mem hi)
    obtain ⟨⟨⟨a0, a1⟩, a2, a3⟩, a4⟩ := hm
    have hsp := spanR_nonneg (rs.drop (i + 1)) fun r hx => hr r (List.mem_of_mem_drop hx)
    rw [hd] at h1 ⊢
    simp only [spanR] at h1
    have e1 : (wdsB [rs[i].f0, rs[i].f1, at_]).size = 6 := by rw [wdsB_size]; rfl
    refine Ev.step (fun k => by rw [spec_l23Encode.l0]) ?_
    refine evPos (by omega) (evPos (by omega) (Ev.bind (a := wdsB [rs[i].f0, rs[i].f1, at_]) ?_ (evPos (by omega) ?_)))
    · rw [rdR_get hi]
      refine specWords_ev _ (by simp) fun x hx => ?_
      simp only [List.mem_cons, List.not_mem_nil, or_false] at hx
      rcases hx with rfl | rfl | rfl <;> omega
    · rw [rdR_get hi, w64 (x := rs[i].f1 - rs[i].f0) (by omega) (by omega), w64 (x := rs[i].f1 - rs[i].f0 + 1) (by omega) (by omega), w64 (x := at_ + (rs[i].f1 - rs[i].f0 + 1)) (by omega) (by omega), w64 (x := (i : Int) + 1) (by omega) (by omega)]
      have := ih (i + 1) (out ++ wdsB [rs[i].f0, rs[i].f1, at_]) (at_ + (rs[i].f1 - rs[i].f0 + 1)) (by omega) (by rw [bx_size, e1]; omega) (by omega) (by omega)
      rw [bx_assoc, ← wdsB_app] at this
      push_cast at this
      exact this
theorem implEnc_l0 (one : ByteArray) (rs : List S34) (hn : rs.length ≤ 1048576) (hr : ∀ r ∈ rs, upR r) : ∀ (d i : Nat) (out : ByteArray) (at_ : Int), i + d = rs.length → out.size = 4 + 6 * i → 0 ≤ at_ → at_ + spanR (rs.drop i) ≤ 65535 →
    Ev (fun k => impl_encodeClass.l0 k one out at_ rs (rs.length : Int) (i : Int)) (if 4 + 6 * rs.length < one.size then out ++ wdsB (rgW (rs.drop i) at_) else one) := by
  intro d
  induction d with
  | zero =>
    intro i out at_ h hs _ _
    rw [List.drop_of_length_le (by omega)]
    refine Ev.step (fun k => by rw [impl_encodeClass.l0]) ?_
    refine evNeg (by omega) ?_
    rw [rgW, wdsB_nil, bx_nil']
    by_cases hc : 4 + 6 * rs.length < one.size
    · rw [if_pos hc]
      exact evPos (by omega) (Ev.now _)
    · rw [if_neg hc]
      exact evNeg (by omega) (Ev.now _)
  | succ d ih =>
    intro i out at_ h hs h0 h1
    have hi : i < rs.length := by omega
    have hd := List.drop_eq_getElem_cons hi
    have hm := hr _ (List.getElem_mem hi)
    obtain ⟨⟨⟨a0, a1⟩, a2, a3⟩, a4⟩ := hm
    have hsp := spanR_nonneg (rs.drop (i + 1)) fun r hx => hr r (List.mem_of_mem_drop hx)
    rw [hd] at h1 ⊢
    simp only [spanR] at h1
    have e1 : (wdsB [rs[i].f0, rs[i].f1, at_]).size = 6 := by rw [wdsB_size]; rfl
    refine Ev.step (fun k => by rw [impl_encodeClass.l0]) ?_
    refine evPos (by omega) (evPos (by omega) (evPos (by omega) (Ev.bind (a := wdsB [rs[i].f0, rs[i].f1, at_]) ?_ (evPos (by omega) ?_))))
    · rw [rdR_get hi]
      refine implWords_ev _ (by simp) fun x hx => ?_
      simp only [List.mem_cons, List.not_mem_nil, or_false] at hx
      rcases hx with rfl | rfl | rfl <;> omega
    · rw [rdR_get hi, w64 (x := rs[i].f1 - rs[i].f0) (by omega) (by omega), w64 (x := rs[i].f1 - rs[i].f0 + 1) (by omega) (by omega), w64 (x := at_ + (rs[i].f1 - rs[i].f0 + 1)) (by omega) (by omega), w64 (x := (i : Int) + 1) (by omega) (by omega)]
      have := ih (i + 1) (out ++ wdsB [rs[i].f0, rs[i].f1, at_]) (at_ + (rs[i].f1 - rs[i].f0 + 1)) (by omega) (by rw [bx_size, e1]; omega) (by omega) (by omega)
      rw [bx_assoc, ← wdsB_app] at this
      push_cast at this
      exact this
/-- The binary form of a class. -/
def encM (xs : List Int) : ByteArray :=
  if 3 * (rangesM xs).length < xs.length then wdsB [2, ((rangesM xs).length : Int)] ++ wdsB (rgW (rangesM xs) 0) else wdsB [1, (xs.length : Int)] ++ wdsB xs
theorem specEnc_ev (xs : List Int) (hn : xs.length ≤ 65535) (hx : ∀ x ∈ xs, 0 ≤ x ∧ x ≤ 65535) : Ev (fun k => spec_l23Encode.f k xs) (encM xs) := by
  have hs := rangesM_span xs hx
  have hl := rangesM_length xs
  unfold encM
  refine Ev.bind (specRanges_ev xs (by omega) hx) ?_
  rw [w64 (x := 3 * ((rangesM xs).length : Int)) (by omega) (by omega)]
  have two : ∀ (a b : Int), 0 ≤ a → a ≤ 65535 → 0 ≤ b → b ≤ 65535 → ∀ x ∈ [a, b], 0 ≤ x ∧ x ≤ 65535 := by
    intro a b h1 h2 h3 h4 x hx
    simp only [List.mem_cons, List.not_mem_nil, or_false] at hx
    rcases hx with rfl | rfl <;> omega
  by_cases h : 3 * (rangesM xs).length < xs.length
  · rw [if_pos h]
    refine evNeg (by omega) (Ev.bind (specWords_ev _ (by simp) (two _ _ (by omega) (by omega) (by omega) (by omega))) ?_)
    have := specEnc_l0 (rangesM xs) (by omega) hs.2 (rangesM xs).length 0 (wdsB [2, ((rangesM xs).length : Int)]) 0 (by omega) (by rw [wdsB_size]; simp) (by omega) (by rw [List.drop_zero, hs.1]; omega)
    rw [List.drop_zero] at this
    exact this
  · rw [if_neg h]
    refine evPos (by omega) (Ev.bind (specWords_ev _ (by simp) (two _ _ (by omega) (by omega) (by omega) (by omega))) (Ev.bind (specWords_ev xs (by omega) hx) (evPos ?_ (Ev.now _))))
    rw [wdsB_size, wdsB_size]; simp only [List.length_cons, List.length_nil]; omega
theorem implEnc_ev (xs : List Int) (hn : xs.length ≤ 65535) (hx : ∀ x ∈ xs, 0 ≤ x ∧ x ≤ 65535) : Ev (fun k => impl_encodeClass.f k xs) (encM xs) := by
  have hs := rangesM_span xs hx
  have hl := rangesM_length xs
  have two : ∀ (a b : Int), 0 ≤ a → a ≤ 65535 → 0 ≤ b → b ≤ 65535 → ∀ x ∈ [a, b], 0 ≤ x ∧ x ≤ 65535 := by
    intro a b h1 h2 h3 h4 x hx
    simp only [List.mem_cons, List.not_mem_nil, or_false] at hx
    rcases hx with rfl | rfl <;> omega
  have s1 : (wdsB [1, (xs.length : Int)]).size = 4 := by rw [wdsB_size]; rfl
  have s2 : (wdsB xs).size = 2 * xs.length := wdsB_size xs
  refine Ev.bind (implWords_ev _ (by simp) (two _ _ (by omega) (by omega) (by omega) (by omega))) (Ev.bind (implWords_ev xs (by omega) hx) (evPos (by omega) ?_))
  refine Ev.bind (implRanges_ev xs (by omega) hx) (Ev.bind (implWords_ev _ (by simp) (two _ _ (by omega) (by omega) (by omega) (by omega))) ?_)
  have := implEnc_l0 (wdsB [1, (xs.length : Int)] ++ wdsB xs) (rangesM xs) (by omega) hs.2 (rangesM xs).length 0 (wdsB [2, ((rangesM xs).length : Int)]) 0 (by omega) (by rw [wdsB_size]; simp) (by omega) (by rw [List.drop_zero, hs.1]; omega)
  rw [List.drop_zero, bx_size, s1, s2] at this
  have e : (if 4 + 6 * (rangesM xs).length < 4 + 2 * xs.length then wdsB [2, ((rangesM xs).length : Int)] ++ wdsB (rgW (rangesM xs) 0) else wdsB [1, (xs.length : Int)] ++ wdsB xs) = encM xs := by
    unfold encM
    by_cases h : 3 * (rangesM xs).length < xs.length
    · rw [if_pos h, if_pos (by omega)]
    · rw [if_neg h, if_neg (by omega)]
  rw [e] at this
  exact this
theorem VC.len {xs : List Int} (h : VC xs) : xs.length ≤ 40 := by
  have key : ∀ j : Nat, j < xs.length → (j : Int) ≤ rd xs j := by
    intro j
    induction j with
    | zero => intro hj; exact (h 0 hj).1
    | succ j ih =>
      intro hj
      have h1 := ih (by omega)
      have h2 := (h (j + 1) hj).2.2 (by omega)
      rw [show (((j + 1 : Nat) : Int) - 1) = (j : Int) by omega] at h2
      omega
  by_cases h0 : xs.length ≤ 40
  · exact h0
  · have h1 := key (xs.length - 1) (by omega)
    have h2 := (h (xs.length - 1) (by omega)).2.1
    omega
-- part: the law
theorem FnExactEncodeClass : Owed := by
  intro a _
  apply Ev.rounds
  by_cases ha : (a.length : Int) > 1048576
  · exact evPos ha (Ev.now true)
  refine evNeg ha ?_
  have key : ∃ r : ByteArray × Int, Ev (fun k => spec_EncodeClass.f k a) r ∧ Ev (fun k => impl_EncodeClass.f k a) r := by
    obtain ⟨x, hx, hx', hv⟩ := valid_both a (by omega)
    cases x with
    | false => exact ⟨(⟨#[]⟩, 1), Ev.bind hx (evNeg (by simp) (Ev.now _)), Ev.bind hx' (evNeg (by simp) (Ev.now _))⟩
    | true =>
      have hb : ∀ y ∈ a, 0 ≤ y ∧ y ≤ 65535 := fun y hy => by have := (hv.1 rfl).range hy; omega
      have hl := (hv.1 rfl).len
      exact ⟨(encM a, 0), Ev.bind hx (evPos rfl (Ev.bind (specEnc_ev a (by omega) hb) (Ev.now _))), Ev.bind hx' (evPos rfl (Ev.bind (implEnc_ev a (by omega) hb) (Ev.now _)))⟩
  obtain ⟨r, h1, h2⟩ := key
  have ta := toInt64S_ev a (by omega)
  have ea := eqInt64S_ev a (by omega)
  refine Ev.step (fun k => by rw [laws_FnExactEncodeClass.j0]) ?_
  refine Ev.bind ta (Ev.bind h1 (Ev.bind ta (Ev.bind h2 (evPos rfl ?_))))
  refine Ev.step (fun k => by rw [laws_FnExactEncodeClass.j1]) ?_
  refine evNeg (by simp) ?_
  refine Ev.step (fun k => by rw [laws_FnExactEncodeClass.j2]) ?_
  exact Ev.bind ta (Ev.bind ea (evPos rfl (Ev.now true)))
end Go.Proofs.Ythngjfipdfckkaa.Pure
